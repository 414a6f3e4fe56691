/-
  What the law SnapTorn needs of our own library and of the walks, no more.
-/
import Derived.Test.YtfclkapelkhlpaaGreatDoorProg
import Derived.Test.YtfclkapelkhlpaaGreatDoorSnapTornTc
set_option linter.unusedSimpArgs false
set_option linter.unusedVariables false
set_option maxRecDepth 10000
namespace Go.Proofs.YtfclkapelkhlpaaGreatDoor
open Go Go.Proofs Go.LX
noncomputable section
theorem vZ (N : Nat) (w0 : World) (M : BS) (hM : ∀ b, M b → b < w0.heap.size) (hT : sM Tryz.prog 4 w0) (a : Str) (r : List dO × Int) (hs : jy N a = some r) :
    Calls Tryz.prog 77 #[(aN a)] w0 (fun e w' => Grow w0 w' ∧ ∃ u0, e = .returned (.tuple #[u0, .int .i64 r.2]) ∧ dC gT 113 w' M u0 r.1 ∧ (∀ b, ob u0 b → w0.heap.size ≤ b)) := by
 refine aH (args := [(aN a)]) Tryz.func77 rfl Tryz.ntmps77 (bB rfl) ?_
 have h := SH.init hM
 refine nG (aa (ae (v := (.slice none 0 0)) rfl) (aa (ae (v := (I6 0)) rfl) (nJ (aa (ag (v := (aN a)) rfl) ?_))))
 obtain ⟨y1, e2, hs⟩ := aJ hs
 refine aM Rl rfl rfl (Dv _ _ h.lt (hT.go h.keep) a [32] _ e2) ?_
 rintro _ w ⟨k5, u3, rfl, g4⟩
 refine ⟨_, rfl, ?_⟩
 replace h := h.Bc 1 k5 g4
 refine nZ h 2 lC fun w b6 h => dV h 2 [u3] rfl lC rfl rfl rfl rfl (h.fq 1 rfl).one fun w h => nJ (nZ h 3 wJ fun w b7 h => nK (aa (aC h 2 rfl lC rfl rfl) (aa (bC dK rfl (h.mY 1 rfl)) (aa (ag (v := (I6 0)) rfl) (nN (aI ?_))))))
 replace h := h.vS (R := gT) (E := 113) 7
 refine fe (σ := Nat × Int × Value × List dO) (inl (rg 6 6 ++ rg 24 39)) (fun ⟨k16, i17, v14, uI⟩ => [(24, (I6 i17))]) (fun ⟨k16, i17, v14, uI⟩ w => SH w0 M BE w (hset [(1, .rd l8 u3 y1), (2, .blk b6 [u3]), (3, .blk b7 [v14]), (7, .own gT 113 v14 uI)]) ∧ i17 = (k16 : Int) ∧ eU (iA y1) (gy N y1 a) i17 (y1.drop k16) uI = some r) (fun ⟨k16, i17, v14, uI⟩ => y1.length - k16) ⟨0, 0, (.slice none 0 0), []⟩ ⟨rfl, trivial⟩ ?_ ?_
 exact ⟨h.cn _, rfl, hs⟩
 rintro ⟨k16, i17, v14, uI⟩ w cZ ⟨h, hik, hs⟩
 refine nG ?_
 refine aa (dm rfl rfl) (nN ?_)
 refine aK (gF rfl (fun e21 => ?_) (fun e21 => ?_))
 refine aF (aj ?_)
 obtain ⟨xn, Z7, Z8⟩ := fH (hik ▸ e21)
 rw [Z8, jh] at hs
 generalize Wy : eU (iA y1) (gy N y1 a) (i17 + 1) (y1.drop (k16 + 1)) = FI at hs
 have Wz := fK ((h.mY 1 rfl)).bG hik e21
 refine bQ (σ := Value × List dO) (inl (rg 6 6 ++ rg 26 36)) (fun ⟨v23, y24⟩ => []) (fun ⟨v23, y24⟩ w => SH w0 M BE w (hset [(1, .rd l8 u3 y1), (2, .blk b6 [u3]), (3, .blk b7 [v23]), (7, .own gT 113 v23 y24)]) ∧ j5 FI y24 = some r) ?_ ?_
 rintro ⟨v23, y24⟩ w cZ ⟨h, hs⟩
 refine az (aa (bU rfl rfl Wz) (aa (ag (v := (I6 ((i17 + 1)))) rfl) (aB (ak ?_))))
 subst Wy
 exact iW ⟨k16 + 1, i17 + 1, v23, y24⟩ ⟨h.cn _, by omega, hs⟩ (by have := nX e21; dsimp only; omega)
 refine aI (nG (aa (ag (v := (I6 i17)) rfl) ?_))
 obtain ⟨Vo, o27, UF, h, UG, i25⟩ := h.FU 1 8 rfl dK rfl (ic hik) (fJ hik Z7)
 obtain rfl := UG
 refine aa (i25 _ _ _ _ _ _ _ _ _ rfl rfl) (aa (dY (k := 0) h 8 rfl wK rfl rfl) (aa (ae (v := (I6 i17)) rfl) (aa (ae (v := (aN xn)) rfl) (nN (bQ (σ := Bool) (inl (rg 29 9)) (fun x30 => [(37, (.bool (x30)))]) (fun x30 w => SH w0 M BE w (hset [(1, .rd l8 u3 y1), (2, .blk b6 [u3]), (3, .blk b7 [v14]), (7, .own gT 113 v14 uI)]) ∧ j6 y1 i17 uI FI x30 = some r) ?_ ?_)))))
 rintro x30 w cZ ⟨h, hs⟩
 refine aG hs rfl (fun c31 hs => ?_) (fun c31 hs => ?_)
 refine nG (aa (aC h 2 rfl lC rfl rfl) (aa (ag (v := (I6 i17)) rfl) (aa (bU rfl rfl Wz) ?_)))
 obtain ⟨x32, e33, hs⟩ := aJ hs
 obtain ⟨b35, o36, YO, h, YP, i34⟩ := h.FU 1 9 rfl dK rfl (aU e33).1 (aU e33).2
 obtain rfl := YP
 refine aa (i34 _ _ _ _ _ _ _ _ _ rfl rfl) (aa (dY (k := 0) h 9 rfl wK rfl rfl) ?_)
 obtain ⟨y39, e40, hs⟩ := aJ hs
 refine aM Bt rfl rfl (om _ _ h.lt (hT.go h.keep) x32 _ e40) ?_
 rintro _ w ⟨Z9, Ye, rfl, g42⟩
 refine ⟨_, rfl, ?_⟩
 replace h := h.grow Z9
 refine aa (ag (v := (.tuple #[(I6 y39.1), Ye])) rfl) (aa (bz rfl rfl) (aa (bz rfl rfl) (aa (ae (v := (I6 y39.1)) rfl) (aa (ae (v := Ye) rfl) (nJ (aa (aC h 2 rfl lC rfl rfl) (aa (ag (v := (I6 i17)) rfl) ?_)))))))
 obtain ⟨a44, hs⟩ := aW hs
 refine aa (bU rfl rfl a44) ?_
 obtain ⟨Z6, e46, hs⟩ := aJ hs
 obtain ⟨b48, o49, cs50, h, r51, i47⟩ := h.FU 1 10 rfl dK rfl (aU e46).1 (aU e46).2
 obtain rfl := r51
 refine aa (i47 _ _ _ _ _ _ _ _ _ rfl rfl) (aa (dY (k := 0) h 10 rfl wK rfl rfl) ?_)
 obtain ⟨rG, e53, hs⟩ := aJ hs
 refine aM Bt rfl rfl (om _ _ h.lt (hT.go h.keep) Z6 _ e53) ?_
 rintro _ w ⟨k56, Vz, rfl, g55⟩
 refine ⟨_, rfl, ?_⟩
 replace h := h.grow k56
 refine aa (ag (v := (.tuple #[(I6 rG.1), Vz])) rfl) (aa (bz rfl rfl) (aa (bz rfl rfl) (aa (ae (v := (I6 rG.1)) rfl) (aa (ae (v := Vz) rfl) (nN (az (aa (aC h 3 rfl wJ rfl rfl) (aa (ag (v := (I6 y39.1)) rfl) (aa (ag (v := (I6 rG.1)) rfl) (aa (ek (pv := [(0, (I6 y39.1)), (1, (I6 rG.1))]) (out := [(I6 y39.1), (I6 rG.1), (.slice none 0 0)]) MO rfl ⟨0, 1, [(I6 y39.1)], rfl, rfl, rfl, bB rfl, ⟨1, 1, [(I6 rG.1)], rfl, rfl, rfl, bB rfl, rfl⟩⟩) (pK (R := gT) (vs := [(.agg #[(I6 y39.1), (I6 rG.1), (.slice none 0 0)])]) (xs := [(⟨y39.1, rG.1, []⟩ : dO)]) h 11 I8 rfl rfl rfl ⟨⟨_, rfl, eY.nil⟩, trivial⟩ rfl fun w u57 h => ?_)))))))))))
 obtain ⟨a58, hs⟩ := aW hs
 refine jm (R := gT) (m := [(⟨y39.1, rG.1, []⟩ : dO)]) h 7 rfl (h.dE 11 rfl) I8 rfl rfl rfl a58.1 a58.2 fun w u59 h => dV h 3 [u59] rfl wJ rfl rfl rfl rfl (h.fD 7 rfl).one fun w h => aB (au (ak ?_))
 exact bO (u59, (uI ++ [(⟨y39.1, rG.1, []⟩ : dO)])) ⟨h.cn _, hs⟩
 refine aF (au (ak ?_))
 exact bO (v14, uI) ⟨h.cn _, hs⟩
 refine az (aa (ag (v := (aN xn)) rfl) (aa (Cj rfl rfl) (aa (ag (v := (.bool (decide ((xn : Str) = [102, 117, 110])))) rfl) (mi (b := decide ((xn : Str) = [102, 117, 110])) hs (fun KQ hs => ?_) (fun KQ hs => ?_)))))
 refine dB rfl (cB KQ) (aa (ag (v := (I6 i17)) rfl) (dB rfl (cB KQ) ?_))
 obtain ⟨a61, hs⟩ := aW hs
 refine aa (bU rfl rfl a61) (dB rfl (cB KQ) (aa (aC h 2 rfl lC rfl rfl) (dB rfl (cB KQ) (aa (bC dK rfl (h.mY 1 rfl)) (dB rfl (cB KQ) (aa (dm rfl rfl) (aa (fo (b := true) (v := (.bool (decide (((i17 + 2) : Int) < (y1.length : Int))))) (cB KQ) rfl) (aB (ak ?_)))))))))
 exact bO (decide (((i17 + 2) : Int) < (y1.length : Int))) ⟨h.cn _, hs⟩
 refine uZ rfl (cB KQ) rfl (uZ rfl (cB KQ) rfl (uZ rfl (cB KQ) rfl (uZ rfl (cB KQ) rfl (uZ rfl (cB KQ) rfl (aa (fo (b := false) (v := (.bool (false))) (cB KQ) rfl) (aB (ak ?_)))))))
 exact bO false ⟨h.cn _, hs⟩
 rw [fI (hik ▸ e21), oO] at hs
 refine jd (bK (bK (eF (aj (aK (nG (aa (aC h 3 rfl wJ rfl rfl) (aa (bC gH rfl (h.dE 7 rfl)) (aa (bH rfl rfl) (aa (ag (v := (.bool (decide (((uI.length : Int) : Int) = 0)))) rfl) (aA rfl rfl (fun q => aC h 3 rfl wJ rfl rfl) (aA rfl rfl (fun q => bC gH (bZ q) (h.dE 7 rfl)) (aA rfl rfl (fun q => iV (bZ q) rfl) (aa (gK rfl rfl mX) (nN (aG hs rfl (fun c62 hs => ?_) (fun c62 hs => ?_)))))))))))))))))
 refine nG (aa (ae (v := (.slice none 0 0)) rfl) (aa (ae (v := (I6 1)) rfl) (nR (ax (zR (v1 := (.slice none 0 0)) (v2 := (I6 1)) Tryz.results77 rfl rfl ?_)))))
 obtain rfl := gM hs
 exact ⟨h.grown, _, rfl, dC.nil, kX⟩
 refine aF (aj (aK (nG (aa (aC h 3 rfl wJ rfl rfl) (aa (bC gH rfl (h.dE 7 rfl)) (aa (ag (v := (I6 0)) rfl) (nN (aI ?_))))))))
 have WA := (h.dE 7 rfl).bG
 refine fe (σ := Nat × Int) (inl ([2, 3, 13] ++ rg 73 9)) (fun ⟨SF, i64⟩ => [(73, (I6 i64))]) (fun ⟨SF, i64⟩ w => SH w0 M BE w (hset [(1, .rd l8 u3 y1), (2, .blk b6 [u3]), (3, .blk b7 [v14]), (7, .own gT 113 v14 uI)]) ∧ i64 = (SF : Int) ∧ upto (iy uI) (gu N y1 a uI) i64 (((uI.length : Int)).toNat - SF) () = some r) (fun ⟨SF, i64⟩ => ((uI.length : Int)).toNat - SF) ⟨0, 0⟩ ⟨rfl, trivial⟩ ?_ ?_
 exact ⟨h.cn _, rfl, hs⟩
 rintro ⟨SF, i64⟩ w cZ ⟨h, hik, hs⟩
 refine nG ?_
 refine aa (dm rfl rfl) (nN ?_)
 refine aK (gF rfl (fun Rz => ?_) (fun Rz => ?_))
 refine aF (aj ?_)
 rw [pW (by have := nX Rz; omega)] at hs
 generalize WB : upto (iy uI) (gu N y1 a uI) (i64 + 1) (((uI.length : Int)).toNat - (SF + 1)) = Wx at hs
 have e69r : jg (i64 + 1) := (by have := nX Rz; have := WA; exact jg.mk (by omega) (by omega))
 refine aK (aI (nG ?_))
 obtain ⟨RL, RN, hs⟩ := aJ hs
 obtain ⟨b73, q74, i72⟩ := h.II 7 rfl gH rfl (aU RN).1 (aU RN).2
 refine aa (i72 _ _ _ _ _ _ _ _ _ rfl rfl) ?_
 obtain ⟨cs75, m76, r77⟩ := h.NT 7 rfl q74 (aU RN).2
 obtain ⟨Fv, rfl, g79⟩ := qo r77
 replace h := h.bD 12 g79
 refine aa (Cg (k := 0) (vs := [(I6 RL.params), (I6 RL.locals), Fv]) m76 kI rfl rfl rfl (bB rfl)) (bL h 13 kI fun w b80 h => dS (vs := [(I6 RL.params), (I6 RL.locals), Fv]) h 13 [(I6 RL.params), (I6 RL.locals), Fv] rfl kI rfl rfl rfl rfl rfl (ai rfl (ai rfl (ai (h.fq 12 rfl).one aZ))) fun w h => nJ (aa (ah sO rfl) (aa (aC h 13 rfl aS rfl rfl) (aM vT rfl rfl (fC _ _ h.lt RL.params 0 3 _ rfl) ?_))))
 rintro _ w ⟨ZI, rfl⟩
 refine ⟨_, rfl, ?_⟩
 replace h := h.grow ZI
 refine aa (fU rfl) (nN (aG hs rfl (fun c82 hs => ?_) (fun c82 hs => ?_)))
 refine nG (aa (ae (v := (.slice none 0 0)) rfl) (aa (ae (v := (I6 1)) rfl) (nR (aD (ax (ax (aD (ax (zR (v1 := (.slice none 0 0)) (v2 := (I6 1)) Tryz.results77 rfl rfl ?_)))))))))
 obtain rfl := gM hs
 exact ⟨h.grown, _, rfl, dC.nil, kX⟩
 refine aF (au (aj (az (aa (bU rfl rfl e69r) (aa (ag (v := (I6 ((i64 + 1)))) rfl) (aB (ak ?_)))))))
 subst WB
 exact iW ⟨SF + 1, i64 + 1⟩ ⟨h.cn _, by omega, hs⟩ (by have := nX Rz; dsimp only; omega)
 rw [pX (by have := of_decide_eq_false Rz; omega)] at hs
 refine nE (nZ h 14 aS fun w Di h => dV h 14 [(I6 0)] rfl aS rfl rfl rfl rfl rfl fun w h => nJ (nZ h 15 vU fun w xq h => dV h 15 [(.bool (true))] rfl vU rfl rfl rfl rfl rfl fun w h => nJ (aa (qc (c1 := []) (c2 := [(.pointer (some ⟨Di, 0, none⟩)), (.pointer (some ⟨b6, 0, none⟩)), (.pointer (some ⟨xq, 0, none⟩))]) rfl rfl) (nZ h 16 xK fun w FC h => dV h 16 [(.func (.func 103) #[] #[(.pointer (some ⟨Di, 0, none⟩)), (.pointer (some ⟨b6, 0, none⟩)), (.pointer (some ⟨xq, 0, none⟩))])] rfl xK rfl rfl rfl rfl rfl fun w h => nN ?_))))
 refine nG (aa (qc (c1 := []) (c2 := [(.pointer (some ⟨xq, 0, none⟩)), (.pointer (some ⟨FC, 0, none⟩)), (.pointer (some ⟨b7, 0, none⟩))]) rfl rfl) (nZ h 17 Hq fun w M5 h => dV h 17 [(.func (.func 104) #[] #[(.pointer (some ⟨xq, 0, none⟩)), (.pointer (some ⟨FC, 0, none⟩)), (.pointer (some ⟨b7, 0, none⟩))])] rfl Hq rfl rfl rfl rfl rfl fun w h => nJ (nZ h 18 En fun w M6 h => nJ (aa (qc (c1 := []) (c2 := [(.pointer (some ⟨FC, 0, none⟩)), (.pointer (some ⟨xq, 0, none⟩)), (.pointer (some ⟨M5, 0, none⟩)), (.pointer (some ⟨M6, 0, none⟩))]) rfl rfl) (dV h 18 [(.func (.func 109) #[] #[(.pointer (some ⟨FC, 0, none⟩)), (.pointer (some ⟨xq, 0, none⟩)), (.pointer (some ⟨M5, 0, none⟩)), (.pointer (some ⟨M6, 0, none⟩))])] rfl En rfl rfl rfl rfl rfl fun w h => nK (aa (aC h 3 rfl wJ rfl rfl) (aa (bC gH rfl (h.dE 7 rfl)) (aa (ag (v := (I6 0)) rfl) ?_))))))))
 refine nN (aI ?_)
 have UH := (h.dE 7 rfl).bG
 refine fe (σ := Nat × Int × List dO × Int × Bool) (inl ([19] ++ rg 87 17)) (fun ⟨Jq, i101, pI, y98, y99⟩ => [(87, (I6 i101))]) (fun ⟨Jq, i101, pI, y98, y99⟩ w => SH w0 M BE w (hset [(1, .rd l8 u3 y1), (2, .blk b6 [u3]), (3, .blk b7 [v14]), (7, .own gT 113 v14 pI), (14, .blk Di [(I6 y98)]), (15, .blk xq [(.bool (y99))]), (16, .blk FC [(.func (.func 103) #[] #[(.pointer (some ⟨Di, 0, none⟩)), (.pointer (some ⟨b6, 0, none⟩)), (.pointer (some ⟨xq, 0, none⟩))])]), (17, .blk M5 [(.func (.func 104) #[] #[(.pointer (some ⟨xq, 0, none⟩)), (.pointer (some ⟨FC, 0, none⟩)), (.pointer (some ⟨b7, 0, none⟩))])]), (18, .blk M6 [(.func (.func 109) #[] #[(.pointer (some ⟨FC, 0, none⟩)), (.pointer (some ⟨xq, 0, none⟩)), (.pointer (some ⟨M5, 0, none⟩)), (.pointer (some ⟨M6, 0, none⟩))])])]) ∧ i101 = (Jq : Int) ∧ upto (gq N y1) (iw N y1 a) i101 (((uI.length : Int)).toNat - Jq) (pI, y98, y99) = some r) (fun ⟨Jq, i101, pI, y98, y99⟩ => ((uI.length : Int)).toNat - Jq) ⟨0, 0, uI, 0, true⟩ ⟨rfl, trivial⟩ ?_ ?_
 exact ⟨h.cn _, rfl, hs⟩
 rintro ⟨Jq, i101, pI, y98, y99⟩ w cZ ⟨h, hik, hs⟩
 refine nG ?_
 refine aa (dm rfl rfl) (nN ?_)
 refine aK (gF rfl (fun HV => ?_) (fun HV => ?_))
 refine aF (aj ?_)
 rw [pW (by have := nX HV; omega)] at hs
 generalize UI : upto (gq N y1) (iw N y1 a) (i101 + 1) (((uI.length : Int)).toNat - (Jq + 1)) = jE at hs
 have WE : jg (i101 + 1) := (by have := nX HV; have := UH; exact jg.mk (by omega) (by omega))
 refine aK (aI (nG (aa (ag (v := (I6 i101)) rfl) (aa (ae (v := (I6 i101)) rfl) (nN (bQ (σ := Int × Bool) (inl [90, 91, 92]) (fun ⟨nu, HZ⟩ => []) (fun ⟨nu, HZ⟩ w => SH w0 M BE w (hset [(1, .rd l8 u3 y1), (2, .blk b6 [u3]), (3, .blk b7 [v14]), (7, .own gT 113 v14 pI), (14, .blk Di [(I6 nu)]), (15, .blk xq [(.bool (HZ))]), (16, .blk FC [(.func (.func 103) #[] #[(.pointer (some ⟨Di, 0, none⟩)), (.pointer (some ⟨b6, 0, none⟩)), (.pointer (some ⟨xq, 0, none⟩))])]), (17, .blk M5 [(.func (.func 104) #[] #[(.pointer (some ⟨xq, 0, none⟩)), (.pointer (some ⟨FC, 0, none⟩)), (.pointer (some ⟨b7, 0, none⟩))])]), (18, .blk M6 [(.func (.func 109) #[] #[(.pointer (some ⟨FC, 0, none⟩)), (.pointer (some ⟨xq, 0, none⟩)), (.pointer (some ⟨M5, 0, none⟩)), (.pointer (some ⟨M6, 0, none⟩))])])]) ∧ gm N y1 pI i101 jE nu HZ = some r) ?_ ?_))))))
 rintro ⟨nu, HZ⟩ w cZ ⟨h, hs⟩
 refine bQ (σ := Int × Bool) (inl [93, 94]) (fun ⟨nk, HY⟩ => []) (fun ⟨nk, HY⟩ w => SH w0 M BE w (hset [(1, .rd l8 u3 y1), (2, .blk b6 [u3]), (3, .blk b7 [v14]), (7, .own gT 113 v14 pI), (14, .blk Di [(I6 nk)]), (15, .blk xq [(.bool (HY))]), (16, .blk FC [(.func (.func 103) #[] #[(.pointer (some ⟨Di, 0, none⟩)), (.pointer (some ⟨b6, 0, none⟩)), (.pointer (some ⟨xq, 0, none⟩))])]), (17, .blk M5 [(.func (.func 104) #[] #[(.pointer (some ⟨xq, 0, none⟩)), (.pointer (some ⟨FC, 0, none⟩)), (.pointer (some ⟨b7, 0, none⟩))])]), (18, .blk M6 [(.func (.func 109) #[] #[(.pointer (some ⟨FC, 0, none⟩)), (.pointer (some ⟨xq, 0, none⟩)), (.pointer (some ⟨M5, 0, none⟩)), (.pointer (some ⟨M6, 0, none⟩))])])]) ∧ fZ N y1 pI i101 jE nk HY = some r) ?_ ?_
 rintro ⟨nk, HY⟩ w cZ ⟨h, hs⟩
 refine bQ (σ := Int × Bool) (inl [95, 96]) (fun ⟨DC, y112⟩ => []) (fun ⟨DC, y112⟩ w => SH w0 M BE w (hset [(1, .rd l8 u3 y1), (2, .blk b6 [u3]), (3, .blk b7 [v14]), (7, .own gT 113 v14 pI), (14, .blk Di [(I6 DC)]), (15, .blk xq [(.bool (y112))]), (16, .blk FC [(.func (.func 103) #[] #[(.pointer (some ⟨Di, 0, none⟩)), (.pointer (some ⟨b6, 0, none⟩)), (.pointer (some ⟨xq, 0, none⟩))])]), (17, .blk M5 [(.func (.func 104) #[] #[(.pointer (some ⟨xq, 0, none⟩)), (.pointer (some ⟨FC, 0, none⟩)), (.pointer (some ⟨b7, 0, none⟩))])]), (18, .blk M6 [(.func (.func 109) #[] #[(.pointer (some ⟨FC, 0, none⟩)), (.pointer (some ⟨xq, 0, none⟩)), (.pointer (some ⟨M5, 0, none⟩)), (.pointer (some ⟨M6, 0, none⟩))])])]) ∧ fV N y1 pI i101 jE DC y112 = some r) ?_ ?_
 rintro ⟨DC, y112⟩ w cZ ⟨h, hs⟩
 refine sJ (L := (fun b => b = Di ∨ b = xq ∨ ob v14 b)) mixed h fun w h => dn 0 (aO.refl _ _) rfl ay (by kernel_rfl) (by kernel_rfl) (by kernel_rfl) (fun w hk => have h := h.OH 14 15 7 (by decide) (by decide) (by decide) rfl rfl rfl hk; aC h 3 rfl wJ rfl rfl) (dn 1 (aO.refl _ _) rfl ay (by kernel_rfl) (by kernel_rfl) (by kernel_rfl) (fun w hk => ag (v := (I6 i101)) rfl) (dn 2 (aO.refl _ _) rfl ay (by kernel_rfl) (by kernel_rfl) (by kernel_rfl) (fun w hk => have h := h.OH 14 15 7 (by decide) (by decide) (by decide) rfl rfl rfl hk; aC h 18 rfl En rfl rfl) ?_))
 obtain ⟨WG, PK⟩ : ∃ x, x = w := ⟨_, rfl⟩
 have Dj : aO (fun b => b = Di ∨ b = xq ∨ ob v14 b) WG w := PK ▸ aO.refl (fun b => b = Di ∨ b = xq ∨ ob v14 b) w
 refine yB PK.symm (bS 3 (by kernel_rfl) rfl ay ?_)
 replace h := h.pair 14 15 (by decide)
 obtain ⟨KR, KS, KT⟩ := h.mf 14 (C := (.two (.blk Di [(I6 DC)]) (.blk xq [(.bool (y112))]) : Chunk)) rfl ⟨trivial, trivial⟩
 obtain ⟨jf, M7, hs⟩ := aJ hs
 refine aM Hf rfl rfl (KP N _ _ KT (hT.go h.keep) Di xq b6 FC b7 M5 M6 (⟨DC, y112⟩ : cK) KR KS u3 y1 (h.Fs 14 1 rfl rfl) v14 pI (h.Sz 14 7 (by decide) rfl rfl) (h.pJ 2 rfl) (fun hb => h.apart 14 2 (by decide) _ hb rfl) (h.pJ 16 rfl) (fun hb => h.apart 14 16 (by decide) _ hb rfl) (h.pJ 3 rfl) (fun hb => h.apart 14 3 (by decide) _ hb rfl) (h.pJ 17 rfl) (fun hb => h.apart 14 17 (by decide) _ hb rfl) (h.pJ 18 rfl) (fun hb => h.apart 14 18 (by decide) _ hb rfl) 1 (h.Eg hT (fun _ h => h.elim) 14 (C := (.two (.blk Di [(I6 DC)]) (.blk xq [(.bool (y112))]) : Chunk)) rfl) _ M7) ?_
 rintro _ w ⟨Gg, VA, rfl, M8, M9, Na⟩
 refine ⟨_, rfl, ?_⟩
 replace h := h.back 14 (C := (.two (.blk Di [(I6 DC)]) (.blk xq [(.bool (y112))]) : Chunk)) (C' := (.two (.blk Di [(I6 jf.2.at_)]) (.blk xq [(.bool (jf.2.ok))]) : Chunk)) rfl ⟨trivial, trivial⟩ M8 Gg M9
 replace h := h.bD 55 (iY Na)
 replace h := h.iX 14 15 (by decide) rfl rfl
 replace Dj := aO.step Dj Gg (fun _ hx _ => hx.elim (fun hx => .inl (hx)) (fun hx => .inr (.inl (hx))))
 refine aB (aV Dj ?_)
 obtain ⟨uT, Cu, hs⟩ := aJ hs
 obtain ⟨VB, Nb, Nc⟩ := h.II 7 rfl gH rfl (aU Cu).1 (aU Cu).2
 refine gQ 4 Dj rfl (by kernel_rfl) (fun w hk => Nc _ _ _ _ _ _ _ _ _ rfl rfl) (gQ 5 Dj rfl (by kernel_rfl) (fun w hk => ah yJ rfl) (bS 6 (by kernel_rfl) rfl ay (Ou (a' := { uT with body := jf.1 }) h 7 rfl Nb rfl (aU Cu).2 nD rfl rfl (h.fq 55 rfl).one rfl (by rintro _ hq; obtain ⟨p2, rfl, q2⟩ := qo hq; exact ⟨_, rfl, (h.fq 55 rfl)⟩) fun w h Nf => ?_)))
 replace Dj := aO.step Dj Nf (fun _ hx _ => .inr (.inr (hx)))
 refine aB (aV Dj (jG (by kernel_rfl) (au (aj (az (aa (bU rfl rfl WE) (aa (ag (v := (I6 ((i101 + 1)))) rfl) (aB (ak ?_)))))))))
 subst UI
 exact iW ⟨Jq + 1, i101 + 1, (pI.set (i101).toNat { uT with body := jf.1 }), jf.2.at_, jf.2.ok⟩ ⟨h.cn _, by omega, hs⟩ (by have := nX HV; dsimp only; omega)
 refine az (aa (aC h 16 rfl xK rfl rfl) (jo (args := [(.pointer (some ⟨Di, 0, none⟩)), (.pointer (some ⟨b6, 0, none⟩)), (.pointer (some ⟨xq, 0, none⟩))]) xI rfl rfl (aH (args := [(.pointer (some ⟨Di, 0, none⟩)), (.pointer (some ⟨b6, 0, none⟩)), (.pointer (some ⟨xq, 0, none⟩))]) Tryz.func103 rfl Tryz.ntmps103 (bB rfl) (nG (aa (ae (v := (aN [])) rfl) (nK (aa (aC h 14 rfl aS rfl rfl) (aa (aC h 2 rfl lC rfl rfl) (aa (bC dK rfl (h.mY 1 rfl)) (aa (pq rfl rfl) (nN (aG hs rfl (fun UJ hs => ?_) (fun UJ hs => ?_)))))))))))))
 refine nG (dV h 15 [(.bool (false))] rfl vU rfl rfl rfl rfl rfl fun w h => nJ (aa (ae (v := (aN [])) rfl) (nR (ax (bE (v := (aN [])) Tryz.results103 rfl (⟨_, rfl, ?_⟩))))))
 refine aB (ak ?_)
 exact bO (nk, false) ⟨h.cn _, hs⟩
 refine nS (aa (aC h 14 rfl aS rfl rfl) ?_)
 obtain ⟨a126, hs⟩ := aW hs
 refine aa (bU rfl rfl a126) (dV h 14 [(I6 ((nk + 1)))] rfl aS rfl rfl rfl rfl rfl fun w h => nJ (aa (aC h 2 rfl lC rfl rfl) (aa (aC h 14 rfl aS rfl rfl) ?_)))
 obtain ⟨a127, hs⟩ := aW hs
 refine aa (sG rfl rfl a127) ?_
 obtain ⟨RH, e129, hs⟩ := aJ hs
 obtain ⟨b131, o132, cs133, h, r134, i130⟩ := h.FU 1 115 rfl dK rfl (aU e129).1 (aU e129).2
 obtain rfl := r134
 refine aa (i130 _ _ _ _ _ _ _ _ _ rfl rfl) (aa (dY (k := 0) h 115 rfl wK rfl rfl) (aa (ae (v := (aN RH)) rfl) (nR (bE (v := (aN RH)) Tryz.results103 rfl (⟨_, rfl, ?_⟩)))))
 refine aB (ak ?_)
 exact bO ((nk + 1), HY) ⟨h.cn _, hs⟩
 refine az (aa (aC h 16 rfl xK rfl rfl) (jo (args := [(.pointer (some ⟨Di, 0, none⟩)), (.pointer (some ⟨b6, 0, none⟩)), (.pointer (some ⟨xq, 0, none⟩))]) xI rfl rfl (aH (args := [(.pointer (some ⟨Di, 0, none⟩)), (.pointer (some ⟨b6, 0, none⟩)), (.pointer (some ⟨xq, 0, none⟩))]) Tryz.func103 rfl Tryz.ntmps103 (bB rfl) (nG (aa (ae (v := (aN [])) rfl) (nK (aa (aC h 14 rfl aS rfl rfl) (aa (aC h 2 rfl lC rfl rfl) (aa (bC dK rfl (h.mY 1 rfl)) (aa (pq rfl rfl) (nN (aG hs rfl (fun c135 hs => ?_) (fun c135 hs => ?_)))))))))))))
 refine nG (dV h 15 [(.bool (false))] rfl vU rfl rfl rfl rfl rfl fun w h => nJ (aa (ae (v := (aN [])) rfl) (nR (ax (bE (v := (aN [])) Tryz.results103 rfl (⟨_, rfl, ?_⟩))))))
 refine aB (ak ?_)
 exact bO (nu, false) ⟨h.cn _, hs⟩
 refine nS (aa (aC h 14 rfl aS rfl rfl) ?_)
 obtain ⟨a136, hs⟩ := aW hs
 refine aa (bU rfl rfl a136) (dV h 14 [(I6 ((nu + 1)))] rfl aS rfl rfl rfl rfl rfl fun w h => nJ (aa (aC h 2 rfl lC rfl rfl) (aa (aC h 14 rfl aS rfl rfl) ?_)))
 obtain ⟨a137, hs⟩ := aW hs
 refine aa (sG rfl rfl a137) ?_
 obtain ⟨RI, Ng, hs⟩ := aJ hs
 obtain ⟨b141, o142, cs143, h, r144, i140⟩ := h.FU 1 116 rfl dK rfl (aU Ng).1 (aU Ng).2
 obtain rfl := r144
 refine aa (i140 _ _ _ _ _ _ _ _ _ rfl rfl) (aa (dY (k := 0) h 116 rfl wK rfl rfl) (aa (ae (v := (aN RI)) rfl) (nR (bE (v := (aN RI)) Tryz.results103 rfl (⟨_, rfl, ?_⟩)))))
 refine aB (ak ?_)
 exact bO ((nu + 1), HZ) ⟨h.cn _, hs⟩
 refine bQ (σ := Bool × Int × Bool) (inl [90, 91, 92]) (fun ⟨Jp, DD, H5⟩ => [(92, (.bool (Jp)))]) (fun ⟨Jp, DD, H5⟩ w => SH w0 M BE w (hset [(1, .rd l8 u3 y1), (2, .blk b6 [u3]), (3, .blk b7 [v14]), (7, .own gT 113 v14 pI), (14, .blk Di [(I6 DD)]), (15, .blk xq [(.bool (H5))]), (16, .blk FC [(.func (.func 103) #[] #[(.pointer (some ⟨Di, 0, none⟩)), (.pointer (some ⟨b6, 0, none⟩)), (.pointer (some ⟨xq, 0, none⟩))])]), (17, .blk M5 [(.func (.func 104) #[] #[(.pointer (some ⟨xq, 0, none⟩)), (.pointer (some ⟨FC, 0, none⟩)), (.pointer (some ⟨b7, 0, none⟩))])]), (18, .blk M6 [(.func (.func 109) #[] #[(.pointer (some ⟨FC, 0, none⟩)), (.pointer (some ⟨xq, 0, none⟩)), (.pointer (some ⟨M5, 0, none⟩)), (.pointer (some ⟨M6, 0, none⟩))])])]) ∧ gp N y1 pI i101 jE Jp DD H5 = some r) ?_ ?_
 rintro ⟨Jp, DD, H5⟩ w cZ ⟨h, hs⟩
 refine aG hs rfl (fun c148 hs => ?_) (fun c148 hs => ?_)
 refine az (dV h 15 [(.bool (false))] rfl vU rfl rfl rfl rfl rfl fun w h => aB (ak ?_))
 exact bO (DD, false) ⟨h.cn _, hs⟩
 refine aF (ak ?_)
 exact bO (DD, H5) ⟨h.cn _, hs⟩
 refine az (aa (aC h 16 rfl xK rfl rfl) (jo (args := [(.pointer (some ⟨Di, 0, none⟩)), (.pointer (some ⟨b6, 0, none⟩)), (.pointer (some ⟨xq, 0, none⟩))]) xI rfl rfl (aH (args := [(.pointer (some ⟨Di, 0, none⟩)), (.pointer (some ⟨b6, 0, none⟩)), (.pointer (some ⟨xq, 0, none⟩))]) Tryz.func103 rfl Tryz.ntmps103 (bB rfl) (nG (aa (ae (v := (aN [])) rfl) (nK (aa (aC h 14 rfl aS rfl rfl) (aa (aC h 2 rfl lC rfl rfl) (aa (bC dK rfl (h.mY 1 rfl)) (aa (pq rfl rfl) (nN (aG hs rfl (fun c149 hs => ?_) (fun c149 hs => ?_)))))))))))))
 refine nG (dV h 15 [(.bool (false))] rfl vU rfl rfl rfl rfl rfl fun w h => nJ (aa (ae (v := (aN [])) rfl) (nR (ax (bE (v := (aN [])) Tryz.results103 rfl (⟨_, rfl, ?_⟩))))))
 refine aa (Ee rfl rfl) (aB (ak ?_))
 exact bO (true, y98, false) ⟨h.cn _, hs⟩
 refine nS (aa (aC h 14 rfl aS rfl rfl) ?_)
 obtain ⟨a150, hs⟩ := aW hs
 refine aa (bU rfl rfl a150) (dV h 14 [(I6 ((y98 + 1)))] rfl aS rfl rfl rfl rfl rfl fun w h => nJ (aa (aC h 2 rfl lC rfl rfl) (aa (aC h 14 rfl aS rfl rfl) ?_)))
 obtain ⟨a151, hs⟩ := aW hs
 refine aa (sG rfl rfl a151) ?_
 obtain ⟨x152, e153, hs⟩ := aJ hs
 obtain ⟨b155, o156, cs157, h, r158, i154⟩ := h.FU 1 117 rfl dK rfl (aU e153).1 (aU e153).2
 obtain rfl := r158
 refine aa (i154 _ _ _ _ _ _ _ _ _ rfl rfl) (aa (dY (k := 0) h 117 rfl wK rfl rfl) (aa (ae (v := (aN x152)) rfl) (nR (bE (v := (aN x152)) Tryz.results103 rfl (⟨_, rfl, ?_⟩)))))
 refine aa (Ee rfl rfl) (aB (ak ?_))
 exact bO (decide ((x152 : Str) ≠ [102, 117, 110]), (y98 + 1), y99) ⟨h.cn _, hs⟩
 rw [pX (by have := of_decide_eq_false HV; omega)] at hs
 refine jd (bK (bK (eF (aj (aK (bQ (σ := Bool) (inl (rg 104 19)) (fun x159 => [(122, (.bool (x159)))]) (fun x159 w => SH w0 M BE w (hset [(3, .blk b7 [v14]), (7, .own gT 113 v14 pI)]) ∧ iq pI x159 = some r) ?_ ?_))))))
 rintro x159 w cZ ⟨h, hs⟩
 refine aG hs rfl (fun c160 hs => ?_) (fun c160 hs => ?_)
 refine nG (aa (ae (v := (.slice none 0 0)) rfl) (aa (ae (v := (I6 1)) rfl) (nR (ax (zR (v1 := (.slice none 0 0)) (v2 := (I6 1)) Tryz.results77 rfl rfl ?_)))))
 obtain rfl := gM hs
 exact ⟨h.grown, _, rfl, dC.nil, kX⟩
 refine nS (aa (aC h 3 rfl wJ rfl rfl) (aa (ae (v := v14) rfl) (aa (ae (v := (I6 0)) rfl) (nR (zR (v1 := v14) (v2 := (I6 0)) Tryz.results77 rfl rfl ?_)))))
 obtain rfl := gM hs
 exact ⟨h.grown, _, rfl, (h.kM 7 rfl).1, (h.kM 7 rfl).2⟩
 refine az (aa (aC h 15 rfl vU rfl rfl) (aa (fU rfl) (aa (ag (v := (.bool ((!y99)))) rfl) (aA rfl rfl (fun q => aC h 14 rfl aS rfl rfl) (aA rfl rfl (fun q => aC h 2 rfl lC rfl rfl) (aA rfl rfl (fun q => bC dK (bZ q) (h.mY 1 rfl)) (aA rfl rfl (fun q => dm (bZ q) (bZ q)) (aa (gK rfl rfl mX) (aa (ag (v := (.bool (((!y99) || decide ((y98 : Int) < (y1.length : Int)))))) rfl) (mi (b := ((!y99) || decide ((y98 : Int) < (y1.length : Int)))) hs (fun H6 hs => ?_) (fun H6 hs => ?_)))))))))))
 refine NV rfl (cB H6) rfl (NV rfl (cB H6) rfl (NV rfl (cB H6) rfl (aa (fo (b := true) (v := (.bool (true))) (cB H6) rfl) (aa (ag (v := (.bool (true))) rfl) (lv (b' := true) rfl rfl rfl (lv (b' := true) rfl rfl rfl (lv (b' := true) rfl rfl rfl (lv (b' := true) rfl rfl rfl (aa (fo (b := true) (v := (.bool (true))) rfl rfl) (aB (ak ?_)))))))))))
 exact bO true ⟨h.cn _, hs⟩
 refine dB rfl (cB H6) (aa (aC h 3 rfl wJ rfl rfl) (dB rfl (cB H6) ?_))
 obtain ⟨PI, e163, hs⟩ := aJ hs
 refine aM Ro rfl rfl (vH N _ _ h.lt v14 pI (h.dE 7 rfl) _ e163) ?_
 rintro _ w ⟨k164, rfl⟩
 refine ⟨_, rfl, ?_⟩
 replace h := h.grow k164
 refine dB rfl (cB H6) (aa (iK rfl rfl) (aa (fo (b := false) (v := (.bool (decide ((PI : Int) ≠ 0)))) (cB H6) rfl) (aa (ag (v := (.bool (decide ((PI : Int) ≠ 0)))) rfl) (mi (b := decide ((PI : Int) ≠ 0)) hs (fun Ex hs => ?_) (fun Ex hs => ?_)))))
 refine NV rfl (cB Ex) rfl (NV rfl (cB Ex) rfl (NV rfl (cB Ex) rfl (NV rfl (cB Ex) rfl (aa (fo (b := true) (v := (.bool (true))) (cB Ex) rfl) (aB (ak ?_))))))
 exact bO true ⟨h.cn _, hs⟩
 refine dB rfl (cB Ex) (aa (aC h 3 rfl wJ rfl rfl) (dB rfl (cB Ex) ?_))
 obtain ⟨RJ, e167, hs⟩ := aJ hs
 refine aM Rp rfl rfl (vX N _ _ h.lt (hT.go h.keep) v14 pI (h.dE 7 rfl) _ e167) ?_
 rintro _ w ⟨k168, rfl⟩
 refine ⟨_, rfl, ?_⟩
 replace h := h.grow k168
 refine dB rfl (cB Ex) (aa (ag (v := (aN a)) rfl) (dB rfl (cB Ex) (aa (Ee rfl rfl) (aa (fo (b := false) (v := (.bool (decide ((RJ : Str) ≠ a)))) (cB Ex) rfl) (aB (ak ?_))))))
 exact bO (decide ((RJ : Str) ≠ a)) ⟨h.cn _, hs⟩
def jq (N : Nat) : Option (List dO) :=
  (jy N [102, 117, 110, 32, 48, 32, 49, 32, 123, 32, 115, 101, 116, 32, 48, 32, 51, 32, 119, 104, 105, 108, 101, 32, 118, 48, 32, 123, 32, 115, 97, 121, 32, 102, 49, 32, 118, 48, 32, 118, 48, 32, 103, 111, 32, 118, 48, 32, 112, 97, 117, 115, 101, 32, 115, 101, 116, 32, 48, 32, 45, 32, 118, 48, 32, 49, 32, 125, 32, 125, 32, 102, 117, 110, 32, 50, 32, 50, 32, 123, 32, 114, 101, 116, 117, 114, 110, 32, 42, 32, 118, 48, 32, 118, 49, 32, 125]).bind fun y1 => some y1.1
theorem ym (N : Nat) (w0 : World) (M : BS) (hM : ∀ b, M b → b < w0.heap.size) (hT : sM Tryz.prog 4 w0)  (r : List dO) (hs : jq N = some r) :
    Calls Tryz.prog 40 #[] w0 (fun e w' => Grow w0 w' ∧ ∃ u0, e = .returned (u0) ∧ dC gT 113 w' M u0 r ∧ (∀ b, ob u0 b → w0.heap.size ≤ b)) := by
 refine aH (args := []) Tryz.func40 rfl Tryz.ntmps40 (bB rfl) ?_
 have h := SH.init hM
 refine nG (aa (ae (v := (.slice none 0 0)) rfl) (nJ ?_))
 obtain ⟨y1, e2, hs⟩ := aJ hs
 refine aM Uf rfl rfl (vZ N _ _ h.lt (hT.go h.keep) [102, 117, 110, 32, 48, 32, 49, 32, 123, 32, 115, 101, 116, 32, 48, 32, 51, 32, 119, 104, 105, 108, 101, 32, 118, 48, 32, 123, 32, 115, 97, 121, 32, 102, 49, 32, 118, 48, 32, 118, 48, 32, 103, 111, 32, 118, 48, 32, 112, 97, 117, 115, 101, 32, 115, 101, 116, 32, 48, 32, 45, 32, 118, 48, 32, 49, 32, 125, 32, 125, 32, 102, 117, 110, 32, 50, 32, 50, 32, 123, 32, 114, 101, 116, 117, 114, 110, 32, 42, 32, 118, 48, 32, 118, 49, 32, 125] _ e2) ?_
 rintro _ w ⟨k6, u3, rfl, g4, g5⟩
 refine ⟨_, rfl, ?_⟩
 replace h := h.jv 1 k6 g4 g5
 refine aa (ag (v := (.tuple #[u3, (I6 y1.2)])) rfl) (aa (bz rfl rfl) (aa (bz rfl rfl) (aa (ae (v := u3) rfl) (aa (ae (v := (I6 y1.2)) rfl) (nJ (aa (ag (v := u3) rfl) (aa (ae (v := u3) rfl) (nR (bE (v := u3) Tryz.results40 rfl ?_)))))))))
 obtain rfl := gM hs
 exact ⟨h.grown, _, rfl, (h.kM 1 rfl).1, (h.kM 1 rfl).2⟩
def ed (x31 : List Ins) (c : Int) (x34 : Int) (xu : Int) (PL : Int) (Bz : Int) (zF : List Int) : Option (List Ins × Int) :=
  gD (Room 56 x31 [(⟨xu, c, PL, Bz, zF⟩ : Ins)]) (some ((x31 ++ [(⟨xu, c, PL, Bz, zF⟩ : Ins)]), x34))
def nM (F0 : List Tok → List dO → Int → Option (List Ins × Int)) (y9 : Int) (a : List Tok) (c : Int) (b : List dO) (x1 : Tok) (s : List Ins × List Int × Int × Int) (PM : List Ins × List Int × Int × Int → Option (List Ins × Int)) : Option (List Ins × Int) :=
  match s with | (x31, A7, x34, xk) => bif decide ((xk : Int) < y9) then (sub? a x34 (a.length : Int)).bind fun VC => gD (jg (c + xk)) ((F0 VC b (c + xk)).bind fun qp => gD (Room 56 x31 qp.1) (gD (jg (x34 + qp.2)) (gD (jg (c + xk)) (gD (Room 8 A7 [(c + xk)]) (gD (jg (xk + 1)) (PM ((x31 ++ qp.1), (A7 ++ [(c + xk)]), (x34 + qp.2), (xk + 1)))))))) else bif decide ((x1.kind : Int) = 1) then ed x31 c x34 1 x1.n 0 [] else bif decide ((x1.kind : Int) = 2) then ed x31 c x34 2 x1.n 0 [] else bif decide ((x1.kind : Int) = 5) then ed x31 c x34 5 x1.n 0 [] else bif decide ((x1.kind : Int) = 3) then gD (jg (c + 1)) (ed x31 c x34 3 c (c + 1) [x1.n]) else bif decide ((x1.kind : Int) = 4) then ed x31 c x34 4 c x1.n [] else bif decide ((x1.kind : Int) = 6) then ed x31 c x34 7 x1.n 0 A7 else ed x31 c x34 0 x1.n 0 []
def tq (N : Nat) (F0 : List Tok → List dO → Int → Option (List Ins × Int)) (a : List Tok) (b : List dO) (c : Int) : Option (List Ins × Int) :=
  (idx a 0).bind fun x1 => (oU x1 b).bind fun y9 => again (nM F0 y9 a c b x1) N ([], [], 1, 0)
def iN : Nat → List Tok → List dO → Int → Option (List Ins × Int)
  | 0 => fun _ _ _ => none
  | N + 1 => tq N (iN N)
theorem tu : ∀ (N : Nat) (w0 : World) (M : BS) (hM : ∀ b, M b → b < w0.heap.size) (va : Value) (a : List Tok) (ha : eY jw w0 BE M va a) (vb : Value) (b : List dO) (hb : eY gT w0 BE M vb b) (c : Int) (r : List Ins × Int) (hs : iN N a b c = some r),
    Calls Tryz.prog 100 #[va, vb, (I6 c)] w0 (fun e w' => Grow w0 w' ∧ ∃ u0, e = .returned (.tuple #[u0, .int .i64 r.2]) ∧ dC iJ 93 w' M u0 r.1 ∧ (∀ b, ob u0 b → w0.heap.size ≤ b)) := by
 intro N
 induction N with
 | zero => intro w0 M hM va a ha vb b hb c r hs; cases hs
 | succ N ih =>
 intro w0 M hM va a ha vb b hb c r hs
 replace hs : tq N (iN N) a b c = some r := hs
 generalize iN N = F0 at hs ih
 refine aH (args := [va, vb, (I6 c)]) Tryz.func100 rfl Tryz.ntmps100 (bB rfl) ?_
 have h := SH.init hM
 replace h := h.dR 1 ha aT
 replace h := h.dR 2 hb (bA aT)
 have tZ := ha.bG
 have FB := hb.bG
 refine nG (aa (ae (v := (.slice none 0 0)) rfl) (aa (ae (v := (I6 0)) rfl) (nJ (aa (ag (v := va) rfl) ?_))))
 obtain ⟨x1, e2, hs⟩ := aJ hs
 obtain ⟨b4, o5, cs6, h, r7, i3⟩ := h.xx 1 3 rfl ji rfl (aU e2).1 (aU e2).2
 obtain rfl := r7
 refine aa (i3 _ _ _ _ _ _ _ _ _ rfl rfl) (aa (iH (k := 0) (vs := [(I6 x1.kind), (I6 x1.n)]) h 3 rfl je rfl rfl rfl (bB rfl)) (bL h 4 je fun w b8 h => dS (vs := [(I6 x1.kind), (I6 x1.n)]) h 4 [(I6 x1.kind), (I6 x1.n)] rfl je rfl rfl rfl rfl rfl (ai rfl (ai rfl aZ)) fun w h => nJ (aa (ae (v := (.slice none 0 0)) rfl) (nJ (aa (ae (v := (.slice none 0 0)) rfl) (nJ (aa (ae (v := (I6 1)) rfl) (nK ?_))))))))
 refine aa (fu (vs := [(I6 x1.kind), (I6 x1.n)]) h 4 rfl je rfl rfl rfl) (aa (ag (v := vb) rfl) ?_)
 obtain ⟨y9, e10, hs⟩ := aJ hs
 refine aM He rfl rfl (qd _ _ h.lt x1 vb b (h.fT 2 rfl) _ e10) ?_
 rintro _ w ⟨k11, rfl⟩
 refine ⟨_, rfl, ?_⟩
 replace h := h.grow k11
 refine aa (ag (v := (I6 0)) rfl) (nN (aI ?_))
 replace h := h.vS (R := iJ) (E := 93) 11
 replace h := h.vS (R := cu) (E := 3) 12
 refine fe (σ := Nat × Value × List Ins × Value × List Int × Int × Int) (inl (rg 9 6 ++ rg 22 27)) (fun ⟨UK, v30, x31, v32, A7, x34, xk⟩ => [(9, v30), (10, v32), (11, (I6 x34)), (22, (I6 xk))]) (fun ⟨UK, v30, x31, v32, A7, x34, xk⟩ w => SH w0 M BE w (hset [(1, .sr jw va a), (2, .sr gT vb b), (4, .blk b8 [(I6 x1.kind), (I6 x1.n)]), (11, .own iJ 93 v30 x31), (12, .own cu 3 v32 A7)]) ∧ again (nM F0 y9 a c b x1) UK (x31, A7, x34, xk) = some r) (fun ⟨UK, v30, x31, v32, A7, x34, xk⟩ => UK) ⟨N, (.slice none 0 0), [], (.slice none 0 0), [], 1, 0⟩ ⟨rfl, rfl, rfl, rfl, trivial⟩ ?_ ?_
 exact ⟨h.cn _, hs⟩
 rintro ⟨UK, v30, x31, v32, A7, x34, xk⟩ w cZ ⟨h, hs⟩
 obtain ⟨WI, m39e, m39h⟩ := nC hs
 subst m39e
 replace hs := m39h
 generalize PN : again (nM F0 y9 a c b x1) WI = PM at hs
 refine nG (aa (dm rfl rfl) (nN (aK (aG hs rfl (fun Zf hs => ?_) (fun Zf hs => ?_)))))
 refine aF (aj (aK (aI (nG (aa (ag (v := (I6 xk)) rfl) (aa (ae (v := (I6 xk)) rfl) (nJ (aa (ag (v := va) rfl) (aa (ag (v := (I6 x34)) rfl) ?_)))))))))
 obtain ⟨VC, e45, hs⟩ := aJ hs
 obtain ⟨e48, e48a, e48b, e48c⟩ := IC e45
 obtain ⟨u46, h, i47⟩ := h.slS 1 13 rfl ji rfl e48a e48b e48c
 rw [← e48] at h
 refine aa (i47 _ _ _ _ _ _ _ _ _ _ rfl (.inr (congrArg some rfl)) (.inl ⟨rfl, rfl⟩)) (aa (ag (v := vb) rfl) (aa (ag (v := (I6 c)) rfl) (aa (ag (v := (I6 xk)) rfl) ?_)))
 obtain ⟨a49, hs⟩ := aW hs
 refine aa (bU rfl rfl a49) ?_
 obtain ⟨qp, e51, hs⟩ := aJ hs
 refine aM Ha rfl rfl (ih _ _ h.lt u46 VC (h.fT 13 rfl) vb b (h.fT 2 rfl) (c + xk) _ e51) ?_
 rintro _ w ⟨Y7, Yf, rfl, g53, g54⟩
 refine ⟨_, rfl, ?_⟩
 replace h := h.jv 14 Y7 g53 g54
 refine aa (ag (v := (.tuple #[Yf, (I6 qp.2)])) rfl) (aa (bz rfl rfl) (aa (bz rfl rfl) (aa (ae (v := Yf) rfl) (aa (ae (v := (I6 qp.2)) rfl) (nN (az (aa (ag (v := v30) rfl) (aa (ag (v := Yf) rfl) ?_))))))))
 obtain ⟨a56, hs⟩ := aW hs
 refine jm (R := iJ) (m := qp.1) h 11 rfl (h.dE 14 rfl) dN rfl rfl rfl a56.1 a56.2 fun w u57 h => aa (ag (v := (I6 x34)) rfl) (aa (ag (v := (I6 qp.2)) rfl) ?_)
 obtain ⟨a58, hs⟩ := aW hs
 refine aa (bU rfl rfl a58) (aa (ag (v := v32) rfl) (aa (ag (v := (I6 c)) rfl) (aa (ag (v := (I6 xk)) rfl) ?_)))
 obtain ⟨a59, hs⟩ := aW hs
 refine aa (bU rfl rfl a59) (pK (R := cu) (vs := [(I6 ((c + xk)))]) (xs := [(c + xk)]) h 15 fM rfl rfl rfl ⟨rfl, trivial⟩ rfl fun w u60 h => ?_)
 obtain ⟨a61, hs⟩ := aW hs
 refine jm (R := cu) (m := [(c + xk)]) h 12 rfl (h.dE 15 rfl) fM rfl rfl rfl a61.1 a61.2 fun w Vq h => aa (ae (v := u57) rfl) (aa (ae (v := (I6 ((x34 + qp.2)))) rfl) (aa (ae (v := Vq) rfl) (aB (au (aj (az ?_))))))
 obtain ⟨a63, hs⟩ := aW hs
 refine aa (bU rfl rfl a63) (aa (ag (v := (I6 ((xk + 1)))) rfl) (aB (ak ?_)))
 subst PN
 exact iW ⟨WI, u57, (x31 ++ qp.1), Vq, (A7 ++ [(c + xk)]), (x34 + qp.2), (xk + 1)⟩ ⟨h.cn _, hs⟩
 refine nE (aa (ag (v := (I6 c)) rfl) (aa (ah lN rfl) (aa (aC h 4 rfl aS rfl rfl) (aa (ek (pv := [(1, (I6 c)), (2, (I6 x1.n))]) (out := [(I6 0), (I6 c), (I6 x1.n), (I6 0), (.slice none 0 0)]) kZ rfl ⟨1, 1, [(I6 c)], rfl, rfl, rfl, bB rfl, ⟨2, 1, [(I6 x1.n)], rfl, rfl, rfl, bB rfl, rfl⟩⟩) (bL h 16 u6 fun w b64 h => dS (vs := [(I6 0), (I6 c), (I6 x1.n), (I6 0), (.slice none 0 0)]) h 16 [(I6 0), (I6 c), (I6 x1.n), (I6 0), (.slice none 0 0)] rfl u6 rfl rfl rfl rfl rfl (ai rfl (ai rfl (ai rfl (ai rfl (ai rfl aZ))))) fun w h => nN (bQ (σ := Int × Int × Int × Value × List Int) (inl (rg 53 33)) (fun ⟨xu, PL, Bz, v68, zF⟩ => []) (fun ⟨xu, PL, Bz, v68, zF⟩ w => SH w0 M BE w (hset [(11, .own iJ 93 v30 x31), (16, .blk b64 [(I6 xu), (I6 c), (I6 PL), (I6 Bz), v68]), (17, .own cu 3 v68 zF)]) ∧ ed x31 c x34 xu PL Bz zF = some r) ?_ ?_))))))
 rintro ⟨xu, PL, Bz, v68, zF⟩ w cZ ⟨h, hs⟩
 refine nG (aa (ag (v := v30) rfl) (aa (fu (vs := [(I6 xu), (I6 c), (I6 PL), (I6 Bz), v68]) h 16 rfl u6 rfl rfl rfl) ?_))
 replace h := h.freeze 17 rfl
 refine pK (R := iJ) (vs := [(.agg #[(I6 xu), (I6 c), (I6 PL), (I6 Bz), v68])]) (xs := [(⟨xu, c, PL, Bz, zF⟩ : Ins)]) h 18 dN rfl rfl rfl ⟨⟨_, rfl, (h.fq 17 rfl)⟩, trivial⟩ rfl fun w u70 h => ?_
 obtain ⟨a71, hs⟩ := aW hs
 refine jm (R := iJ) (m := [(⟨xu, c, PL, Bz, zF⟩ : Ins)]) h 11 rfl (h.dE 18 rfl) dN rfl rfl rfl a71.1 a71.2 fun w u72 h => aa (ag (v := (I6 x34)) rfl) (aa (ae (v := u72) rfl) (aa (ae (v := (I6 x34)) rfl) (nR (zR (v1 := u72) (v2 := (I6 x34)) Tryz.results100 rfl rfl ?_))))
 obtain rfl := gM hs
 exact ⟨h.grown, _, rfl, (h.kM 11 rfl).1, (h.kM 11 rfl).2⟩
 refine nG (aa (ah Bp rfl) (aa (aC h 4 rfl aS rfl rfl) (nN (aI (nG (aa (bH rfl rfl) (aa (ae (v := (.bool (decide ((x1.kind : Int) = 1)))) rfl) (nN (aG hs rfl (fun YU hs => ?_) (fun YU hs => ?_))))))))))
 refine az (aa (ah rZ rfl) (dV h 16 [(I6 1), (I6 c), (I6 x1.n), (I6 0), (.slice none 0 0)] rfl aS rfl rfl rfl rfl rfl fun w h => aB (au (ak ?_))))
 replace h := h.vS (R := cu) (E := 3) 17
 exact bO (1, x1.n, 0, (.slice none 0 0), []) ⟨h.cn _, hs⟩
 refine nG (aa (bH rfl rfl) (aa (ae (v := (.bool (decide ((x1.kind : Int) = 2)))) rfl) (nN (aG hs rfl (fun ZE hs => ?_) (fun ZE hs => ?_)))))
 refine az (aa (ah rZ rfl) (dV h 16 [(I6 2), (I6 c), (I6 x1.n), (I6 0), (.slice none 0 0)] rfl aS rfl rfl rfl rfl rfl fun w h => aB (au (ak ?_))))
 replace h := h.vS (R := cu) (E := 3) 17
 exact bO (2, x1.n, 0, (.slice none 0 0), []) ⟨h.cn _, hs⟩
 refine nG (aa (bH rfl rfl) (aa (ae (v := (.bool (decide ((x1.kind : Int) = 5)))) rfl) (nN (aG hs rfl (fun c75 hs => ?_) (fun c75 hs => ?_)))))
 refine az (aa (ah rZ rfl) (dV h 16 [(I6 5), (I6 c), (I6 x1.n), (I6 0), (.slice none 0 0)] rfl aS rfl rfl rfl rfl rfl fun w h => aB (au (ak ?_))))
 replace h := h.vS (R := cu) (E := 3) 17
 exact bO (5, x1.n, 0, (.slice none 0 0), []) ⟨h.cn _, hs⟩
 refine nG (aa (bH rfl rfl) (aa (ae (v := (.bool (decide ((x1.kind : Int) = 3)))) rfl) (nN (aG hs rfl (fun c76 hs => ?_) (fun c76 hs => ?_)))))
 refine az (aa (ag (v := (I6 c)) rfl) (aa (ag (v := (I6 c)) rfl) (aa (ag (v := (I6 c)) rfl) ?_)))
 obtain ⟨a77, hs⟩ := aW hs
 refine aa (bU rfl rfl a77) (aa (ah lN rfl) (aa (aC h 4 rfl aS rfl rfl) (pK (R := cu) (vs := [(I6 x1.n)]) (xs := [x1.n]) h 19 fM rfl rfl rfl ⟨rfl, trivial⟩ rfl fun w Fv h => aa (ek (pv := [(0, (I6 3)), (1, (I6 c)), (2, (I6 c)), (3, (I6 ((c + 1)))), (4, Fv)]) (out := [(I6 3), (I6 c), (I6 c), (I6 ((c + 1))), Fv]) kZ rfl ⟨0, 1, [(I6 3)], rfl, rfl, rfl, bB rfl, ⟨1, 1, [(I6 c)], rfl, rfl, rfl, bB rfl, ⟨2, 1, [(I6 c)], rfl, rfl, rfl, bB rfl, ⟨3, 1, [(I6 ((c + 1)))], rfl, rfl, rfl, bB rfl, ⟨4, 1, [Fv], rfl, (nA (h.fD 19 rfl).one), rfl, bB rfl, rfl⟩⟩⟩⟩⟩) (dS (vs := [(I6 3), (I6 c), (I6 c), (I6 ((c + 1))), Fv]) h 16 [(I6 3), (I6 c), (I6 c), (I6 ((c + 1))), Fv] rfl u6 rfl rfl rfl rfl rfl (ai rfl (ai rfl (ai rfl (ai rfl (ai (h.fD 19 rfl).one aZ))))) fun w h => aB (au (ak ?_))))))
 replace h := h.IK 19 17 rfl rfl (by decide)
 exact bO (3, c, (c + 1), Fv, [x1.n]) ⟨h.cn _, hs⟩
 refine nG (aa (bH rfl rfl) (aa (ae (v := (.bool (decide ((x1.kind : Int) = 4)))) rfl) (nN (aG hs rfl (fun c79 hs => ?_) (fun c79 hs => ?_)))))
 refine az (aa (ag (v := (I6 c)) rfl) (aa (ag (v := (I6 c)) rfl) (aa (ah lN rfl) (aa (aC h 4 rfl aS rfl rfl) (aa (ek (pv := [(0, (I6 4)), (1, (I6 c)), (2, (I6 c)), (3, (I6 x1.n))]) (out := [(I6 4), (I6 c), (I6 c), (I6 x1.n), (.slice none 0 0)]) kZ rfl ⟨0, 1, [(I6 4)], rfl, rfl, rfl, bB rfl, ⟨1, 1, [(I6 c)], rfl, rfl, rfl, bB rfl, ⟨2, 1, [(I6 c)], rfl, rfl, rfl, bB rfl, ⟨3, 1, [(I6 x1.n)], rfl, rfl, rfl, bB rfl, rfl⟩⟩⟩⟩) (dS (vs := [(I6 4), (I6 c), (I6 c), (I6 x1.n), (.slice none 0 0)]) h 16 [(I6 4), (I6 c), (I6 c), (I6 x1.n), (.slice none 0 0)] rfl u6 rfl rfl rfl rfl rfl (ai rfl (ai rfl (ai rfl (ai rfl (ai rfl aZ))))) fun w h => aB (au (ak ?_))))))))
 replace h := h.vS (R := cu) (E := 3) 17
 exact bO (4, c, x1.n, (.slice none 0 0), []) ⟨h.cn _, hs⟩
 refine nG (aa (bH rfl rfl) (aa (ae (v := (.bool (decide ((x1.kind : Int) = 6)))) rfl) (nN (aG hs rfl (fun c80 hs => ?_) (fun c80 hs => ?_)))))
 refine az (aa (ag (v := v32) rfl) (aa (ah rZ rfl) (dV h 16 [(I6 7), (I6 c), (I6 x1.n), (I6 0), (.slice none 0 0)] rfl aS rfl rfl rfl rfl rfl fun w h => aa (ah zB rfl) (dV h 16 [(I6 7), (I6 c), (I6 x1.n), (I6 0), v32] rfl qK rfl rfl rfl rfl (h.fD 12 rfl).one fun w h => aB (au (ak ?_))))))
 replace h := h.IK 12 17 rfl rfl (by decide)
 exact bO (7, x1.n, 0, v32, A7) ⟨h.cn _, hs⟩
 refine aF (au (ak ?_))
 replace h := h.vS (R := cu) (E := 3) 17
 exact bO (0, x1.n, 0, (.slice none 0 0), []) ⟨h.cn _, hs⟩
def dD (x8 : List Ins) (lD : List Ins → Option (List Ins)) (x34 : List Ins) : Option (List Ins) :=
  gD (Room 56 x8 x34) (lD (x8 ++ x34))
def mM (x32 : List Ins) (c : Int) (d : Int) (x8 : List Ins) (yw : List Ins) (Md : List Ins) (lD : List Ins → Option (List Ins)) (x90 : Int) : Option (List Ins) :=
  gD (Room 56 x32 [(⟨13, c, (((((d + (x8.length : Int)) + (x32.length : Int)) + 1) + (yw.length : Int)) + 1), 0, []⟩ : Ins)]) (gD (Room 56 (x32 ++ [(⟨13, c, (((((d + (x8.length : Int)) + (x32.length : Int)) + 1) + (yw.length : Int)) + 1), 0, []⟩ : Ins)]) yw) (gD (Room 56 ((x32 ++ [(⟨13, c, (((((d + (x8.length : Int)) + (x32.length : Int)) + 1) + (yw.length : Int)) + 1), 0, []⟩ : Ins)]) ++ yw) [(⟨12, 0, x90, 0, []⟩ : Ins)]) (gD (Room 56 (((x32 ++ [(⟨13, c, (((((d + (x8.length : Int)) + (x32.length : Int)) + 1) + (yw.length : Int)) + 1), 0, []⟩ : Ins)]) ++ yw) ++ [(⟨12, 0, x90, 0, []⟩ : Ins)]) Md) (dD x8 lD ((((x32 ++ [(⟨13, c, (((((d + (x8.length : Int)) + (x32.length : Int)) + 1) + (yw.length : Int)) + 1), 0, []⟩ : Ins)]) ++ yw) ++ [(⟨12, 0, x90, 0, []⟩ : Ins)]) ++ Md)))))
def mO (F0 : List aR → List dO → Int → Int → Option (List Ins)) (d : Int) (x8 : List Ins) (x32 : List Ins) (dx : aR) (a : List aR) (b : List dO) (c : Int) (lD : List Ins → Option (List Ins)) (x69 : Bool) : Option (List Ins) :=
  bif x69 then gD (jg ((d + (x8.length : Int)) + (x32.length : Int))) (gD (jg (((d + (x8.length : Int)) + (x32.length : Int)) + 1)) ((F0 dx.a b c (((d + (x8.length : Int)) + (x32.length : Int)) + 1)).bind fun yw => gD (jg ((d + (x8.length : Int)) + (x32.length : Int))) (gD (jg (((d + (x8.length : Int)) + (x32.length : Int)) + 1)) (gD (jg ((((d + (x8.length : Int)) + (x32.length : Int)) + 1) + (yw.length : Int))) (gD (jg (((((d + (x8.length : Int)) + (x32.length : Int)) + 1) + (yw.length : Int)) + 1)) ((F0 dx.b b c (((((d + (x8.length : Int)) + (x32.length : Int)) + 1) + (yw.length : Int)) + 1)).bind fun Md => gD (jg ((((((d + (x8.length : Int)) + (x32.length : Int)) + 1) + (yw.length : Int)) + 1) + (Md.length : Int))) (bif decide ((dx.kind : Int) = 7) then mM x32 c d x8 yw Md lD (d + (x8.length : Int)) else mM x32 c d x8 yw Md lD ((((((d + (x8.length : Int)) + (x32.length : Int)) + 1) + (yw.length : Int)) + 1) + (Md.length : Int))))))))) else dD x8 lD x32
def mP (N : Nat) (F0 : List aR → List dO → Int → Int → Option (List Ins)) (dx : aR) (c : Int) (x8 : List Ins) (lD : List Ins → Option (List Ins)) (b : List dO) (d : Int) (a : List aR) (x32 : List Ins) : Option (List Ins) :=
  bif decide ((dx.kind : Int) = 1) then gD (Room 56 x32 [(⟨2, dx.n, c, 0, []⟩ : Ins)]) (dD x8 lD (x32 ++ [(⟨2, dx.n, c, 0, []⟩ : Ins)])) else bif decide ((dx.kind : Int) = 2) then gD (jg (c + 1)) ((iN N dx.f b (c + 1)).bind fun xL => gD (jg (c + 1)) (gD (Room 56 x32 xL.1) (gD (Room 56 (x32 ++ xL.1) [(⟨6, c, (c + 1), dx.n, []⟩ : Ins)]) (dD x8 lD ((x32 ++ xL.1) ++ [(⟨6, c, (c + 1), dx.n, []⟩ : Ins)]))))) else bif decide ((dx.kind : Int) = 3) then gD (Room 56 x32 [(⟨9, c, 0, 0, []⟩ : Ins)]) (dD x8 lD (x32 ++ [(⟨9, c, 0, 0, []⟩ : Ins)])) else bif decide ((dx.kind : Int) = 4) then gD (Room 56 x32 [(⟨10, 0, 0, 0, []⟩ : Ins)]) (dD x8 lD (x32 ++ [(⟨10, 0, 0, 0, []⟩ : Ins)])) else bif decide ((dx.kind : Int) = 5) then gD (Room 56 x32 [(⟨11, c, 0, 0, []⟩ : Ins)]) (dD x8 lD (x32 ++ [(⟨11, c, 0, 0, []⟩ : Ins)])) else bif decide ((dx.kind : Int) = 8) then gD (Room 56 x32 [(⟨8, c, 0, 0, []⟩ : Ins)]) (dD x8 lD (x32 ++ [(⟨8, c, 0, 0, []⟩ : Ins)])) else bif decide ((dx.kind : Int) = 6) then mO F0 d x8 x32 dx a b c lD (decide ((dx.kind : Int) = 6)) else mO F0 d x8 x32 dx a b c lD (decide ((dx.kind : Int) = 7))
def mQ (N : Nat) (F0 : List aR → List dO → Int → Int → Option (List Ins)) (d : Int) (b : List dO) (c : Int) (a : List aR) (dx : aR) (x8 : List Ins) (lD : List Ins → Option (List Ins)) : Option (List Ins) :=
  gD (jg (d + (x8.length : Int))) (bif decide ((0 : Int) < (dx.e.length : Int)) then (iN N dx.e b c).bind fun y104 => mP N F0 dx c x8 lD b d a y104.1 else mP N F0 dx c x8 lD b d a [])
def mR (x8 : List Ins) : Option (List Ins) :=
  some x8
def tC (N : Nat) (F0 : List aR → List dO → Int → Int → Option (List Ins)) (a : List aR) (b : List dO) (c : Int) (d : Int) : Option (List Ins) :=
  each (mQ N F0 d b c a) mR a []
def kg : Nat → List aR → List dO → Int → Int → Option (List Ins)
  | 0 => fun _ _ _ _ => none
  | N + 1 => tC N (kg N)
theorem tF : ∀ (N : Nat) (w0 : World) (M : BS) (hM : ∀ b, M b → b < w0.heap.size) (va : Value) (a : List aR) (ha : eY dJ w0 BE M va a) (vb : Value) (b : List dO) (hb : eY gT w0 BE M vb b) (c : Int) (d : Int) (r : List Ins) (hs : kg N a b c d = some r),
    Calls Tryz.prog 76 #[va, vb, (I6 c), (I6 d)] w0 (fun e w' => Grow w0 w' ∧ ∃ u0, e = .returned (u0) ∧ dC iJ 93 w' M u0 r ∧ (∀ b, ob u0 b → w0.heap.size ≤ b)) := by
 intro N
 induction N with
 | zero => intro w0 M hM va a ha vb b hb c d r hs; cases hs
 | succ N ih =>
 intro w0 M hM va a ha vb b hb c d r hs
 replace hs : tC N (kg N) a b c d = some r := hs
 generalize kg N = F0 at hs ih
 refine aH (args := [va, vb, (I6 c), (I6 d)]) Tryz.func76 rfl Tryz.ntmps76 (bB rfl) ?_
 have h := SH.init hM
 replace h := h.dR 1 ha aT
 replace h := h.dR 2 hb (bA aT)
 have tZ := ha.bG
 have FB := hb.bG
 refine nG (aa (ae (v := (.slice none 0 0)) rfl) (nJ (aa (ae (v := (.slice none 0 0)) rfl) (nK (aa (ag (v := va) rfl) (aa (bC jI rfl (h.fT 1 rfl)) (aa (ag (v := (I6 0)) rfl) (nN (aI ?_)))))))))
 replace h := h.vS (R := iJ) (E := 93) 6
 refine fe (σ := Nat × Int × Value × List Ins) (inl ([9] ++ rg 11 9 ++ rg 22 134)) (fun ⟨k9, i10, v7, x8⟩ => [(9, v7), (22, (I6 i10))]) (fun ⟨k9, i10, v7, x8⟩ w => SH w0 M BE w (hset [(1, .sr dJ va a), (2, .sr gT vb b), (6, .own iJ 93 v7 x8)]) ∧ i10 = (k9 : Int) ∧ each (mQ N F0 d b c a) mR (a.drop k9) x8 = some r) (fun ⟨k9, i10, v7, x8⟩ => a.length - k9) ⟨0, 0, (.slice none 0 0), []⟩ ⟨rfl, rfl, trivial⟩ ?_ ?_
 exact ⟨h.cn _, rfl, hs⟩
 rintro ⟨k9, i10, v7, x8⟩ w cZ ⟨h, hik, hs⟩
 refine nG ?_
 refine aa (dm rfl rfl) (nN ?_)
 refine aK (gF rfl (fun e14 => ?_) (fun e14 => ?_))
 refine aF (aj ?_)
 obtain ⟨dx, Hr, Ht⟩ := fH (hik ▸ e14)
 rw [Ht, cz] at hs
 generalize BA : each (mQ N F0 d b c a) mR (a.drop (k9 + 1)) = lD at hs
 have Hu := fK ((h.fT 1 rfl)).bG hik e14
 refine aK (aI (nG ?_))
 obtain ⟨b17, Yc, RF, h, Pw, i16⟩ := h.xx 1 7 rfl jI rfl (ic hik) (fJ hik Hr)
 obtain ⟨u21, u23, u25, u27, rfl, g22, g24, g26, g28⟩ := xz Pw
 replace h := h.bD 8 g22.up
 replace h := h.bD 9 g24.up.up
 replace h := h.bD 10 g26.up.up.up
 replace h := h.bD 11 g28.up.up.up.up
 refine aa (i16 _ _ _ _ _ _ _ _ _ rfl rfl) (aa (iH (k := 0) (vs := [(I6 dx.kind), (I6 dx.n), u21, u23, u25, u27]) h 7 rfl mr rfl rfl rfl (bB rfl)) (bL h 12 mr fun w Yb h => dS (vs := [(I6 dx.kind), (I6 dx.n), u21, u23, u25, u27]) h 12 [(I6 dx.kind), (I6 dx.n), u21, u23, u25, u27] rfl mr rfl rfl rfl rfl rfl (ai rfl (ai rfl (ai (h.fq 8 rfl).one (ai (h.fq 9 rfl).one (ai (h.fq 10 rfl).one (ai (h.fq 11 rfl).one aZ)))))) fun w h => nJ (aa (ag (v := (I6 d)) rfl) (aa (ag (v := v7) rfl) (aa (bC jF rfl (h.dE 6 rfl)) ?_)))))
 obtain ⟨a30, hs⟩ := aW hs
 refine aa (bU rfl rfl a30) (aa (ae (v := (I6 ((d + (x8.length : Int))))) rfl) (nJ (aa (ae (v := (.slice none 0 0)) rfl) (nN (bQ (σ := Value × List Ins) (inl ([13] ++ rg 30 12)) (fun ⟨v31, x32⟩ => [(13, v31)]) (fun ⟨v31, x32⟩ w => SH w0 M BE w (hset [(1, .sr dJ va a), (2, .sr gT vb b), (6, .own iJ 93 v7 x8), (8, .rd jw u21 dx.e), (9, .rd jw u23 dx.f), (10, .rd dJ u25 dx.a), (11, .rd dJ u27 dx.b), (12, .blk Yb [(I6 dx.kind), (I6 dx.n), u21, u23, u25, u27]), (13, .own iJ 93 v31 x32)]) ∧ mP N F0 dx c x8 lD b d a x32 = some r) ?_ ?_)))))
 rintro ⟨v31, x32⟩ w cZ ⟨h, hs⟩
 refine bQ (σ := Value × List Ins) (inl (rg 13 7 ++ rg 42 110)) (fun ⟨v33, x34⟩ => [(13, v33)]) (fun ⟨v33, x34⟩ w => SH w0 M BE w (hset [(1, .sr dJ va a), (2, .sr gT vb b), (6, .own iJ 93 v7 x8), (13, .own iJ 93 v33 x34)]) ∧ dD x8 lD x34 = some r) ?_ ?_
 rintro ⟨v33, x34⟩ w cZ ⟨h, hs⟩
 refine az (aa (ag (v := v7) rfl) (aa (ag (v := v33) rfl) ?_))
 obtain ⟨a35, hs⟩ := aW hs
 refine jm (R := iJ) (m := x34) h 6 rfl (h.dE 13 rfl) dN rfl rfl rfl a35.1 a35.2 fun w u36 h => aa (ae (v := u36) rfl) (aB (au (aj (az (aa (bU rfl rfl Hu) (aa (ag (v := (I6 ((i10 + 1)))) rfl) (aB (ak ?_))))))))
 subst BA
 exact iW ⟨k9 + 1, i10 + 1, u36, (x8 ++ x34)⟩ ⟨h.cn _, by omega, hs⟩ (by have := nX e14; dsimp only; omega)
 refine nG (aa (ah iZ rfl) (aa (aC h 12 rfl aS rfl rfl) (nN (aI (nG (aa (bH rfl rfl) (aa (ae (v := (.bool (decide ((dx.kind : Int) = 1)))) rfl) (nN (aG hs rfl (fun c37 hs => ?_) (fun c37 hs => ?_))))))))))
 refine az (aa (ag (v := v31) rfl) (aa (ah sP rfl) (aa (aC h 12 rfl aS rfl rfl) (aa (ag (v := (I6 c)) rfl) (aa (ek (pv := [(0, (I6 2)), (1, (I6 dx.n)), (2, (I6 c))]) (out := [(I6 2), (I6 dx.n), (I6 c), (I6 0), (.slice none 0 0)]) kZ rfl ⟨0, 1, [(I6 2)], rfl, rfl, rfl, bB rfl, ⟨1, 1, [(I6 dx.n)], rfl, rfl, rfl, bB rfl, ⟨2, 1, [(I6 c)], rfl, rfl, rfl, bB rfl, rfl⟩⟩⟩) (pK (R := iJ) (vs := [(.agg #[(I6 2), (I6 dx.n), (I6 c), (I6 0), (.slice none 0 0)])]) (xs := [(⟨2, dx.n, c, 0, []⟩ : Ins)]) h 14 dN rfl rfl rfl ⟨⟨_, rfl, eY.nil⟩, trivial⟩ rfl fun w u38 h => ?_))))))
 obtain ⟨a39, hs⟩ := aW hs
 refine jm (R := iJ) (m := [(⟨2, dx.n, c, 0, []⟩ : Ins)]) h 13 rfl (h.dE 14 rfl) dN rfl rfl rfl a39.1 a39.2 fun w u40 h => aa (ae (v := u40) rfl) (aB (au (ak ?_)))
 exact bO (u40, (x32 ++ [(⟨2, dx.n, c, 0, []⟩ : Ins)])) ⟨h.cn _, hs⟩
 refine nG (aa (bH rfl rfl) (aa (ae (v := (.bool (decide ((dx.kind : Int) = 2)))) rfl) (nN (aG hs rfl (fun Uo hs => ?_) (fun Uo hs => ?_)))))
 refine nG (aa (ah yK rfl) (aa (aC h 12 rfl u7 rfl rfl) (aa (ag (v := vb) rfl) (aa (ag (v := (I6 c)) rfl) ?_))))
 obtain ⟨a42, hs⟩ := aW hs
 refine aa (bU rfl rfl a42) ?_
 obtain ⟨xL, e44, hs⟩ := aJ hs
 refine aM Ha rfl rfl (tu N _ _ h.lt u23 dx.f (h.mY 9 rfl) vb b (h.fT 2 rfl) (c + 1) _ e44) ?_
 rintro _ w ⟨k48, u45, rfl, g46, g47⟩
 refine ⟨_, rfl, ?_⟩
 replace h := h.jv 15 k48 g46 g47
 refine aa (ag (v := (.tuple #[u45, (I6 xL.2)])) rfl) (aa (bz rfl rfl) (aa (bz rfl rfl) (aa (ae (v := u45) rfl) (aa (ae (v := (I6 xL.2)) rfl) (nN (sJ (L := (ob v31)) mixed h fun w h => dn 0 (aO.refl _ _) rfl ay (by kernel_rfl) (by kernel_rfl) (by kernel_rfl) (fun w hk => ag (v := v31) rfl) (dn 1 (aO.refl _ _) rfl ay (by kernel_rfl) (by kernel_rfl) (by kernel_rfl) (fun w hk => ag (v := u45) rfl) (dn 3 (aO.refl _ _) rfl ay (by kernel_rfl) (by kernel_rfl) (by kernel_rfl) (fun w hk => ag (v := (I6 c)) rfl) (dn 4 (aO.refl _ _) rfl ay (by kernel_rfl) (by kernel_rfl) (by kernel_rfl) (fun w hk => ag (v := (I6 c)) rfl) ?_)))))))))
 obtain ⟨PO, hs⟩ := aW hs
 refine dn 5 (aO.refl _ _) rfl ay (by kernel_rfl) (by kernel_rfl) (by kernel_rfl) (fun w hk => bU rfl rfl PO) (dn 6 (aO.refl _ _) rfl ay (by kernel_rfl) (by kernel_rfl) (by kernel_rfl) (fun w hk => ah sP rfl) (dn 7 (aO.refl _ _) rfl ay (by kernel_rfl) (by kernel_rfl) (by kernel_rfl) (fun w hk => have h := h.uw 13 rfl hk; aC h 12 rfl aS rfl rfl) (dn 8 (aO.refl _ _) rfl ay (by kernel_rfl) (by kernel_rfl) (by kernel_rfl) (fun w hk => ek (pv := [(0, (I6 6)), (1, (I6 c)), (2, (I6 ((c + 1)))), (3, (I6 dx.n))]) (out := [(I6 6), (I6 c), (I6 ((c + 1))), (I6 dx.n), (.slice none 0 0)]) kZ rfl ⟨0, 1, [(I6 6)], rfl, rfl, rfl, bB rfl, ⟨1, 1, [(I6 c)], rfl, rfl, rfl, bB rfl, ⟨2, 1, [(I6 ((c + 1)))], rfl, rfl, rfl, bB rfl, ⟨3, 1, [(I6 dx.n)], rfl, rfl, rfl, bB rfl, rfl⟩⟩⟩⟩) ?_)))
 obtain ⟨BF, hs⟩ := aW hs
 obtain ⟨zG, hs⟩ := aW hs
 obtain ⟨KU, SG⟩ : ∃ x, x = w := ⟨_, rfl⟩
 have qF : aO (ob v31) KU w := SG ▸ aO.refl (ob v31) w
 refine yB SG.symm (uX 2 9 (by kernel_rfl) rfl ay rfl ay ?_ ?_)
 have Nh := qF.size
 refine pY (R := iJ) (m := xL.1) h 13 rfl (h.dE 15 rfl) dN rfl rfl rfl BF.1 BF.2 fun w Ey h Cv Cw => ?_
 have wQ : ∀ b, ob Ey b → b < KU.heap.size → ob v31 b := fun b hb hl => Cw b hb (Nat.lt_of_lt_of_le hl (qF).size)
 replace qF := qF.same Cv
 refine aB (aV qF (bS 9 (by kernel_rfl) rfl ay (zZ (R := iJ) (vs := [(.agg #[(I6 6), (I6 c), (I6 ((c + 1))), (I6 dx.n), (.slice none 0 0)])]) (xs := [(⟨6, c, (c + 1), dx.n, []⟩ : Ins)]) h 124 dN rfl rfl rfl ⟨⟨_, rfl, eY.nil⟩, trivial⟩ rfl fun w Ez h Cx Cy => ?_)))
 have Ni : ∀ b, ob Ez b → KU.heap.size ≤ b := fun b hb => Nat.le_trans qF.size (Cy b hb)
 replace qF := qF.grow Cx
 refine aB (aV qF (bS 10 (by kernel_rfl) rfl ay ?_))
 have KV := qF.size
 refine pY (R := iJ) (m := [(⟨6, c, (c + 1), dx.n, []⟩ : Ins)]) h 13 rfl (h.dE 124 rfl) dN rfl rfl rfl zG.1 zG.2 fun w rT h Am Ao => ?_
 have KW : ∀ b, ob rT b → b < KU.heap.size → ob v31 b := fun b hb hl => wQ b (Ao b hb (Nat.lt_of_lt_of_le hl (qF).size)) hl
 replace qF := aO.step qF Am (fun x hx hl => wQ x hx hl)
 refine aB (aV qF (gQ 11 qF rfl (by kernel_rfl) (fun w hk => ae (v := rT) rfl) (jG (by kernel_rfl) (au (ak ?_)))))
 exact bO (rT, ((x32 ++ xL.1) ++ [(⟨6, c, (c + 1), dx.n, []⟩ : Ins)])) ⟨h.cn _, hs⟩
 refine zZ (R := iJ) (vs := [(.agg #[(I6 6), (I6 c), (I6 ((c + 1))), (I6 dx.n), (.slice none 0 0)])]) (xs := [(⟨6, c, (c + 1), dx.n, []⟩ : Ins)]) h 124 dN rfl rfl rfl ⟨⟨_, rfl, eY.nil⟩, trivial⟩ rfl fun w Ez h Cx Cy => ?_
 have Ni : ∀ b, ob Ez b → KU.heap.size ≤ b := fun b hb => Nat.le_trans qF.size (Cy b hb)
 replace qF := qF.grow Cx
 refine aB (aV qF (bS 2 (by kernel_rfl) rfl ay ?_))
 have Nh := qF.size
 refine pY (R := iJ) (m := xL.1) h 13 rfl (h.dE 15 rfl) dN rfl rfl rfl BF.1 BF.2 fun w Ey h Cv Cw => ?_
 have wQ : ∀ b, ob Ey b → b < KU.heap.size → ob v31 b := fun b hb hl => Cw b hb (Nat.lt_of_lt_of_le hl (qF).size)
 replace qF := qF.same Cv
 refine aB (aV qF (bS 10 (by kernel_rfl) rfl ay ?_))
 have KV := qF.size
 refine pY (R := iJ) (m := [(⟨6, c, (c + 1), dx.n, []⟩ : Ins)]) h 13 rfl (h.dE 124 rfl) dN rfl rfl rfl zG.1 zG.2 fun w rT h Am Ao => ?_
 have KW : ∀ b, ob rT b → b < KU.heap.size → ob v31 b := fun b hb hl => wQ b (Ao b hb (Nat.lt_of_lt_of_le hl (qF).size)) hl
 replace qF := aO.step qF Am (fun x hx hl => wQ x hx hl)
 refine aB (aV qF (gQ 11 qF rfl (by kernel_rfl) (fun w hk => ae (v := rT) rfl) (jG (by kernel_rfl) (au (ak ?_)))))
 exact bO (rT, ((x32 ++ xL.1) ++ [(⟨6, c, (c + 1), dx.n, []⟩ : Ins)])) ⟨h.cn _, hs⟩
 refine nG (aa (bH rfl rfl) (aa (ae (v := (.bool (decide ((dx.kind : Int) = 3)))) rfl) (nN (aG hs rfl (fun c53 hs => ?_) (fun c53 hs => ?_)))))
 refine az (aa (ag (v := v31) rfl) (aa (ag (v := (I6 c)) rfl) (aa (ek (pv := [(0, (I6 9)), (1, (I6 c))]) (out := [(I6 9), (I6 c), (I6 0), (I6 0), (.slice none 0 0)]) kZ rfl ⟨0, 1, [(I6 9)], rfl, rfl, rfl, bB rfl, ⟨1, 1, [(I6 c)], rfl, rfl, rfl, bB rfl, rfl⟩⟩) (pK (R := iJ) (vs := [(.agg #[(I6 9), (I6 c), (I6 0), (I6 0), (.slice none 0 0)])]) (xs := [(⟨9, c, 0, 0, []⟩ : Ins)]) h 172 dN rfl rfl rfl ⟨⟨_, rfl, eY.nil⟩, trivial⟩ rfl fun w Vz h => ?_))))
 obtain ⟨a55, hs⟩ := aW hs
 refine jm (R := iJ) (m := [(⟨9, c, 0, 0, []⟩ : Ins)]) h 13 rfl (h.dE 172 rfl) dN rfl rfl rfl a55.1 a55.2 fun w u56 h => aa (ae (v := u56) rfl) (aB (au (ak ?_)))
 exact bO (u56, (x32 ++ [(⟨9, c, 0, 0, []⟩ : Ins)])) ⟨h.cn _, hs⟩
 refine nG (aa (bH rfl rfl) (aa (ae (v := (.bool (decide ((dx.kind : Int) = 4)))) rfl) (nN (aG hs rfl (fun c57 hs => ?_) (fun c57 hs => ?_)))))
 refine az (aa (ag (v := v31) rfl) (aa (ek (pv := [(0, (I6 10))]) (out := [(I6 10), (I6 0), (I6 0), (I6 0), (.slice none 0 0)]) kZ rfl ⟨0, 1, [(I6 10)], rfl, rfl, rfl, bB rfl, rfl⟩) (pK (R := iJ) (vs := [(.agg #[(I6 10), (I6 0), (I6 0), (I6 0), (.slice none 0 0)])]) (xs := [(⟨10, 0, 0, 0, []⟩ : Ins)]) h 173 dN rfl rfl rfl ⟨⟨_, rfl, eY.nil⟩, trivial⟩ rfl fun w u58 h => ?_)))
 obtain ⟨a59, hs⟩ := aW hs
 refine jm (R := iJ) (m := [(⟨10, 0, 0, 0, []⟩ : Ins)]) h 13 rfl (h.dE 173 rfl) dN rfl rfl rfl a59.1 a59.2 fun w u60 h => aa (ae (v := u60) rfl) (aB (au (ak ?_)))
 exact bO (u60, (x32 ++ [(⟨10, 0, 0, 0, []⟩ : Ins)])) ⟨h.cn _, hs⟩
 refine nG (aa (bH rfl rfl) (aa (ae (v := (.bool (decide ((dx.kind : Int) = 5)))) rfl) (nN (aG hs rfl (fun c61 hs => ?_) (fun c61 hs => ?_)))))
 refine az (aa (ag (v := v31) rfl) (aa (ag (v := (I6 c)) rfl) (aa (ek (pv := [(0, (I6 11)), (1, (I6 c))]) (out := [(I6 11), (I6 c), (I6 0), (I6 0), (.slice none 0 0)]) kZ rfl ⟨0, 1, [(I6 11)], rfl, rfl, rfl, bB rfl, ⟨1, 1, [(I6 c)], rfl, rfl, rfl, bB rfl, rfl⟩⟩) (pK (R := iJ) (vs := [(.agg #[(I6 11), (I6 c), (I6 0), (I6 0), (.slice none 0 0)])]) (xs := [(⟨11, c, 0, 0, []⟩ : Ins)]) h 174 dN rfl rfl rfl ⟨⟨_, rfl, eY.nil⟩, trivial⟩ rfl fun w Vq h => ?_))))
 obtain ⟨a63, hs⟩ := aW hs
 refine jm (R := iJ) (m := [(⟨11, c, 0, 0, []⟩ : Ins)]) h 13 rfl (h.dE 174 rfl) dN rfl rfl rfl a63.1 a63.2 fun w u64 h => aa (ae (v := u64) rfl) (aB (au (ak ?_)))
 exact bO (u64, (x32 ++ [(⟨11, c, 0, 0, []⟩ : Ins)])) ⟨h.cn _, hs⟩
 refine nG (aa (bH rfl rfl) (aa (ae (v := (.bool (decide ((dx.kind : Int) = 8)))) rfl) (nN (aG hs rfl (fun Wd hs => ?_) (fun Wd hs => ?_)))))
 refine az (aa (ag (v := v31) rfl) (aa (ag (v := (I6 c)) rfl) (aa (ek (pv := [(0, (I6 8)), (1, (I6 c))]) (out := [(I6 8), (I6 c), (I6 0), (I6 0), (.slice none 0 0)]) kZ rfl ⟨0, 1, [(I6 8)], rfl, rfl, rfl, bB rfl, ⟨1, 1, [(I6 c)], rfl, rfl, rfl, bB rfl, rfl⟩⟩) (pK (R := iJ) (vs := [(.agg #[(I6 8), (I6 c), (I6 0), (I6 0), (.slice none 0 0)])]) (xs := [(⟨8, c, 0, 0, []⟩ : Ins)]) h 175 dN rfl rfl rfl ⟨⟨_, rfl, eY.nil⟩, trivial⟩ rfl fun w u66 h => ?_))))
 obtain ⟨a67, hs⟩ := aW hs
 refine jm (R := iJ) (m := [(⟨8, c, 0, 0, []⟩ : Ins)]) h 13 rfl (h.dE 175 rfl) dN rfl rfl rfl a67.1 a67.2 fun w u68 h => aa (ae (v := u68) rfl) (aB (au (ak ?_)))
 exact bO (u68, (x32 ++ [(⟨8, c, 0, 0, []⟩ : Ins)])) ⟨h.cn _, hs⟩
 refine bQ (σ := Bool) (inl [102, 103, 104]) (fun x69 => [(102, (.bool (x69)))]) (fun x69 w => SH w0 M BE w (hset [(1, .sr dJ va a), (2, .sr gT vb b), (6, .own iJ 93 v7 x8), (8, .rd jw u21 dx.e), (9, .rd jw u23 dx.f), (10, .rd dJ u25 dx.a), (11, .rd dJ u27 dx.b), (12, .blk Yb [(I6 dx.kind), (I6 dx.n), u21, u23, u25, u27]), (13, .own iJ 93 v31 x32)]) ∧ mO F0 d x8 x32 dx a b c lD x69 = some r) ?_ ?_
 rintro x69 w cZ ⟨h, hs⟩
 refine aG hs rfl (fun c70 hs => ?_) (fun c70 hs => ?_)
 refine nG (aa (ah wH rfl) (aa (aC h 12 rfl nD rfl rfl) (aa (ag (v := vb) rfl) (aa (ag (v := (I6 c)) rfl) (aa (ag (v := (I6 ((d + (x8.length : Int))))) rfl) (aa (ag (v := v31) rfl) (aa (bC jF rfl (h.dE 13 rfl)) ?_)))))))
 obtain ⟨a71, hs⟩ := aW hs
 refine aa (bU rfl rfl a71) ?_
 obtain ⟨a72, hs⟩ := aW hs
 refine aa (bU rfl rfl a72) ?_
 obtain ⟨yw, e74, hs⟩ := aJ hs
 refine aM Ho rfl rfl (ih _ _ h.lt u25 dx.a (h.mY 10 rfl) vb b (h.fT 2 rfl) c (((d + (x8.length : Int)) + (x32.length : Int)) + 1) _ e74) ?_
 rintro _ w ⟨k78, u75, rfl, g76, g77⟩
 refine ⟨_, rfl, ?_⟩
 replace h := h.jv 176 k78 g76 g77
 refine aa (ae (v := u75) rfl) (nJ (aa (ag (v := (I6 ((d + (x8.length : Int))))) rfl) (aa (ag (v := v31) rfl) (aa (bC jF rfl (h.dE 13 rfl)) ?_))))
 obtain ⟨a79, hs⟩ := aW hs
 refine aa (bU rfl rfl a79) ?_
 obtain ⟨a80, hs⟩ := aW hs
 refine aa (bU rfl rfl a80) (aa (ag (v := u75) rfl) (aa (bC jF rfl (h.dE 176 rfl)) ?_))
 obtain ⟨a81, hs⟩ := aW hs
 refine aa (bU rfl rfl a81) ?_
 obtain ⟨a82, hs⟩ := aW hs
 refine aa (bU rfl rfl a82) (aa (ae (v := (I6 ((((((d + (x8.length : Int)) + (x32.length : Int)) + 1) + (yw.length : Int)) + 1)))) rfl) (nJ (aa (ah wI rfl) (aa (aC h 12 rfl nD rfl rfl) (aa (ag (v := vb) rfl) (aa (ag (v := (I6 c)) rfl) (aa (ag (v := (I6 ((((((d + (x8.length : Int)) + (x32.length : Int)) + 1) + (yw.length : Int)) + 1)))) rfl) ?_)))))))
 obtain ⟨Md, e84, hs⟩ := aJ hs
 refine aM Ho rfl rfl (ih _ _ h.lt u27 dx.b (h.mY 11 rfl) vb b (h.fT 2 rfl) c (((((d + (x8.length : Int)) + (x32.length : Int)) + 1) + (yw.length : Int)) + 1) _ e84) ?_
 rintro _ w ⟨Zq, SI, rfl, g86, g87⟩
 refine ⟨_, rfl, ?_⟩
 replace h := h.jv 177 Zq g86 g87
 refine aa (ae (v := SI) rfl) (nJ (aa (ag (v := (I6 ((((((d + (x8.length : Int)) + (x32.length : Int)) + 1) + (yw.length : Int)) + 1)))) rfl) (aa (ag (v := SI) rfl) (aa (bC jF rfl (h.dE 177 rfl)) ?_))))
 obtain ⟨a89, hs⟩ := aW hs
 refine aa (bU rfl rfl a89) (aa (ae (v := (I6 (((((((d + (x8.length : Int)) + (x32.length : Int)) + 1) + (yw.length : Int)) + 1) + (Md.length : Int))))) rfl) (nN (bQ (σ := Int) (inl [19, 134, 135, 136, 137]) (fun x90 => [(19, (I6 x90))]) (fun x90 w => SH w0 M BE w (hset [(1, .sr dJ va a), (2, .sr gT vb b), (6, .own iJ 93 v7 x8), (13, .own iJ 93 v31 x32), (176, .own iJ 93 u75 yw), (177, .own iJ 93 SI Md)]) ∧ mM x32 c d x8 yw Md lD x90 = some r) ?_ ?_)))
 rintro x90 w cZ ⟨h, hs⟩
 refine az (aa (ag (v := v31) rfl) (aa (ag (v := (I6 c)) rfl) (aa (ag (v := (I6 ((((((d + (x8.length : Int)) + (x32.length : Int)) + 1) + (yw.length : Int)) + 1)))) rfl) (aa (ek (pv := [(0, (I6 13)), (1, (I6 c)), (2, (I6 ((((((d + (x8.length : Int)) + (x32.length : Int)) + 1) + (yw.length : Int)) + 1))))]) (out := [(I6 13), (I6 c), (I6 ((((((d + (x8.length : Int)) + (x32.length : Int)) + 1) + (yw.length : Int)) + 1))), (I6 0), (.slice none 0 0)]) kZ rfl ⟨0, 1, [(I6 13)], rfl, rfl, rfl, bB rfl, ⟨1, 1, [(I6 c)], rfl, rfl, rfl, bB rfl, ⟨2, 1, [(I6 ((((((d + (x8.length : Int)) + (x32.length : Int)) + 1) + (yw.length : Int)) + 1)))], rfl, rfl, rfl, bB rfl, rfl⟩⟩⟩) (pK (R := iJ) (vs := [(.agg #[(I6 13), (I6 c), (I6 ((((((d + (x8.length : Int)) + (x32.length : Int)) + 1) + (yw.length : Int)) + 1))), (I6 0), (.slice none 0 0)])]) (xs := [(⟨13, c, (((((d + (x8.length : Int)) + (x32.length : Int)) + 1) + (yw.length : Int)) + 1), 0, []⟩ : Ins)]) h 178 dN rfl rfl rfl ⟨⟨_, rfl, eY.nil⟩, trivial⟩ rfl fun w Ux h => ?_)))))
 obtain ⟨a92, hs⟩ := aW hs
 refine jm (R := iJ) (m := [(⟨13, c, (((((d + (x8.length : Int)) + (x32.length : Int)) + 1) + (yw.length : Int)) + 1), 0, []⟩ : Ins)]) h 13 rfl (h.dE 178 rfl) dN rfl rfl rfl a92.1 a92.2 fun w u93 h => aa (ag (v := u75) rfl) ?_
 obtain ⟨a94, hs⟩ := aW hs
 refine jm (R := iJ) (m := yw) h 13 rfl (h.dE 176 rfl) dN rfl rfl rfl a94.1 a94.2 fun w u95 h => aa (ag (v := (I6 x90)) rfl) (aa (ek (pv := [(0, (I6 12)), (2, (I6 x90))]) (out := [(I6 12), (I6 0), (I6 x90), (I6 0), (.slice none 0 0)]) kZ rfl ⟨0, 1, [(I6 12)], rfl, rfl, rfl, bB rfl, ⟨2, 1, [(I6 x90)], rfl, rfl, rfl, bB rfl, rfl⟩⟩) (pK (R := iJ) (vs := [(.agg #[(I6 12), (I6 0), (I6 x90), (I6 0), (.slice none 0 0)])]) (xs := [(⟨12, 0, x90, 0, []⟩ : Ins)]) h 179 dN rfl rfl rfl ⟨⟨_, rfl, eY.nil⟩, trivial⟩ rfl fun w u96 h => ?_))
 obtain ⟨a97, hs⟩ := aW hs
 refine jm (R := iJ) (m := [(⟨12, 0, x90, 0, []⟩ : Ins)]) h 13 rfl (h.dE 179 rfl) dN rfl rfl rfl a97.1 a97.2 fun w u98 h => aa (ag (v := SI) rfl) ?_
 obtain ⟨a99, hs⟩ := aW hs
 refine jm (R := iJ) (m := Md) h 13 rfl (h.dE 177 rfl) dN rfl rfl rfl a99.1 a99.2 fun w Uq h => aa (ae (v := Uq) rfl) (aB (au (ak ?_)))
 exact bO (Uq, ((((x32 ++ [(⟨13, c, (((((d + (x8.length : Int)) + (x32.length : Int)) + 1) + (yw.length : Int)) + 1), 0, []⟩ : Ins)]) ++ yw) ++ [(⟨12, 0, x90, 0, []⟩ : Ins)]) ++ Md)) ⟨h.cn _, hs⟩
 refine nG (aa (ah iZ rfl) (aa (aC h 12 rfl aS rfl rfl) (aa (bH rfl rfl) (nN (aG hs rfl (fun c101 hs => ?_) (fun c101 hs => ?_))))))
 refine az (aa (ag (v := (I6 ((d + (x8.length : Int))))) rfl) (aa (ae (v := (I6 ((d + (x8.length : Int))))) rfl) (aB (ak ?_))))
 exact bO (d + (x8.length : Int)) ⟨h.cn _, hs⟩
 refine aF (ak ?_)
 exact bO ((((((d + (x8.length : Int)) + (x32.length : Int)) + 1) + (yw.length : Int)) + 1) + (Md.length : Int)) ⟨h.cn _, hs⟩
 refine aF (au (ak ?_))
 exact bO (v31, x32) ⟨h.cn _, hs⟩
 refine nG (aa (bH rfl rfl) (aa (ae (v := (.bool (decide ((dx.kind : Int) = 6)))) rfl) (nN (aG hs rfl (fun UD hs => ?_) (fun UD hs => ?_)))))
 refine aF (ak ?_)
 exact bO (decide ((dx.kind : Int) = 6)) ⟨h.cn _, hs⟩
 refine az (aa (bH rfl rfl) (aa (ae (v := (.bool (decide ((dx.kind : Int) = 7)))) rfl) (aB (ak ?_))))
 exact bO (decide ((dx.kind : Int) = 7)) ⟨h.cn _, hs⟩
 refine nG (aa (ah wG rfl) (aa (aC h 12 rfl u7 rfl rfl) (aa (bC ji rfl (h.mY 8 rfl)) (aa (iV rfl rfl) (nN (aG hs rfl (fun UE hs => ?_) (fun UE hs => ?_)))))))
 refine az (aa (ah wG rfl) (aa (aC h 12 rfl u7 rfl rfl) (aa (ag (v := vb) rfl) (aa (ag (v := (I6 c)) rfl) ?_))))
 obtain ⟨y104, HV, hs⟩ := aJ hs
 refine aM Ha rfl rfl (tu N _ _ h.lt u21 dx.e (h.mY 8 rfl) vb b (h.fT 2 rfl) c _ HV) ?_
 rintro _ w ⟨k109, Jo, rfl, Wu, g108⟩
 refine ⟨_, rfl, ?_⟩
 replace h := h.jv 180 k109 Wu g108
 refine aa (ag (v := (.tuple #[Jo, (I6 y104.2)])) rfl) (aa (bz rfl rfl) (aa (bz rfl rfl) (aa (ae (v := Jo) rfl) (aB (ak ?_)))))
 replace h := h.IK 180 13 rfl rfl (by decide)
 exact bO (Jo, y104.1) ⟨h.cn _, hs⟩
 refine aF (ak ?_)
 replace h := h.vS (R := iJ) (E := 93) 13
 exact bO ((.slice none 0 0), []) ⟨h.cn _, hs⟩
 rw [fI (hik ▸ e14), fw] at hs
 refine nE (aa (ag (v := v7) rfl) (aa (ae (v := v7) rfl) (nR (bE (v := v7) Tryz.results76 rfl ?_))))
 obtain rfl := gM hs
 exact ⟨h.grown, _, rfl, (h.kM 6 rfl).1, (h.kM 6 rfl).2⟩
def rO (x8 : List bR) (dx : dO) (lD : List bR → Option (List bR)) (QR : List Ins) : Option (List bR) :=
  gD (Room 40 x8 [(⟨dx.params, 30, QR⟩ : bR)]) (lD (x8 ++ [(⟨dx.params, 30, QR⟩ : bR)]))
def nO (N : Nat) (a : List dO) (dx : dO) (x8 : List bR) (lD : List bR → Option (List bR)) : Option (List bR) :=
  (kg N dx.body a dx.locals 0).bind fun yN => gD (Room 56 yN [(⟨1, dx.locals, 0, 0, []⟩ : Ins), (⟨8, dx.locals, 0, 0, []⟩ : Ins)]) (rO x8 dx lD (yN ++ [(⟨1, dx.locals, 0, 0, []⟩ : Ins), (⟨8, dx.locals, 0, 0, []⟩ : Ins)]))
def nP (x8 : List bR) : Option (List bR) :=
  some x8
def vO (N : Nat) (a : List dO) : Option (List bR) :=
  each (nO N a) nP a []
theorem zU (N : Nat) (w0 : World) (M : BS) (hM : ∀ b, M b → b < w0.heap.size) (va : Value) (a : List dO) (ha : eY gT w0 BE M va a) (r : List bR) (hs : vO N a = some r) :
    Calls Tryz.prog 39 #[va] w0 (fun e w' => Grow w0 w' ∧ ∃ u0, e = .returned (u0) ∧ dC lH 57 w' M u0 r ∧ (∀ b, ob u0 b → w0.heap.size ≤ b)) := by
 refine aH (args := [va]) Tryz.func39 rfl Tryz.ntmps39 (bB rfl) ?_
 have h := SH.init hM
 replace h := h.dR 1 ha aT
 have tZ := ha.bG
 refine nG (aa (ae (v := (.slice none 0 0)) rfl) (nJ (aa (ae (v := (.slice none 0 0)) rfl) (nK (aa (ag (v := va) rfl) (aa (bC gH rfl (h.fT 1 rfl)) (aa (ag (v := (I6 0)) rfl) (nN (aI ?_)))))))))
 replace h := h.vS (R := lH) (E := 57) 5
 refine fe (σ := Nat × Int × Value × List bR) (inl ([3, 5, 6] ++ rg 9 27)) (fun ⟨k9, i10, v7, x8⟩ => [(3, v7), (9, (I6 i10))]) (fun ⟨k9, i10, v7, x8⟩ w => SH w0 M BE w (hset [(1, .sr gT va a), (5, .own lH 57 v7 x8)]) ∧ i10 = (k9 : Int) ∧ each (nO N a) nP (a.drop k9) x8 = some r) (fun ⟨k9, i10, v7, x8⟩ => a.length - k9) ⟨0, 0, (.slice none 0 0), []⟩ ⟨rfl, rfl, trivial⟩ ?_ ?_
 exact ⟨h.cn _, rfl, hs⟩
 rintro ⟨k9, i10, v7, x8⟩ w cZ ⟨h, hik, hs⟩
 refine nG ?_
 refine aa (dm rfl rfl) (nN ?_)
 refine aK (gF rfl (fun e14 => ?_) (fun e14 => ?_))
 refine aF (aj ?_)
 obtain ⟨dx, Hr, Ht⟩ := fH (hik ▸ e14)
 rw [Ht, cz] at hs
 generalize BA : each (nO N a) nP (a.drop (k9 + 1)) = lD at hs
 have Hu := fK ((h.fT 1 rfl)).bG hik e14
 refine aK (aI (nG ?_))
 obtain ⟨b17, Yc, RF, h, Pw, i16⟩ := h.xx 1 6 rfl gH rfl (ic hik) (fJ hik Hr)
 obtain ⟨u21, rfl, g22⟩ := qo Pw
 replace h := h.bD 7 g22.up
 refine aa (i16 _ _ _ _ _ _ _ _ _ rfl rfl) (aa (iH (k := 0) (vs := [(I6 dx.params), (I6 dx.locals), u21]) h 6 rfl kI rfl rfl rfl (bB rfl)) (bL h 8 kI fun w Aa h => dS (vs := [(I6 dx.params), (I6 dx.locals), u21]) h 8 [(I6 dx.params), (I6 dx.locals), u21] rfl kI rfl rfl rfl rfl rfl (ai rfl (ai rfl (ai (h.fq 7 rfl).one aZ))) fun w h => nJ (aa (ah sO rfl) (aa (aC h 8 rfl aS rfl rfl) (aa (ek (pv := [(0, (I6 dx.params)), (1, (I6 30))]) (out := [(I6 dx.params), (I6 30), (.slice none 0 0)]) O3 rfl ⟨0, 1, [(I6 dx.params)], rfl, rfl, rfl, bB rfl, ⟨1, 1, [(I6 30)], rfl, rfl, rfl, bB rfl, rfl⟩⟩) (bL h 9 tY fun w WJ h => dS (vs := [(I6 dx.params), (I6 30), (.slice none 0 0)]) h 9 [(I6 dx.params), (I6 30), (.slice none 0 0)] rfl tY rfl rfl rfl rfl rfl (ai rfl (ai rfl (ai rfl aZ))) fun w h => nN (bQ (σ := Value × List Ins) (inl (rg 16 15)) (fun ⟨v25, QR⟩ => []) (fun ⟨v25, QR⟩ w => SH w0 M BE w (hset [(1, .sr gT va a), (5, .own lH 57 v7 x8), (9, .blk WJ [(I6 dx.params), (I6 30), v25]), (70, .own iJ 93 v25 QR)]) ∧ rO x8 dx lD QR = some r) ?_ ?_)))))))
 rintro ⟨v25, QR⟩ w cZ ⟨h, hs⟩
 refine az (aa (ag (v := v7) rfl) (aa (fu (vs := [(I6 dx.params), (I6 30), v25]) h 9 rfl tY rfl rfl rfl) ?_))
 replace h := h.freeze 70 rfl
 refine pK (R := lH) (vs := [(.agg #[(I6 dx.params), (I6 30), v25])]) (xs := [(⟨dx.params, 30, QR⟩ : bR)]) h 71 I7 rfl rfl rfl ⟨⟨_, rfl, (h.fq 70 rfl)⟩, trivial⟩ rfl fun w u27 h => ?_
 obtain ⟨a28, hs⟩ := aW hs
 refine jm (R := lH) (m := [(⟨dx.params, 30, QR⟩ : bR)]) h 5 rfl (h.dE 71 rfl) I7 rfl rfl rfl a28.1 a28.2 fun w u29 h => aa (ae (v := u29) rfl) (aB (au (aj (az (aa (bU rfl rfl Hu) (aa (ag (v := (I6 ((i10 + 1)))) rfl) (aB (ak ?_))))))))
 subst BA
 exact iW ⟨k9 + 1, i10 + 1, u29, (x8 ++ [(⟨dx.params, 30, QR⟩ : bR)])⟩ ⟨h.cn _, by omega, hs⟩ (by have := nX e14; dsimp only; omega)
 refine sJ (L := (fun x => x = WJ)) mixed h fun w h => dn 0 (aO.refl _ _) rfl ay (by kernel_rfl) (by kernel_rfl) (by kernel_rfl) (fun w hk => ah yJ rfl) (dn 1 (aO.refl _ _) rfl ay (by kernel_rfl) (by kernel_rfl) (by kernel_rfl) (fun w hk => have h := h.uw 9 rfl hk; aC h 8 rfl nD rfl rfl) (dn 2 (aO.refl _ _) rfl ay (by kernel_rfl) (by kernel_rfl) (by kernel_rfl) (fun w hk => ag (v := va) rfl) (dn 3 (aO.refl _ _) rfl ay (by kernel_rfl) (by kernel_rfl) (by kernel_rfl) (fun w hk => ah wF rfl) (dn 4 (aO.refl _ _) rfl ay (by kernel_rfl) (by kernel_rfl) (by kernel_rfl) (fun w hk => have h := h.uw 9 rfl hk; aC h 8 rfl aS rfl rfl) (dn 6 (aO.refl _ _) rfl ay (by kernel_rfl) (by kernel_rfl) (by kernel_rfl) (fun w hk => ah wF rfl) (dn 7 (aO.refl _ _) rfl ay (by kernel_rfl) (by kernel_rfl) (by kernel_rfl) (fun w hk => have h := h.uw 9 rfl hk; aC h 8 rfl aS rfl rfl) (dn 8 (aO.refl _ _) rfl ay (by kernel_rfl) (by kernel_rfl) (by kernel_rfl) (fun w hk => ek (pv := [(0, (I6 1)), (1, (I6 dx.locals))]) (out := [(I6 1), (I6 dx.locals), (I6 0), (I6 0), (.slice none 0 0)]) kZ rfl ⟨0, 1, [(I6 1)], rfl, rfl, rfl, bB rfl, ⟨1, 1, [(I6 dx.locals)], rfl, rfl, rfl, bB rfl, rfl⟩⟩) (dn 9 (aO.refl _ _) rfl ay (by kernel_rfl) (by kernel_rfl) (by kernel_rfl) (fun w hk => ah wF rfl) (dn 10 (aO.refl _ _) rfl ay (by kernel_rfl) (by kernel_rfl) (by kernel_rfl) (fun w hk => have h := h.uw 9 rfl hk; aC h 8 rfl aS rfl rfl) (dn 11 (aO.refl _ _) rfl ay (by kernel_rfl) (by kernel_rfl) (by kernel_rfl) (fun w hk => ek (pv := [(0, (I6 8)), (1, (I6 dx.locals))]) (out := [(I6 8), (I6 dx.locals), (I6 0), (I6 0), (.slice none 0 0)]) kZ rfl ⟨0, 1, [(I6 8)], rfl, rfl, rfl, bB rfl, ⟨1, 1, [(I6 dx.locals)], rfl, rfl, rfl, bB rfl, rfl⟩⟩) ?_))))))))))
 obtain ⟨yN, Jr, hs⟩ := aJ hs
 obtain ⟨zH, hs⟩ := aW hs
 obtain ⟨Ky, Jg⟩ : ∃ x, x = w := ⟨_, rfl⟩
 have lI : aO (fun x => x = WJ) Ky w := Jg ▸ aO.refl (fun x => x = WJ) w
 refine yB Jg.symm (uX 5 12 (by kernel_rfl) rfl ay rfl ay ?_ ?_)
 refine aM Ho rfl rfl (tF N _ _ h.lt u21 dx.body (h.mY 7 rfl) va a (h.fT 1 rfl) dx.locals 0 _ Jr) ?_
 rintro _ w ⟨yO, EA, rfl, EB, yP⟩
 refine ⟨_, rfl, ?_⟩
 replace h := h.jv 132 yO EB yP
 have wR : ∀ b, ob EA b → Ky.heap.size ≤ b := fun b hb => Nat.le_trans lI.size (yP b hb)
 replace lI := lI.grow yO
 refine aB (aV lI (bS 12 (by kernel_rfl) rfl ay (zZ (R := iJ) (vs := [(.agg #[(I6 1), (I6 dx.locals), (I6 0), (I6 0), (.slice none 0 0)]), (.agg #[(I6 8), (I6 dx.locals), (I6 0), (I6 0), (.slice none 0 0)])]) (xs := [(⟨1, dx.locals, 0, 0, []⟩ : Ins), (⟨8, dx.locals, 0, 0, []⟩ : Ins)]) h 216 dN rfl rfl rfl ⟨⟨_, rfl, eY.nil⟩, ⟨⟨_, rfl, eY.nil⟩, trivial⟩⟩ rfl fun w Cz h Ap Aq => ?_)))
 have KX : ∀ b, ob Cz b → Ky.heap.size ≤ b := fun b hb => Nat.le_trans lI.size (Aq b hb)
 replace lI := lI.grow Ap
 refine aB (aV lI (bS 13 (by kernel_rfl) rfl ay ?_))
 have Ar := lI.size
 refine pY (R := iJ) (m := [(⟨1, dx.locals, 0, 0, []⟩ : Ins), (⟨8, dx.locals, 0, 0, []⟩ : Ins)]) h 132 rfl (h.dE 216 rfl) dN rfl rfl rfl zH.1 zH.2 fun w wS h Au Av => ?_
 replace lI := lI.Ot Au wR
 have KY := F4 Ar wR Av
 refine aB (aV lI (gQ 14 lI rfl (by kernel_rfl) (fun w hk => ah uG rfl) (bS 15 (by kernel_rfl) rfl ay (tX h 9 [(I6 dx.params), (I6 30), wS] rfl Bv rfl rfl rfl rfl (h.fD 132 rfl).one fun w h CB => ?_))))
 replace lI := lI.same CB
 refine aB (aV lI (jG (by kernel_rfl) (ak ?_)))
 replace h := h.IK 132 70 rfl rfl (by decide)
 exact bO (wS, (yN ++ [(⟨1, dx.locals, 0, 0, []⟩ : Ins), (⟨8, dx.locals, 0, 0, []⟩ : Ins)])) ⟨h.cn _, hs⟩
 refine zZ (R := iJ) (vs := [(.agg #[(I6 1), (I6 dx.locals), (I6 0), (I6 0), (.slice none 0 0)]), (.agg #[(I6 8), (I6 dx.locals), (I6 0), (I6 0), (.slice none 0 0)])]) (xs := [(⟨1, dx.locals, 0, 0, []⟩ : Ins), (⟨8, dx.locals, 0, 0, []⟩ : Ins)]) h 216 dN rfl rfl rfl ⟨⟨_, rfl, eY.nil⟩, ⟨⟨_, rfl, eY.nil⟩, trivial⟩⟩ rfl fun w Cz h Ap Aq => ?_
 have KX : ∀ b, ob Cz b → Ky.heap.size ≤ b := fun b hb => Nat.le_trans lI.size (Aq b hb)
 replace lI := lI.grow Ap
 refine aB (aV lI (bS 5 (by kernel_rfl) rfl ay (aM Ho rfl rfl (tF N _ _ h.lt u21 dx.body (h.mY 7 rfl) va a (h.fT 1 rfl) dx.locals 0 _ Jr) ?_)))
 rintro _ w ⟨yO, EA, rfl, EB, yP⟩
 refine ⟨_, rfl, ?_⟩
 replace h := h.jv 132 yO EB yP
 have wR : ∀ b, ob EA b → Ky.heap.size ≤ b := fun b hb => Nat.le_trans lI.size (yP b hb)
 replace lI := lI.grow yO
 refine aB (aV lI (bS 13 (by kernel_rfl) rfl ay ?_))
 have Ar := lI.size
 refine pY (R := iJ) (m := [(⟨1, dx.locals, 0, 0, []⟩ : Ins), (⟨8, dx.locals, 0, 0, []⟩ : Ins)]) h 132 rfl (h.dE 216 rfl) dN rfl rfl rfl zH.1 zH.2 fun w wS h Au Av => ?_
 replace lI := lI.Ot Au wR
 have KY := F4 Ar wR Av
 refine aB (aV lI (gQ 14 lI rfl (by kernel_rfl) (fun w hk => ah uG rfl) (bS 15 (by kernel_rfl) rfl ay (tX h 9 [(I6 dx.params), (I6 30), wS] rfl Bv rfl rfl rfl rfl (h.fD 132 rfl).one fun w h CB => ?_))))
 replace lI := lI.same CB
 refine aB (aV lI (jG (by kernel_rfl) (ak ?_)))
 replace h := h.IK 132 70 rfl rfl (by decide)
 exact bO (wS, (yN ++ [(⟨1, dx.locals, 0, 0, []⟩ : Ins), (⟨8, dx.locals, 0, 0, []⟩ : Ins)])) ⟨h.cn _, hs⟩
 rw [fI (hik ▸ e14), fw] at hs
 refine nE (aa (ag (v := v7) rfl) (aa (ae (v := v7) rfl) (nR (bE (v := v7) Tryz.results39 rfl ?_))))
 obtain rfl := gM hs
 exact ⟨h.grown, _, rfl, (h.kM 5 rfl).1, (h.kM 5 rfl).2⟩
def eu (x6 : Bool) : Bool × Bool × Bool × Bool :=
  bif x6 then (false, false, false, true) else (false, false, false, false)
def dU (a : Int) (x3 : Bool) : Bool × Bool × Bool × Bool :=
  bif x3 then (true, true, false, true) else bif decide ((a : Int) = 3) then (true, true, true, true) else bif decide ((a : Int) = 10) then eu (decide ((a : Int) = 10)) else eu (decide ((a : Int) = 12))
def df (a : Int) (x1 : Bool) : Bool × Bool × Bool × Bool :=
  bif x1 then (true, false, false, true) else bif decide ((a : Int) = 2) then dU a (decide ((a : Int) = 2)) else bif decide ((a : Int) = 4) then dU a (decide ((a : Int) = 4)) else dU a (decide ((a : Int) = 6))
def aY (a : Int) : Bool × Bool × Bool × Bool :=
  bif decide ((a : Int) = 1) then df a (decide ((a : Int) = 1)) else bif decide ((a : Int) = 5) then df a (decide ((a : Int) = 5)) else bif decide ((a : Int) = 8) then df a (decide ((a : Int) = 8)) else bif decide ((a : Int) = 9) then df a (decide ((a : Int) = 9)) else bif decide ((a : Int) = 11) then df a (decide ((a : Int) = 11)) else bif decide ((a : Int) = 13) then df a (decide ((a : Int) = 13)) else df a (decide ((a : Int) = 7))
theorem Js (w0 : World) (M : BS) (hM : ∀ b, M b → b < w0.heap.size) (a : Int) (r : Bool × Bool × Bool × Bool) (hs : aY a = r) :
    Calls Tryz.prog 115 #[(I6 a)] w0 (fun e w' => Grow w0 w' ∧ e = .returned (.tuple #[.bool r.1, .bool r.2.1, .bool r.2.2.1, .bool r.2.2.2])) := by
 refine aH (args := [(I6 a)]) Tryz.func115 rfl Tryz.ntmps115 (bB rfl) ?_
 have h := SH.init hM
 refine nG (aa (ae (v := (.bool (false))) rfl) (aa (ae (v := (.bool (false))) rfl) (aa (ae (v := (.bool (false))) rfl) (aa (ae (v := (.bool (false))) rfl) (nK (aa (ag (v := (I6 a)) rfl) (nN (aI (bQ (σ := Bool) (inl (rg 7 8)) (fun x1 => [(7, (.bool (x1)))]) (fun x1 w => SH w0 M BE w (hset []) ∧ df a x1 = r) ?_ ?_)))))))))
 rintro x1 w cZ ⟨h, hs⟩
 refine aG hs rfl (fun c2 hs => ?_) (fun c2 hs => ?_)
 refine nG (aa (ae (v := (.bool (true))) rfl) (aa (ae (v := (.bool (false))) rfl) (aa (ae (v := (.bool (false))) rfl) (aa (ae (v := (.bool (true))) rfl) (nR (aD (ax (OE (v1 := (.bool (true))) (v2 := (.bool (false))) (v3 := (.bool (false))) (v4 := (.bool (true))) Tryz.results115 rfl rfl rfl rfl ?_))))))))
 obtain rfl := hs
 exact ⟨h.grown, rfl⟩
 refine bQ (σ := Bool) (inl [15, 16, 17, 18]) (fun x3 => [(15, (.bool (x3)))]) (fun x3 w => SH w0 M BE w (hset []) ∧ dU a x3 = r) ?_ ?_
 rintro x3 w cZ ⟨h, hs⟩
 refine aG hs rfl (fun c4 hs => ?_) (fun c4 hs => ?_)
 refine nG (aa (ae (v := (.bool (true))) rfl) (aa (ae (v := (.bool (true))) rfl) (aa (ae (v := (.bool (false))) rfl) (aa (ae (v := (.bool (true))) rfl) (nR (aD (ax (OE (v1 := (.bool (true))) (v2 := (.bool (true))) (v3 := (.bool (false))) (v4 := (.bool (true))) Tryz.results115 rfl rfl rfl rfl ?_))))))))
 obtain rfl := hs
 exact ⟨h.grown, rfl⟩
 refine nG (aa (bH rfl rfl) (aa (ae (v := (.bool (decide ((a : Int) = 3)))) rfl) (nN (aG hs rfl (fun c5 hs => ?_) (fun c5 hs => ?_)))))
 refine nG (aa (ae (v := (.bool (true))) rfl) (aa (ae (v := (.bool (true))) rfl) (aa (ae (v := (.bool (true))) rfl) (aa (ae (v := (.bool (true))) rfl) (nR (aD (ax (OE (v1 := (.bool (true))) (v2 := (.bool (true))) (v3 := (.bool (true))) (v4 := (.bool (true))) Tryz.results115 rfl rfl rfl rfl ?_))))))))
 obtain rfl := hs
 exact ⟨h.grown, rfl⟩
 refine bQ (σ := Bool) (inl [21, 22, 23]) (fun x6 => [(21, (.bool (x6)))]) (fun x6 w => SH w0 M BE w (hset []) ∧ eu x6 = r) ?_ ?_
 rintro x6 w cZ ⟨h, hs⟩
 refine aG hs rfl (fun c7 hs => ?_) (fun c7 hs => ?_)
 refine nG (aa (ae (v := (.bool (false))) rfl) (aa (ae (v := (.bool (false))) rfl) (aa (ae (v := (.bool (false))) rfl) (aa (ae (v := (.bool (true))) rfl) (nR (aD (ax (OE (v1 := (.bool (false))) (v2 := (.bool (false))) (v3 := (.bool (false))) (v4 := (.bool (true))) Tryz.results115 rfl rfl rfl rfl ?_))))))))
 obtain rfl := hs
 exact ⟨h.grown, rfl⟩
 refine aF (au (aj (nG (aa (ae (v := (.bool (false))) rfl) (aa (ae (v := (.bool (false))) rfl) (aa (ae (v := (.bool (false))) rfl) (aa (ae (v := (.bool (false))) rfl) (nR (OE (v1 := (.bool (false))) (v2 := (.bool (false))) (v3 := (.bool (false))) (v4 := (.bool (false))) Tryz.results115 rfl rfl rfl rfl ?_)))))))))
 obtain rfl := hs
 exact ⟨h.grown, rfl⟩
 refine nG (aa (bH rfl rfl) (aa (ae (v := (.bool (decide ((a : Int) = 10)))) rfl) (nN (aG hs rfl (fun c8 hs => ?_) (fun c8 hs => ?_)))))
 refine aF (ak ?_)
 exact bO (decide ((a : Int) = 10)) ⟨h.cn _, hs⟩
 refine az (aa (bH rfl rfl) (aa (ae (v := (.bool (decide ((a : Int) = 12)))) rfl) (aB (ak ?_))))
 exact bO (decide ((a : Int) = 12)) ⟨h.cn _, hs⟩
 refine nG (aa (bH rfl rfl) (aa (ae (v := (.bool (decide ((a : Int) = 2)))) rfl) (nN (aG hs rfl (fun c9 hs => ?_) (fun c9 hs => ?_)))))
 refine aF (ak ?_)
 exact bO (decide ((a : Int) = 2)) ⟨h.cn _, hs⟩
 refine nG (aa (bH rfl rfl) (aa (ae (v := (.bool (decide ((a : Int) = 4)))) rfl) (nN (aG hs rfl (fun c10 hs => ?_) (fun c10 hs => ?_)))))
 refine aF (ak ?_)
 exact bO (decide ((a : Int) = 4)) ⟨h.cn _, hs⟩
 refine az (aa (bH rfl rfl) (aa (ae (v := (.bool (decide ((a : Int) = 6)))) rfl) (aB (ak ?_))))
 exact bO (decide ((a : Int) = 6)) ⟨h.cn _, hs⟩
 refine nG (aa (bH rfl rfl) (aa (ae (v := (.bool (decide ((a : Int) = 1)))) rfl) (nN (aG hs rfl (fun c11 hs => ?_) (fun c11 hs => ?_)))))
 refine aF (ak ?_)
 exact bO (decide ((a : Int) = 1)) ⟨h.cn _, hs⟩
 refine nG (aa (bH rfl rfl) (aa (ae (v := (.bool (decide ((a : Int) = 5)))) rfl) (nN (aG hs rfl (fun c12 hs => ?_) (fun c12 hs => ?_)))))
 refine aF (ak ?_)
 exact bO (decide ((a : Int) = 5)) ⟨h.cn _, hs⟩
 refine nG (aa (bH rfl rfl) (aa (ae (v := (.bool (decide ((a : Int) = 8)))) rfl) (nN (aG hs rfl (fun c13 hs => ?_) (fun c13 hs => ?_)))))
 refine aF (ak ?_)
 exact bO (decide ((a : Int) = 8)) ⟨h.cn _, hs⟩
 refine nG (aa (bH rfl rfl) (aa (ae (v := (.bool (decide ((a : Int) = 9)))) rfl) (nN (aG hs rfl (fun c14 hs => ?_) (fun c14 hs => ?_)))))
 refine aF (ak ?_)
 exact bO (decide ((a : Int) = 9)) ⟨h.cn _, hs⟩
 refine nG (aa (bH rfl rfl) (aa (ae (v := (.bool (decide ((a : Int) = 11)))) rfl) (nN (aG hs rfl (fun c15 hs => ?_) (fun c15 hs => ?_)))))
 refine aF (ak ?_)
 exact bO (decide ((a : Int) = 11)) ⟨h.cn _, hs⟩
 refine nG (aa (bH rfl rfl) (aa (ae (v := (.bool (decide ((a : Int) = 13)))) rfl) (nN (aG hs rfl (fun c16 hs => ?_) (fun c16 hs => ?_)))))
 refine aF (ak ?_)
 exact bO (decide ((a : Int) = 13)) ⟨h.cn _, hs⟩
 refine az (aa (bH rfl rfl) (aa (ae (v := (.bool (decide ((a : Int) = 7)))) rfl) (aB (ak ?_))))
 exact bO (decide ((a : Int) = 7)) ⟨h.cn _, hs⟩
def dH (a : Bool) (b : Int) (jc : Int) : Bool :=
  ((!a) || (decide ((0 : Int) ≤ b) && decide ((b : Int) < jc)))
theorem yh (w0 : World) (M : BS) (hM : ∀ b, M b → b < w0.heap.size) (a : Bool) (b : Int) (jc : Int) (q0 : Nat) (hq0 : ∃ E, w0.heap[q0]? = some (.cells #[(I6 jc)] E (0, 0))) (r : Bool) (hs : dH a b jc = r) :
    Calls Tryz.prog 116 #[(.bool (a)), (I6 b), (.pointer (some ⟨q0, 0, none⟩))] w0 (fun e w' => Grow w0 w' ∧ e = .returned (.bool r)) := by
 refine aH (args := [(.bool (a)), (I6 b), (.pointer (some ⟨q0, 0, none⟩))]) Tryz.func116 rfl Tryz.ntmps116 (bB rfl) ?_
 have h := SH.init hM
 replace h := h.FX 1 (cs := [(I6 jc)]) hq0 aT
 refine nG (aa (ae (v := (.bool (false))) rfl) (nJ (aa (ag (v := (.bool (a))) rfl) (aa (fU rfl) (aa (ag (v := (.bool ((!a)))) rfl) (aA rfl rfl (fun q => ag (v := (I6 b)) rfl) (aA rfl rfl (fun q => pq (bZ q) rfl) (aA rfl rfl (fun q => ag (v := (.bool (decide ((0 : Int) ≤ b)))) (bZ q)) (l9 ((!a) == false) rfl rfl (fun q => ag (v := (I6 b)) rfl) (l9 ((!a) == false) rfl rfl (fun q => dY (k := 0) h 1 rfl aS rfl rfl) (l9 ((!a) == false) rfl rfl (fun q => dm (bZ q) (bZ q)) (aA rfl rfl (fun q => gG (bZ q) (Ol q) mX) (aa (gK rfl rfl mX) (aa (ae (v := (.bool (((!a) || (decide ((0 : Int) ≤ b) && decide ((b : Int) < jc)))))) rfl) (nR (bE (v := (.bool (((!a) || (decide ((0 : Int) ≤ b) && decide ((b : Int) < jc)))))) Tryz.results116 rfl ?_))))))))))))))))
 obtain rfl := hs
 exact ⟨h.grown, rfl⟩
def lF (d : Int) (x20 : Int) (s : Unit) (RO : Unit → Option Int) : Option Int :=
  bif (!(decide ((0 : Int) ≤ x20) && decide ((x20 : Int) < d))) then some 3 else RO ()
def pR (s : Unit) : Option Int :=
  some 0
def dw (x9 : Bool) (a : Ins) (b : Int) (DW : Int) (c : List bR) (y13 : Int) (yn : Int) (d : Int) (qa : Int) : Option Int :=
  bif (!x9) then some 3 else bif (((decide ((a.a : Int) ≠ qa) || decide ((a.b : Int) ≠ DW)) || decide ((a.c : Int) ≠ y13)) || decide (((a.args.length : Int) : Int) ≠ yn)) then some 4 else bif decide ((a.op : Int) = 7) then each (lF d) pR a.args () else some 0
def bF (a : Ins) (b : Int) (c : List bR) (d : Int) (x9 : Bool) (yn : Int) (Nj : Int) (DW : Int) (y13 : Int) : Option Int :=
  bif decide ((a.op : Int) = 12) then dw x9 a b DW c y13 yn d 0 else dw x9 a b DW c y13 yn d Nj
def bV (a : Ins) (b : Int) (c : List bR) (d : Int) (Ba : Bool) : Option Int :=
  bif Ba then bF a b c d ((aY a.op).2.2.2) 0 a.a 0 0 else bif decide ((a.op : Int) = 10) then bF a b c d ((aY a.op).2.2.2) 0 0 0 0 else bF a b c d ((aY a.op).2.2.2) 0 a.a a.b 0
def bX (a : Ins) (b : Int) (c : List bR) (d : Int) (e : Int) (VD : Bool) : Option Int :=
  bif VD then bF a b c d (decide ((0 : Int) ≤ a.b) && decide ((a.b : Int) < e)) 0 a.a a.b 0 else bif decide ((a.op : Int) = 7) then bif (decide ((a.b : Int) < 0) || decide (((c.length : Int) : Int) ≤ a.b)) then some 5 else (idx c a.b).bind fun x54 => bF a b c d ((aY a.op).2.2.2) x54.params a.a a.b 0 else bif decide ((a.op : Int) = 8) then bV a b c d (decide ((a.op : Int) = 8)) else bif decide ((a.op : Int) = 9) then bV a b c d (decide ((a.op : Int) = 9)) else bV a b c d (decide ((a.op : Int) = 11))
def bY (a : Ins) (b : Int) (c : List bR) (d : Int) (e : Int) (x34 : Bool) : Option Int :=
  bif x34 then bF a b c d (decide ((0 : Int) ≤ a.c) && decide ((a.c : Int) < 4)) 0 a.a a.b a.c else bif decide ((a.op : Int) = 3) then bif decide (((a.args.length : Int) : Int) = 1) then (idx a.args 0).bind fun x38 => bF a b c d (decide ((1 : Int) ≤ x38) && decide ((x38 : Int) ≤ 5)) 1 a.a a.b a.c else bF a b c d false 1 a.a a.b a.c else bif decide ((a.op : Int) = 12) then bX a b c d e (decide ((a.op : Int) = 12)) else bX a b c d e (decide ((a.op : Int) = 13))
def fF (a : Ins) (b : Int) (c : List bR) (d : Int) (e : Int) : Option Int :=
  bif (!(aY a.op).2.2.2) then some 4 else bif (((!((!(aY a.op).1) || (decide ((0 : Int) ≤ a.a) && decide ((a.a : Int) < d)))) || (!(dH ((aY a.op).2.1) a.b d))) || (!(dH ((aY a.op).2.2.1) a.c d))) then some 3 else bif decide ((a.op : Int) = 1) then bF a b c d (decide ((-1000000000 : Int) ≤ a.b) && decide ((a.b : Int) ≤ 1000000000)) 0 a.a a.b 0 else bif decide ((a.op : Int) = 5) then bF a b c d (decide ((1 : Int) ≤ a.b) && decide ((a.b : Int) ≤ 4)) 0 a.a a.b 0 else bif decide ((a.op : Int) = 4) then bY a b c d e (decide ((a.op : Int) = 4)) else bY a b c d e (decide ((a.op : Int) = 6))
theorem H7 (w0 : World) (M : BS) (hM : ∀ b, M b → b < w0.heap.size) (a : Ins) (KZ : Value) (ha4 : eY cu w0 BE M KZ a.args) (b : Int) (vc : Value) (c : List bR) (hc : eY lH w0 BE M vc c) (d : Int) (e : Int) (r : Int) (hs : fF a b c d e = some r) :
    Calls Tryz.prog 86 #[(.agg #[(I6 a.op), (I6 a.a), (I6 a.b), (I6 a.c), KZ]), (I6 b), vc, (I6 d), (I6 e)] w0 (fun e w' => Grow w0 w' ∧ e = .returned (.int .i64 r)) := by
 refine aH (args := [(.agg #[(I6 a.op), (I6 a.a), (I6 a.b), (I6 a.c), KZ]), (I6 b), vc, (I6 d), (I6 e)]) Tryz.func86 rfl Tryz.ntmps86 (bB rfl) ?_
 have h := SH.init hM
 replace h := h.dR 1 ha4 aT
 replace h := h.dR 2 hc (bA aT)
 have hl_c := hc.bG
 refine nG (ql (cs := [(I6 a.op), (I6 a.a), (I6 a.b), (I6 a.c), KZ]) h 3 rfl rfl fun w b1 h => ql (cs := [(I6 d)]) h 4 rfl rfl fun w b2 h => aa (ae (v := (I6 0)) rfl) (nJ (aa (ah rZ rfl) (aa (aC h 3 rfl aS rfl rfl) (aM Rs rfl rfl (Js _ _ h.lt a.op _ rfl) ?_)))))
 rintro _ w ⟨k3, rfl⟩
 refine ⟨_, rfl, ?_⟩
 replace h := h.grow k3
 refine aa (ag (v := (.tuple #[(.bool ((aY a.op).1)), (.bool ((aY a.op).2.1)), (.bool ((aY a.op).2.2.1)), (.bool ((aY a.op).2.2.2))])) rfl) (aa (bz rfl rfl) (aa (bz rfl rfl) (aa (bz rfl rfl) (aa (bz rfl rfl) (aa (ae (v := (.bool ((aY a.op).1))) rfl) (aa (ae (v := (.bool ((aY a.op).2.1))) rfl) (aa (ae (v := (.bool ((aY a.op).2.2.1))) rfl) (aa (ae (v := (.bool ((aY a.op).2.2.2))) rfl) (nK (aa (ag (v := (.bool ((aY a.op).2.2.2))) rfl) (aa (fU rfl) (nN (aG hs rfl (fun c4 hs => ?_) (fun c4 hs => ?_))))))))))))))
 refine nG (aa (ae (v := (I6 4)) rfl) (nR (ax (bE (v := (I6 4)) Tryz.results86 rfl ?_))))
 obtain rfl := gM hs
 exact ⟨h.grown, rfl⟩
 refine nS (aa (qc (c1 := []) (c2 := [(.pointer (some ⟨b2, 0, none⟩))]) rfl rfl) (aa (ae (v := (.func (.func 116) #[] #[(.pointer (some ⟨b2, 0, none⟩))])) rfl) (nK (aa (ag (v := (.func (.func 116) #[] #[(.pointer (some ⟨b2, 0, none⟩))])) rfl) (aa (ag (v := (.bool ((aY a.op).1))) rfl) (aa (ah zA rfl) (aa (aC h 3 rfl aS rfl rfl) (jo (args := [(.bool ((aY a.op).1)), (I6 a.a), (.pointer (some ⟨b2, 0, none⟩))]) DN rfl rfl (aH (args := [(.bool ((aY a.op).1)), (I6 a.a), (.pointer (some ⟨b2, 0, none⟩))]) Tryz.func116 rfl Tryz.ntmps116 (bB rfl) (nG (aa (ae (v := (.bool (false))) rfl) (nJ ?_))))))))))))
 refine aa (ag (v := (.bool ((aY a.op).1))) rfl) (aa (fU rfl) (aa (ag (v := (.bool ((!(aY a.op).1)))) rfl) (aA rfl rfl (fun q => ag (v := (I6 a.a)) rfl) (aA rfl rfl (fun q => pq (bZ q) rfl) (aA rfl rfl (fun q => ag (v := (.bool (decide ((0 : Int) ≤ a.a)))) (bZ q)) (l9 ((!(aY a.op).1) == false) rfl rfl (fun q => ag (v := (I6 a.a)) rfl) (l9 ((!(aY a.op).1) == false) rfl rfl (fun q => aC h 4 rfl aS rfl rfl) (l9 ((!(aY a.op).1) == false) rfl rfl (fun q => dm (bZ q) (bZ q)) (aA rfl rfl (fun q => gG (bZ q) (Ol q) mX) (aa (gK rfl rfl mX) (aa (ae (v := (.bool (((!(aY a.op).1) || (decide ((0 : Int) ≤ a.a) && decide ((a.a : Int) < d)))))) rfl) (nR (bE (v := (.bool (((!(aY a.op).1) || (decide ((0 : Int) ≤ a.a) && decide ((a.a : Int) < d)))))) Tryz.results116 rfl (⟨_, rfl, ?_⟩))))))))))))))
 refine aa (fU rfl) (aa (ag (v := (.bool ((!((!(aY a.op).1) || (decide ((0 : Int) ≤ a.a) && decide ((a.a : Int) < d))))))) rfl) (aA rfl rfl (fun q => ag (v := (.func (.func 116) #[] #[(.pointer (some ⟨b2, 0, none⟩))])) rfl) (aA rfl rfl (fun q => ag (v := (.bool ((aY a.op).2.1))) rfl) (aA rfl rfl (fun q => ah mq rfl) (aA rfl rfl (fun q => aC h 3 rfl aS (bZ q) rfl) (Ea [(.pointer (some ⟨b2, 0, none⟩))] rfl rfl DN (fun q => (bZ q)) (fun q => kF (bZ q) (kF (bZ q) rfl)) (yh _ _ h.lt ((aY a.op).2.1) a.b d b2 (h.pJ 4 rfl) _ rfl) fun w k5 => ?_))))))
 replace h := h.grow k5
 refine aA rfl rfl (fun q => fU (bZ q)) (aa (gK rfl rfl mX) (aa (ag (v := (.bool (((!((!(aY a.op).1) || (decide ((0 : Int) ≤ a.a) && decide ((a.a : Int) < d)))) || (!(dH ((aY a.op).2.1) a.b d)))))) rfl) (aA rfl rfl (fun q => ag (v := (.func (.func 116) #[] #[(.pointer (some ⟨b2, 0, none⟩))])) rfl) (aA rfl rfl (fun q => ag (v := (.bool ((aY a.op).2.2.1))) rfl) (aA rfl rfl (fun q => ah uH rfl) (aA rfl rfl (fun q => aC h 3 rfl aS (bZ q) rfl) (Ea [(.pointer (some ⟨b2, 0, none⟩))] rfl rfl DN (fun q => (bZ q)) (fun q => kF (bZ q) (kF (bZ q) rfl)) (yh _ _ h.lt ((aY a.op).2.2.1) a.c d b2 (h.pJ 4 rfl) _ rfl) fun w k6 => ?_)))))))
 replace h := h.grow k6
 refine aA rfl rfl (fun q => fU (bZ q)) (aa (gK rfl rfl mX) (nN (aG hs rfl (fun c7 hs => ?_) (fun c7 hs => ?_))))
 refine nG (aa (ae (v := (I6 3)) rfl) (nR (ax (bE (v := (I6 3)) Tryz.results86 rfl ?_))))
 obtain rfl := gM hs
 exact ⟨h.grown, rfl⟩
 refine nS (aa (ah uH rfl) (aa (aC h 3 rfl aS rfl rfl) (aa (pq rfl rfl) (aa (ag (v := (.bool (decide ((0 : Int) ≤ a.c)))) rfl) (aA rfl rfl (fun q => ah uH rfl) (aA rfl rfl (fun q => aC h 3 rfl aS (bZ q) rfl) (aA rfl rfl (fun q => dm (bZ q) rfl) (aa (gG rfl rfl mX) (aa (ae (v := (.bool ((decide ((0 : Int) ≤ a.c) && decide ((a.c : Int) < 4))))) rfl) (nJ (aa (ae (v := (I6 0)) rfl) (nJ (aa (ah rZ rfl) (aa (aC h 3 rfl aS rfl rfl) ?_))))))))))))))
 refine aa (ah zA rfl) (aa (aC h 3 rfl aS rfl rfl) (aa (ah mq rfl) (aa (aC h 3 rfl aS rfl rfl) (aa (ek (pv := [(0, (I6 a.op)), (1, (I6 a.a)), (2, (I6 a.b))]) (out := [(I6 a.op), (I6 a.a), (I6 a.b), (I6 0), (.slice none 0 0)]) kZ rfl ⟨0, 1, [(I6 a.op)], rfl, rfl, rfl, bB rfl, ⟨1, 1, [(I6 a.a)], rfl, rfl, rfl, bB rfl, ⟨2, 1, [(I6 a.b)], rfl, rfl, rfl, bB rfl, rfl⟩⟩⟩) (bL h 5 u6 fun w b8 h => dS (vs := [(I6 a.op), (I6 a.a), (I6 a.b), (I6 0), (.slice none 0 0)]) h 5 [(I6 a.op), (I6 a.a), (I6 a.b), (I6 0), (.slice none 0 0)] rfl u6 rfl rfl rfl rfl rfl (ai rfl (ai rfl (ai rfl (ai rfl (ai rfl aZ))))) fun w h => nN (bQ (σ := Bool × Int × Int × Int × Int) (inl ([10, 14, 17] ++ rg 69 91)) (fun ⟨x9, yn, Nj, DW, y13⟩ => [(14, (.bool (x9))), (17, (I6 yn))]) (fun ⟨x9, yn, Nj, DW, y13⟩ w => SH w0 M BE w (hset [(1, .sr cu KZ a.args), (3, .blk b1 [(I6 a.op), (I6 a.a), (I6 a.b), (I6 a.c), KZ]), (4, .blk b2 [(I6 d)]), (5, .blk b8 [(I6 a.op), (I6 Nj), (I6 DW), (I6 y13), (.slice none 0 0)])]) ∧ bF a b c d x9 yn Nj DW y13 = some r) ?_ ?_))))))
 rintro ⟨x9, yn, Nj, DW, y13⟩ w cZ ⟨h, hs⟩
 refine bQ (σ := Int) (inl [160, 161, 162, 163]) (fun qa => []) (fun qa w => SH w0 M BE w (hset [(1, .sr cu KZ a.args), (3, .blk b1 [(I6 a.op), (I6 a.a), (I6 a.b), (I6 a.c), KZ]), (4, .blk b2 [(I6 d)]), (5, .blk b8 [(I6 a.op), (I6 qa), (I6 DW), (I6 y13), (.slice none 0 0)])]) ∧ dw x9 a b DW c y13 yn d qa = some r) ?_ ?_
 rintro qa w cZ ⟨h, hs⟩
 refine aK (nG (aa (ag (v := (.bool (x9))) rfl) (aa (fU rfl) (nN (aG hs rfl (fun c15 hs => ?_) (fun c15 hs => ?_))))))
 refine nG (aa (ae (v := (I6 3)) rfl) (nR (ax (bE (v := (I6 3)) Tryz.results86 rfl ?_))))
 obtain rfl := gM hs
 exact ⟨h.grown, rfl⟩
 refine aF (aj (aK (nG (aa (ah zA rfl) (aa (aC h 3 rfl aS rfl rfl) (aa (ah zA rfl) (aa (aC h 5 rfl aS rfl rfl) (aa (iK rfl rfl) (aa (ag (v := (.bool (decide ((a.a : Int) ≠ qa)))) rfl) (aA rfl rfl (fun q => ah mq rfl) (aA rfl rfl (fun q => aC h 3 rfl aS (bZ q) rfl) (aA rfl rfl (fun q => ah mq rfl) (aA rfl rfl (fun q => aC h 5 rfl aS (bZ q) rfl) (aA rfl rfl (fun q => iK (bZ q) (bZ q)) (aa (gK rfl rfl mX) (aa (ag (v := (.bool ((decide ((a.a : Int) ≠ qa) || decide ((a.b : Int) ≠ DW))))) rfl) (aA rfl rfl (fun q => ah uH rfl) (aA rfl rfl (fun q => aC h 3 rfl aS (bZ q) rfl) (aA rfl rfl (fun q => ah uH rfl) (aA rfl rfl (fun q => aC h 5 rfl aS (bZ q) rfl) (aA rfl rfl (fun q => iK (bZ q) (bZ q)) (aa (gK rfl rfl mX) ?_))))))))))))))))))))))
 refine aa (ag (v := (.bool (((decide ((a.a : Int) ≠ qa) || decide ((a.b : Int) ≠ DW)) || decide ((a.c : Int) ≠ y13))))) rfl) (aA rfl rfl (fun q => ah zB rfl) (aA rfl rfl (fun q => aC h 3 rfl qK (bZ q) rfl) (aA rfl rfl (fun q => bC bP (bZ q) (h.fT 1 rfl)) (aA rfl rfl (fun q => ag (v := (I6 yn)) rfl) (aA rfl rfl (fun q => iK (bZ q) (bZ q)) (aa (gK rfl rfl mX) (nN (aG hs rfl (fun c16 hs => ?_) (fun c16 hs => ?_)))))))))
 refine nG (aa (ae (v := (I6 4)) rfl) (nR (ax (bE (v := (I6 4)) Tryz.results86 rfl ?_))))
 obtain rfl := gM hs
 exact ⟨h.grown, rfl⟩
 refine aF (aj (aK (nG (aa (ah rZ rfl) (aa (aC h 3 rfl aS rfl rfl) (aa (bH rfl rfl) (nN (aG hs rfl (fun c17 hs => ?_) (fun c17 hs => ?_)))))))))
 refine nG (aa (ah zB rfl) (aa (aC h 3 rfl qK rfl rfl) (aa (bC bP rfl (h.fT 1 rfl)) (aa (ag (v := (I6 0)) rfl) (nN (aI (fe (σ := Nat × Int) (inl ([10, 20] ++ rg 198 9)) (fun ⟨k18, i19⟩ => [(198, (I6 i19))]) (fun ⟨k18, i19⟩ w => SH w0 M BE w (hset [(1, .sr cu KZ a.args), (4, .blk b2 [(I6 d)])]) ∧ i19 = (k18 : Int) ∧ each (lF d) pR (a.args.drop k18) () = some r) (fun ⟨k18, i19⟩ => a.args.length - k18) ⟨0, 0⟩ ⟨rfl, trivial⟩ ?_ ?_)))))))
 exact ⟨h.cn _, rfl, hs⟩
 rintro ⟨k18, i19⟩ w cZ ⟨h, hik, hs⟩
 refine nG ?_
 refine aa (dm rfl rfl) (nN ?_)
 refine aK (gF rfl (fun e23 => ?_) (fun e23 => ?_))
 refine aF (aj ?_)
 obtain ⟨x20, e24a, e24b⟩ := fH (hik ▸ e23)
 rw [e24b, cz] at hs
 generalize WM : each (lF d) pR (a.args.drop (k18 + 1)) = RO at hs
 have e24r := fK ((h.fT 1 rfl)).bG hik e23
 refine aK (aI (nG ?_))
 obtain ⟨Vo, o27, UF, h, UG, i25⟩ := h.xx 1 6 rfl bP rfl (ic hik) (fJ hik e24a)
 obtain rfl := UG
 refine aa (i25 _ _ _ _ _ _ _ _ _ rfl rfl) (aa (dY (k := 0) h 6 rfl aS rfl rfl) (aa (ae (v := (I6 x20)) rfl) (nJ (aa (ag (v := (.func (.func 116) #[] #[(.pointer (some ⟨b2, 0, none⟩))])) rfl) (aa (ag (v := (I6 x20)) rfl) (jo (args := [(.bool (true)), (I6 x20), (.pointer (some ⟨b2, 0, none⟩))]) DN rfl rfl (aH (args := [(.bool (true)), (I6 x20), (.pointer (some ⟨b2, 0, none⟩))]) Tryz.func116 rfl Tryz.ntmps116 (bB rfl) (nG (aa (ae (v := (.bool (false))) rfl) (nJ (aa (ag (v := (.bool (true))) rfl) (aa (fU rfl) (aa (ag (v := (.bool (false))) rfl) (dB rfl rfl (aa (ag (v := (I6 x20)) rfl) (dB rfl rfl ?_))))))))))))))))
 refine aa (pq rfl rfl) (dB rfl rfl (aa (ag (v := (.bool (decide ((0 : Int) ≤ x20)))) rfl) (aA rfl rfl (fun q => ag (v := (I6 x20)) rfl) (aA rfl rfl (fun q => aC h 4 rfl aS rfl rfl) (aA rfl rfl (fun q => dm (bZ q) (bZ q)) (dB rfl rfl (aa (gG rfl rfl mX) (aa (fo (b := false) (v := (.bool ((decide ((0 : Int) ≤ x20) && decide ((x20 : Int) < d))))) rfl rfl) (aa (ae (v := (.bool ((decide ((0 : Int) ≤ x20) && decide ((x20 : Int) < d))))) rfl) (nR (bE (v := (.bool ((decide ((0 : Int) ≤ x20) && decide ((x20 : Int) < d))))) Tryz.results116 rfl (⟨_, rfl, ?_⟩))))))))))))
 refine aa (fU rfl) (nN (aG hs rfl (fun Zy hs => ?_) (fun Zy hs => ?_)))
 refine nG (aa (ae (v := (I6 3)) rfl) (nR (aD (ax (ax (aD (ax (bE (v := (I6 3)) Tryz.results86 rfl ?_))))))))
 obtain rfl := gM hs
 exact ⟨h.grown, rfl⟩
 refine aF (au (aj (az (aa (bU rfl rfl e24r) (aa (ag (v := (I6 ((i19 + 1)))) rfl) (aB (ak ?_)))))))
 subst WM
 exact iW ⟨k18 + 1, i19 + 1⟩ ⟨h.cn _, by omega, hs⟩ (by have := nX e23; dsimp only; omega)
 rw [fI (hik ▸ e23), fw] at hs
 refine nE (aa (ae (v := (I6 0)) rfl) (nR (bE (v := (I6 0)) Tryz.results86 rfl ?_)))
 obtain rfl := gM hs
 exact ⟨h.grown, rfl⟩
 refine nS (aa (ae (v := (I6 0)) rfl) (nR (bE (v := (I6 0)) Tryz.results86 rfl ?_)))
 obtain rfl := gM hs
 exact ⟨h.grown, rfl⟩
 refine nG (aa (ah rZ rfl) (aa (aC h 3 rfl aS rfl rfl) (aa (bH rfl rfl) (nN (aG hs rfl (fun c31 hs => ?_) (fun c31 hs => ?_))))))
 refine az (aa (ah zA rfl) (dV h 5 [(I6 a.op), (I6 0), (I6 DW), (I6 y13), (.slice none 0 0)] rfl aS rfl rfl rfl rfl rfl fun w h => aB (ak ?_)))
 exact bO 0 ⟨h.cn _, hs⟩
 refine aF (ak ?_)
 exact bO Nj ⟨h.cn _, hs⟩
 refine nG (aa (ah rZ rfl) (aa (aC h 3 rfl aS rfl rfl) (nN (aI (nG (aa (bH rfl rfl) (aa (ae (v := (.bool (decide ((a.op : Int) = 1)))) rfl) (nN (aG hs rfl (fun c32 hs => ?_) (fun c32 hs => ?_))))))))))
 refine az (aa (ah mq rfl) (aa (aC h 3 rfl aS rfl rfl) (aa (pq rfl rfl) (aa (ag (v := (.bool (decide ((-1000000000 : Int) ≤ a.b)))) rfl) (aA rfl rfl (fun q => ah mq rfl) (aA rfl rfl (fun q => aC h 3 rfl aS (bZ q) rfl) (aA rfl rfl (fun q => CY (bZ q) rfl) (aa (gG rfl rfl mX) (aa (ae (v := (.bool ((decide ((-1000000000 : Int) ≤ a.b) && decide ((a.b : Int) ≤ 1000000000))))) rfl) (aB (au (ak ?_))))))))))))
 exact bO ((decide ((-1000000000 : Int) ≤ a.b) && decide ((a.b : Int) ≤ 1000000000)), 0, a.a, a.b, 0) ⟨h.cn _, hs⟩
 refine nG (aa (bH rfl rfl) (aa (ae (v := (.bool (decide ((a.op : Int) = 5)))) rfl) (nN (aG hs rfl (fun c33 hs => ?_) (fun c33 hs => ?_)))))
 refine az (aa (ah mq rfl) (aa (aC h 3 rfl aS rfl rfl) (aa (pq rfl rfl) (aa (ag (v := (.bool (decide ((1 : Int) ≤ a.b)))) rfl) (aA rfl rfl (fun q => ah mq rfl) (aA rfl rfl (fun q => aC h 3 rfl aS (bZ q) rfl) (aA rfl rfl (fun q => CY (bZ q) rfl) (aa (gG rfl rfl mX) (aa (ae (v := (.bool ((decide ((1 : Int) ≤ a.b) && decide ((a.b : Int) ≤ 4))))) rfl) (aB (au (ak ?_))))))))))))
 exact bO ((decide ((1 : Int) ≤ a.b) && decide ((a.b : Int) ≤ 4)), 0, a.a, a.b, 0) ⟨h.cn _, hs⟩
 refine bQ (σ := Bool) (inl [91, 92, 93]) (fun x34 => [(91, (.bool (x34)))]) (fun x34 w => SH w0 M BE w (hset [(1, .sr cu KZ a.args), (2, .sr lH vc c), (3, .blk b1 [(I6 a.op), (I6 a.a), (I6 a.b), (I6 a.c), KZ]), (4, .blk b2 [(I6 d)]), (5, .blk b8 [(I6 a.op), (I6 a.a), (I6 a.b), (I6 0), (.slice none 0 0)])]) ∧ bY a b c d e x34 = some r) ?_ ?_
 rintro x34 w cZ ⟨h, hs⟩
 refine aG hs rfl (fun Us hs => ?_) (fun Us hs => ?_)
 refine LG 5 mixed (by kernel_rfl) h fun w h => dX (ag (v := (.bool ((decide ((0 : Int) ≤ a.c) && decide ((a.c : Int) < 4))))) rfl) (dX (ah uH rfl) (dX (aC h 3 rfl aS rfl rfl) (dX (ae (v := (.bool ((decide ((0 : Int) ≤ a.c) && decide ((a.c : Int) < 4))))) rfl) (dX (ah uH rfl) (Sl (dV h 5 [(I6 a.op), (I6 a.a), (I6 a.b), (I6 a.c), (.slice none 0 0)] rfl aS rfl rfl rfl rfl rfl fun w h => aB (au (ak ?_))))))))
 exact bO ((decide ((0 : Int) ≤ a.c) && decide ((a.c : Int) < 4)), 0, a.a, a.b, a.c) ⟨h.cn _, hs⟩
 refine nG (aa (bH rfl rfl) (aa (ae (v := (.bool (decide ((a.op : Int) = 3)))) rfl) (nN (aG hs rfl (fun c36 hs => ?_) (fun c36 hs => ?_)))))
 refine aK (LG 4 mixed (by kernel_rfl) h fun w h => dX (ah uH rfl) (dX (aC h 3 rfl aS rfl rfl) (dX (ae (v := (I6 1)) rfl) (dX (ah uH rfl) (Sl (dV h 5 [(I6 a.op), (I6 a.a), (I6 a.b), (I6 a.c), (.slice none 0 0)] rfl aS rfl rfl rfl rfl rfl fun w h => nN (az (aa (ah zB rfl) (aa (aC h 3 rfl qK rfl rfl) (aa (bC bP rfl (h.fT 1 rfl)) (aa (bH rfl rfl) (aa (ag (v := (.bool (decide (((a.args.length : Int) : Int) = 1)))) rfl) (mi (b := decide (((a.args.length : Int) : Int) = 1)) hs (fun c37 hs => ?_) (fun c37 hs => ?_))))))))))))))
 refine dB rfl (cB c37) (aa (ah zB rfl) (dB rfl (cB c37) (aa (aC h 3 rfl qK rfl rfl) (dB rfl (cB c37) ?_))))
 obtain ⟨x38, e39, hs⟩ := aJ hs
 obtain ⟨b41, o42, cs43, h, r44, i40⟩ := h.xx 1 7 rfl bP rfl (aU e39).1 (aU e39).2
 obtain rfl := r44
 refine aa (i40 _ _ _ _ _ _ _ _ _ rfl rfl) (dB rfl (cB c37) (aa (dY (k := 0) h 7 rfl aS rfl rfl) (dB rfl (cB c37) (aa (pq rfl rfl) (aa (fo (b := true) (v := (.bool (decide ((1 : Int) ≤ x38)))) (cB c37) rfl) (aa (ag (v := (.bool (decide ((1 : Int) ≤ x38)))) rfl) (aA rfl rfl (fun q => ah zB rfl) (aA rfl rfl (fun q => aC h 3 rfl qK (bZ q) rfl) ?_))))))))
 obtain ⟨b46, o47, cs48, h, r49, i45⟩ := h.xx 1 8 rfl bP rfl (aU e39).1 (aU e39).2
 obtain rfl := r49
 refine aA rfl rfl (fun q => i45 _ _ _ _ _ _ _ _ _ (bZ q) rfl) (aA rfl rfl (fun q => dY (k := 0) h 8 rfl aS (bZ q) rfl) (aA rfl rfl (fun q => CY (bZ q) rfl) (aa (gG rfl rfl mX) (aa (ae (v := (.bool ((decide ((1 : Int) ≤ x38) && decide ((x38 : Int) ≤ 5))))) rfl) (aB (au (ak ?_)))))))
 exact bO ((decide ((1 : Int) ≤ x38) && decide ((x38 : Int) ≤ 5)), 1, a.a, a.b, a.c) ⟨h.cn _, hs⟩
 refine uZ rfl (cB c37) rfl (uZ rfl (cB c37) rfl (uZ rfl (cB c37) rfl (uZ rfl (cB c37) rfl (uZ rfl (cB c37) rfl (aa (fo (b := false) (v := (.bool (false))) (cB c37) rfl) (aa (ag (v := (.bool (false))) rfl) (lv (b' := false) rfl rfl rfl (lv (b' := false) rfl rfl rfl (lv (b' := false) rfl rfl rfl (lv (b' := false) rfl rfl rfl (lv (b' := false) rfl rfl rfl (aa (fo (b := false) (v := (.bool (false))) rfl rfl) (aa (ae (v := (.bool (false))) rfl) (aB (au (ak ?_))))))))))))))))
 exact bO (false, 1, a.a, a.b, a.c) ⟨h.cn _, hs⟩
 refine bQ (σ := Bool) (inl [121, 122, 123]) (fun VD => [(121, (.bool (VD)))]) (fun VD w => SH w0 M BE w (hset [(1, .sr cu KZ a.args), (2, .sr lH vc c), (3, .blk b1 [(I6 a.op), (I6 a.a), (I6 a.b), (I6 a.c), KZ]), (4, .blk b2 [(I6 d)]), (5, .blk b8 [(I6 a.op), (I6 a.a), (I6 a.b), (I6 0), (.slice none 0 0)])]) ∧ bX a b c d e VD = some r) ?_ ?_
 rintro VD w cZ ⟨h, hs⟩
 refine aG hs rfl (fun c51 hs => ?_) (fun c51 hs => ?_)
 refine az (aa (ah mq rfl) (aa (aC h 3 rfl aS rfl rfl) (aa (pq rfl rfl) (aa (ag (v := (.bool (decide ((0 : Int) ≤ a.b)))) rfl) (aA rfl rfl (fun q => ah mq rfl) (aA rfl rfl (fun q => aC h 3 rfl aS (bZ q) rfl) (aA rfl rfl (fun q => ag (v := (I6 e)) rfl) (aA rfl rfl (fun q => dm (bZ q) (bZ q)) (aa (gG rfl rfl mX) (aa (ae (v := (.bool ((decide ((0 : Int) ≤ a.b) && decide ((a.b : Int) < e))))) rfl) (aB (au (ak ?_)))))))))))))
 exact bO ((decide ((0 : Int) ≤ a.b) && decide ((a.b : Int) < e)), 0, a.a, a.b, 0) ⟨h.cn _, hs⟩
 refine nG (aa (bH rfl rfl) (aa (ae (v := (.bool (decide ((a.op : Int) = 7)))) rfl) (nN (aG hs rfl (fun Ak hs => ?_) (fun Ak hs => ?_)))))
 refine aK (nG (aa (ah mq rfl) (aa (aC h 3 rfl aS rfl rfl) (aa (dm rfl rfl) (aa (ag (v := (.bool (decide ((a.b : Int) < 0)))) rfl) (aA rfl rfl (fun q => ah mq rfl) (aA rfl rfl (fun q => aC h 3 rfl aS (bZ q) rfl) (aA rfl rfl (fun q => ag (v := vc) rfl) (aA rfl rfl (fun q => bC lQ (bZ q) (h.fT 2 rfl)) (aA rfl rfl (fun q => pq (bZ q) (bZ q)) (aa (gK rfl rfl mX) (nN (aG hs rfl (fun c53 hs => ?_) (fun c53 hs => ?_))))))))))))))
 refine nG (aa (ae (v := (I6 5)) rfl) (nR (ax (aD (ax (bE (v := (I6 5)) Tryz.results86 rfl ?_))))))
 obtain rfl := gM hs
 exact ⟨h.grown, rfl⟩
 refine aF (aj (az (aa (ag (v := vc) rfl) (aa (ah mq rfl) (aa (aC h 3 rfl aS rfl rfl) ?_)))))
 obtain ⟨x54, e55, hs⟩ := aJ hs
 obtain ⟨b57, o58, WN, h, WO, i56⟩ := h.xx 2 9 rfl lQ rfl (aU e55).1 (aU e55).2
 obtain ⟨Zz, rfl, WQ⟩ := uY WO
 replace h := h.bD 10 WQ.up
 refine aa (i56 _ _ _ _ _ _ _ _ _ rfl rfl) (aa (ah Br rfl) (aa (dY (k := 0) h 9 rfl aS rfl rfl) (aa (ae (v := (I6 x54.params)) rfl) (aB (au (ak ?_))))))
 exact bO ((aY a.op).2.2.2, x54.params, a.a, a.b, 0) ⟨h.cn _, hs⟩
 refine bQ (σ := Bool) (inl [151, 152, 153, 154]) (fun Ba => [(151, (.bool (Ba)))]) (fun Ba w => SH w0 M BE w (hset [(1, .sr cu KZ a.args), (3, .blk b1 [(I6 a.op), (I6 a.a), (I6 a.b), (I6 a.c), KZ]), (4, .blk b2 [(I6 d)]), (5, .blk b8 [(I6 a.op), (I6 a.a), (I6 a.b), (I6 0), (.slice none 0 0)])]) ∧ bV a b c d Ba = some r) ?_ ?_
 rintro Ba w cZ ⟨h, hs⟩
 refine aG hs rfl (fun c64 hs => ?_) (fun c64 hs => ?_)
 refine az (aa (ah mq rfl) (dV h 5 [(I6 a.op), (I6 a.a), (I6 0), (I6 0), (.slice none 0 0)] rfl aS rfl rfl rfl rfl rfl fun w h => aB (au (ak ?_))))
 exact bO ((aY a.op).2.2.2, 0, a.a, 0, 0) ⟨h.cn _, hs⟩
 refine nG (aa (bH rfl rfl) (aa (ae (v := (.bool (decide ((a.op : Int) = 10)))) rfl) (nN (aG hs rfl (fun Wd hs => ?_) (fun Wd hs => ?_)))))
 refine az (aa (ah zA rfl) (dV h 5 [(I6 a.op), (I6 0), (I6 a.b), (I6 0), (.slice none 0 0)] rfl aS rfl rfl rfl rfl rfl fun w h => aa (ah mq rfl) (dV h 5 [(I6 a.op), (I6 0), (I6 0), (I6 0), (.slice none 0 0)] rfl aS rfl rfl rfl rfl rfl fun w h => aB (au (ak ?_)))))
 exact bO ((aY a.op).2.2.2, 0, 0, 0, 0) ⟨h.cn _, hs⟩
 refine aF (au (ak ?_))
 exact bO ((aY a.op).2.2.2, 0, a.a, a.b, 0) ⟨h.cn _, hs⟩
 refine nG (aa (bH rfl rfl) (aa (ae (v := (.bool (decide ((a.op : Int) = 8)))) rfl) (nN (aG hs rfl (fun c66 hs => ?_) (fun c66 hs => ?_)))))
 refine aF (ak ?_)
 exact bO (decide ((a.op : Int) = 8)) ⟨h.cn _, hs⟩
 refine nG (aa (bH rfl rfl) (aa (ae (v := (.bool (decide ((a.op : Int) = 9)))) rfl) (nN (aG hs rfl (fun c67 hs => ?_) (fun c67 hs => ?_)))))
 refine aF (ak ?_)
 exact bO (decide ((a.op : Int) = 9)) ⟨h.cn _, hs⟩
 refine az (aa (bH rfl rfl) (aa (ae (v := (.bool (decide ((a.op : Int) = 11)))) rfl) (aB (ak ?_))))
 exact bO (decide ((a.op : Int) = 11)) ⟨h.cn _, hs⟩
 refine nG (aa (bH rfl rfl) (aa (ae (v := (.bool (decide ((a.op : Int) = 12)))) rfl) (nN (aG hs rfl (fun Zm hs => ?_) (fun Zm hs => ?_)))))
 refine aF (ak ?_)
 exact bO (decide ((a.op : Int) = 12)) ⟨h.cn _, hs⟩
 refine az (aa (bH rfl rfl) (aa (ae (v := (.bool (decide ((a.op : Int) = 13)))) rfl) (aB (ak ?_))))
 exact bO (decide ((a.op : Int) = 13)) ⟨h.cn _, hs⟩
 refine nG (aa (bH rfl rfl) (aa (ae (v := (.bool (decide ((a.op : Int) = 4)))) rfl) (nN (aG hs rfl (fun c69 hs => ?_) (fun c69 hs => ?_)))))
 refine aF (ak ?_)
 exact bO (decide ((a.op : Int) = 4)) ⟨h.cn _, hs⟩
 refine az (aa (bH rfl rfl) (aa (ae (v := (.bool (decide ((a.op : Int) = 6)))) rfl) (aB (ak ?_))))
 exact bO (decide ((a.op : Int) = 6)) ⟨h.cn _, hs⟩
def eO (a : List bR) (wT : bR) (i35 : Int) (qf : Ins) (s : Unit) (H8 : Unit → Option Int) : Option Int :=
  (fF qf i35 a wT.regs (wT.code.length : Int)).bind fun Ab => bif decide ((Ab : Int) ≠ 0) then some Ab else H8 ()
def lU (wT : bR) (j4 : Unit → Option Int) (s : Unit) : Option Int :=
  gD (jg ((wT.code.length : Int) - 1)) ((idx wT.code ((wT.code.length : Int) - 1)).bind fun x54 => bif (decide ((x54.op : Int) ≠ 8) && decide ((x54.op : Int) ≠ 12)) then some 4 else j4 ())
def jb (a : List bR) (wT : bR) (s : Unit) (j4 : Unit → Option Int) : Option Int :=
  eU (eO a wT) (lU wT j4) 0 wT.code ()
def lV (s : Unit) : Option Int :=
  some 0
def gP (i3 : Int) (x4 : bR) (s : Unit) (Dw : Unit → Option Int) : Option Int :=
  bif (((((decide ((x4.params : Int) < 0) || decide ((3 : Int) < x4.params)) || decide ((x4.regs : Int) < 1)) || decide ((x4.regs : Int) < x4.params)) || decide ((40 : Int) < x4.regs)) || (decide ((i3 : Int) = 0) && decide ((0 : Int) < x4.params))) then some 3 else bif (decide (((x4.code.length : Int) : Int) = 0) || decide ((2000 : Int) < (x4.code.length : Int))) then some 2 else Dw ()
def ko (a : List bR) (s : Unit) : Option Int :=
  each (jb a) lV a ()
def oz (a : List bR) : Option Int :=
  bif (decide (((a.length : Int) : Int) = 0) || decide ((4 : Int) < (a.length : Int))) then some 2 else eU gP (ko a) 0 a ()
theorem BG (w0 : World) (M : BS) (hM : ∀ b, M b → b < w0.heap.size) (va : Value) (a : List bR) (ha : eY lH w0 BE M va a) (r : Int) (hs : oz a = some r) :
    Calls Tryz.prog 63 #[va] w0 (fun e w' => Grow w0 w' ∧ e = .returned (.int .i64 r)) := by
 refine aH (args := [va]) Tryz.func63 rfl Tryz.ntmps63 (bB rfl) ?_
 have h := SH.init hM
 replace h := h.dR 1 ha aT
 have tZ := ha.bG
 refine nG (aa (ae (v := (I6 0)) rfl) (nK (aa (ag (v := va) rfl) (aa (bC lQ rfl (h.fT 1 rfl)) (aa (bH rfl rfl) (aa (ag (v := (.bool (decide (((a.length : Int) : Int) = 0)))) rfl) (aA rfl rfl (fun q => ag (v := va) rfl) (aA rfl rfl (fun q => bC lQ (bZ q) (h.fT 1 rfl)) (aA rfl rfl (fun q => iV (bZ q) rfl) (aa (gK rfl rfl mX) (nN (aG hs rfl (fun c1 hs => ?_) (fun c1 hs => ?_)))))))))))))
 refine nG (aa (ae (v := (I6 2)) rfl) (nR (ax (bE (v := (I6 2)) Tryz.results63 rfl ?_))))
 obtain rfl := gM hs
 exact ⟨h.grown, rfl⟩
 refine aF (aj (aK (nG (aa (ag (v := va) rfl) (aa (bC lQ rfl (h.fT 1 rfl)) (aa (ag (v := (I6 0)) rfl) (nN (aI (fe (σ := Nat × Int) (inl ([2, 3, 4] ++ rg 21 50)) (fun ⟨k2, i3⟩ => [(21, (I6 i3))]) (fun ⟨k2, i3⟩ w => SH w0 M BE w (hset [(1, .sr lH va a)]) ∧ i3 = (k2 : Int) ∧ eU gP (ko a) i3 (a.drop k2) () = some r) (fun ⟨k2, i3⟩ => a.length - k2) ⟨0, 0⟩ ⟨rfl, trivial⟩ ?_ ?_)))))))))
 exact ⟨h.cn _, rfl, hs⟩
 rintro ⟨k2, i3⟩ w cZ ⟨h, hik, hs⟩
 refine nG ?_
 refine aa (dm rfl rfl) (nN ?_)
 refine aK (gF rfl (fun e7 => ?_) (fun e7 => ?_))
 refine aF (aj ?_)
 obtain ⟨x4, Uk, Ul⟩ := fH (hik ▸ e7)
 rw [Ul, jh] at hs
 generalize Ep : eU gP (ko a) (i3 + 1) (a.drop (k2 + 1)) = Dw at hs
 have O6 := fK ((h.fT 1 rfl)).bG hik e7
 refine aK (aI (nG (aa (ag (v := (I6 i3)) rfl) ?_)))
 obtain ⟨b10, YK, Um, h, Un, i9⟩ := h.xx 1 2 rfl lQ rfl (ic hik) (fJ hik Uk)
 obtain ⟨Gb, rfl, g15⟩ := uY Un
 replace h := h.bD 3 g15.up
 refine aa (i9 _ _ _ _ _ _ _ _ _ rfl rfl) (aa (iH (k := 0) (vs := [(I6 x4.params), (I6 x4.regs), Gb]) h 2 rfl tY rfl rfl rfl (bB rfl)) (bL h 4 tY fun w b16 h => aa (ae (v := (I6 i3)) rfl) (dS (vs := [(I6 x4.params), (I6 x4.regs), Gb]) h 4 [(I6 x4.params), (I6 x4.regs), Gb] rfl tY rfl rfl rfl rfl rfl (ai rfl (ai rfl (ai (h.fq 3 rfl).one aZ))) fun w h => nK (aa (ah Br rfl) (aa (aC h 4 rfl aS rfl rfl) (aa (dm rfl rfl) (aa (ag (v := (.bool (decide ((x4.params : Int) < 0)))) rfl) (aA rfl rfl (fun q => ah Br rfl) (aA rfl rfl (fun q => aC h 4 rfl aS (bZ q) rfl) (aA rfl rfl (fun q => iV (bZ q) rfl) (aa (gK rfl rfl mX) (aa (ag (v := (.bool ((decide ((x4.params : Int) < 0) || decide ((3 : Int) < x4.params))))) rfl) (aA rfl rfl (fun q => ah zy rfl) (aA rfl rfl (fun q => aC h 4 rfl aS (bZ q) rfl) (aA rfl rfl (fun q => dm (bZ q) rfl) (aa (gK rfl rfl mX) (aa (ag (v := (.bool (((decide ((x4.params : Int) < 0) || decide ((3 : Int) < x4.params)) || decide ((x4.regs : Int) < 1))))) rfl) ?_)))))))))))))))))
 refine aA rfl rfl (fun q => ah zy rfl) (aA rfl rfl (fun q => aC h 4 rfl aS (bZ q) rfl) (aA rfl rfl (fun q => ah Br rfl) (aA rfl rfl (fun q => aC h 4 rfl aS (bZ q) rfl) (aA rfl rfl (fun q => dm (bZ q) (bZ q)) (aa (gK rfl rfl mX) (aa (ag (v := (.bool ((((decide ((x4.params : Int) < 0) || decide ((3 : Int) < x4.params)) || decide ((x4.regs : Int) < 1)) || decide ((x4.regs : Int) < x4.params))))) rfl) (aA rfl rfl (fun q => ah zy rfl) (aA rfl rfl (fun q => aC h 4 rfl aS (bZ q) rfl) (aA rfl rfl (fun q => iV (bZ q) rfl) (aa (gK rfl rfl mX) (aa (ag (v := (.bool (((((decide ((x4.params : Int) < 0) || decide ((3 : Int) < x4.params)) || decide ((x4.regs : Int) < 1)) || decide ((x4.regs : Int) < x4.params)) || decide ((40 : Int) < x4.regs))))) rfl) (aA rfl rfl (fun q => ag (v := (I6 i3)) rfl) (aA rfl rfl (fun q => bH (bZ q) rfl) (aA rfl rfl (fun q => ag (v := (.bool (decide ((i3 : Int) = 0)))) (bZ q)) (l9 (((((decide ((x4.params : Int) < 0) || decide ((3 : Int) < x4.params)) || decide ((x4.regs : Int) < 1)) || decide ((x4.regs : Int) < x4.params)) || decide ((40 : Int) < x4.regs)) == false) rfl rfl (fun q => ah Br rfl) (l9 (((((decide ((x4.params : Int) < 0) || decide ((3 : Int) < x4.params)) || decide ((x4.regs : Int) < 1)) || decide ((x4.regs : Int) < x4.params)) || decide ((40 : Int) < x4.regs)) == false) rfl rfl (fun q => aC h 4 rfl aS (bZ q) rfl) (l9 (((((decide ((x4.params : Int) < 0) || decide ((3 : Int) < x4.params)) || decide ((x4.regs : Int) < 1)) || decide ((x4.regs : Int) < x4.params)) || decide ((40 : Int) < x4.regs)) == false) rfl rfl (fun q => iV (bZ q) rfl) (aA rfl rfl (fun q => gG (bZ q) (Ol q) mX) (aa (gK rfl rfl mX) (nN (aG hs rfl (fun c17 hs => ?_) (fun c17 hs => ?_))))))))))))))))))))))
 refine nG (aa (ae (v := (I6 3)) rfl) (nR (ax (aD (ax (ax (aD (ax (bE (v := (I6 3)) Tryz.results63 rfl ?_)))))))))
 obtain rfl := gM hs
 exact ⟨h.grown, rfl⟩
 refine nS (aa (ah uG rfl) (aa (aC h 4 rfl Bv rfl rfl) (aa (bC jF rfl (h.mY 3 rfl)) (aa (bH rfl rfl) (aa (ag (v := (.bool (decide (((x4.code.length : Int) : Int) = 0)))) rfl) (aA rfl rfl (fun q => ah uG rfl) (aA rfl rfl (fun q => aC h 4 rfl Bv (bZ q) rfl) (aA rfl rfl (fun q => bC jF (bZ q) (h.mY 3 rfl)) (aA rfl rfl (fun q => iV (bZ q) rfl) (aa (gK rfl rfl mX) (nN (aG hs rfl (fun c18 hs => ?_) (fun c18 hs => ?_)))))))))))))
 refine nG (aa (ae (v := (I6 2)) rfl) (nR (aD (ax (ax (aD (ax (bE (v := (I6 2)) Tryz.results63 rfl ?_))))))))
 obtain rfl := gM hs
 exact ⟨h.grown, rfl⟩
 refine aF (au (aj (az (aa (bU rfl rfl O6) (aa (ag (v := (I6 ((i3 + 1)))) rfl) (aB (ak ?_)))))))
 subst Ep
 exact iW ⟨k2 + 1, i3 + 1⟩ ⟨h.cn _, by omega, hs⟩ (by have := nX e7; dsimp only; omega)
 rw [fI (hik ▸ e7), oO] at hs
 refine jd (bK (bK (eF (aj (aK (nG (aa (ag (v := va) rfl) (aa (bC lQ rfl (h.fT 1 rfl)) (aa (ag (v := (I6 0)) rfl) (nN (aI (fe (σ := Nat × Int) (inl ([2, 6, 7, 8, 9, 10] ++ rg 73 41)) (fun ⟨k19, i20⟩ => [(73, (I6 i20))]) (fun ⟨k19, i20⟩ w => SH w0 M BE w (hset [(1, .sr lH va a)]) ∧ i20 = (k19 : Int) ∧ each (jb a) lV (a.drop k19) () = some r) (fun ⟨k19, i20⟩ => a.length - k19) ⟨0, 0⟩ ⟨rfl, trivial⟩ ?_ ?_))))))))))))
 exact ⟨h.cn _, rfl, hs⟩
 rintro ⟨k19, i20⟩ w cZ ⟨h, hik, hs⟩
 refine nG ?_
 refine aa (dm rfl rfl) (nN ?_)
 refine aK (gF rfl (fun e24 => ?_) (fun e24 => ?_))
 refine aF (aj ?_)
 obtain ⟨wT, e25a, e25b⟩ := fH (hik ▸ e24)
 rw [e25b, cz] at hs
 generalize PH : each (jb a) lV (a.drop (k19 + 1)) = j4 at hs
 have e25r := fK ((h.fT 1 rfl)).bG hik e24
 refine aK (aI (nG ?_))
 obtain ⟨b27, o28, cs29, h, WR, i26⟩ := h.xx 1 5 rfl lQ rfl (ic hik) (fJ hik e25a)
 obtain ⟨u31, rfl, UL⟩ := uY WR
 replace h := h.bD 6 UL.up
 refine aa (i26 _ _ _ _ _ _ _ _ _ rfl rfl) (aa (iH (k := 0) (vs := [(I6 wT.params), (I6 wT.regs), u31]) h 5 rfl tY rfl rfl rfl (bB rfl)) (bL h 7 tY fun w Vv h => dS (vs := [(I6 wT.params), (I6 wT.regs), u31]) h 7 [(I6 wT.params), (I6 wT.regs), u31] rfl tY rfl rfl rfl rfl rfl (ai rfl (ai rfl (ai (h.fq 6 rfl).one aZ))) fun w h => nK (aa (ah uG rfl) (aa (aC h 7 rfl Bv rfl rfl) (aa (bC jF rfl (h.mY 6 rfl)) (aa (ag (v := (I6 0)) rfl) (nN (aI (fe (σ := Nat × Int) (inl ([2, 7, 8, 9] ++ rg 80 18)) (fun ⟨Jt, i35⟩ => [(80, (I6 i35))]) (fun ⟨Jt, i35⟩ w => SH w0 M BE w (hset [(1, .sr lH va a), (6, .rd iJ u31 wT.code), (7, .blk Vv [(I6 wT.params), (I6 wT.regs), u31])]) ∧ i35 = (Jt : Int) ∧ eU (eO a wT) (lU wT j4) i35 (wT.code.drop Jt) () = some r) (fun ⟨Jt, i35⟩ => wT.code.length - Jt) ⟨0, 0⟩ ⟨rfl, trivial⟩ ?_ ?_)))))))))
 exact ⟨h.cn _, rfl, hs⟩
 rintro ⟨Jt, i35⟩ w cZ ⟨h, hik, hs⟩
 refine nG ?_
 refine aa (dm rfl rfl) (nN ?_)
 refine aK (gF rfl (fun e39 => ?_) (fun e39 => ?_))
 refine aF (aj ?_)
 obtain ⟨qf, PQ, PR⟩ := fH (hik ▸ e39)
 rw [PR, jh] at hs
 generalize PS : eU (eO a wT) (lU wT j4) (i35 + 1) (wT.code.drop (Jt + 1)) = H8 at hs
 have UM := fK ((h.mY 6 rfl)).bG hik e39
 refine aK (aI (nG (aa (ag (v := (I6 i35)) rfl) ?_)))
 obtain ⟨b42, o43, YF, h, YG, i41⟩ := h.FU 6 8 rfl jF rfl (ic hik) (fJ hik PQ)
 obtain ⟨u46, rfl, g47⟩ := F5 YG
 replace h := h.bD 9 g47.up
 refine aa (i41 _ _ _ _ _ _ _ _ _ rfl rfl) (aa (iH (k := 0) (vs := [(I6 qf.op), (I6 qf.a), (I6 qf.b), (I6 qf.c), u46]) h 8 rfl u6 rfl rfl rfl (bB rfl)) (bL h 10 u6 fun w b48 h => aa (ae (v := (I6 i35)) rfl) (dS (vs := [(I6 qf.op), (I6 qf.a), (I6 qf.b), (I6 qf.c), u46]) h 10 [(I6 qf.op), (I6 qf.a), (I6 qf.b), (I6 qf.c), u46] rfl u6 rfl rfl rfl rfl rfl (ai rfl (ai rfl (ai rfl (ai rfl (ai (h.fq 9 rfl).one aZ))))) fun w h => nJ (aa (fu (vs := [(I6 qf.op), (I6 qf.a), (I6 qf.b), (I6 qf.c), u46]) h 10 rfl u6 rfl rfl rfl) (aa (ag (v := (I6 i35)) rfl) (aa (ag (v := va) rfl) (aa (ah zy rfl) (aa (aC h 7 rfl aS rfl rfl) (aa (ah uG rfl) (aa (aC h 7 rfl Bv rfl rfl) (aa (bC jF rfl (h.mY 6 rfl)) ?_)))))))))))
 obtain ⟨Ab, e50, hs⟩ := aJ hs
 refine aM Ui rfl rfl (H7 _ _ h.lt qf u46 (h.mY 9 rfl) i35 va a (h.fT 1 rfl) wT.regs (wT.code.length : Int) _ e50) ?_
 rintro _ w ⟨Y6, rfl⟩
 refine ⟨_, rfl, ?_⟩
 replace h := h.grow Y6
 refine aa (ae (v := (I6 Ab)) rfl) (nJ (aa (ag (v := (I6 Ab)) rfl) (aa (iK rfl rfl) (nN (aG hs rfl (fun Ak hs => ?_) (fun Ak hs => ?_))))))
 refine nG (aa (ag (v := (I6 Ab)) rfl) (aa (ae (v := (I6 Ab)) rfl) (nR (aD (ax (ax (aD (ax (aD (ax (ax (aD (ax (bE (v := (I6 Ab)) Tryz.results63 rfl ?_))))))))))))))
 obtain rfl := gM hs
 exact ⟨h.grown, rfl⟩
 refine aF (au (aj (az (aa (bU rfl rfl UM) (aa (ag (v := (I6 ((i35 + 1)))) rfl) (aB (ak ?_)))))))
 subst PS
 exact iW ⟨Jt + 1, i35 + 1⟩ ⟨h.cn _, by omega, hs⟩ (by have := nX e39; dsimp only; omega)
 rw [fI (hik ▸ e39), oO] at hs
 refine nE (aa (ah uG rfl) (aa (aC h 7 rfl Bv rfl rfl) (aa (ah uG rfl) (aa (aC h 7 rfl Bv rfl rfl) (aa (bC jF rfl (h.mY 6 rfl)) ?_)))))
 obtain ⟨a53, hs⟩ := aW hs
 refine aa (sG rfl rfl a53) ?_
 obtain ⟨x54, e55, hs⟩ := aJ hs
 obtain ⟨b57, o58, WN, h, WO, i56⟩ := h.FU 6 11 rfl jF rfl (aU e55).1 (aU e55).2
 obtain ⟨Zz, rfl, WQ⟩ := F5 WO
 replace h := h.bD 12 WQ.up
 refine aa (i56 _ _ _ _ _ _ _ _ _ rfl rfl) (aa (ah rZ rfl) (aa (dY (k := 0) h 11 rfl aS rfl rfl) (aa (ae (v := (I6 x54.op)) rfl) (nJ (aa (ag (v := (I6 x54.op)) rfl) (aa (iK rfl rfl) (aa (ag (v := (.bool (decide ((x54.op : Int) ≠ 8)))) rfl) (aA rfl rfl (fun q => ag (v := (I6 x54.op)) rfl) (aA rfl rfl (fun q => iK (bZ q) rfl) (aa (gG rfl rfl mX) (nN (aG hs rfl (fun c63 hs => ?_) (fun c63 hs => ?_)))))))))))))
 refine nG (aa (ae (v := (I6 4)) rfl) (nR (aD (ax (ax (aD (ax (bE (v := (I6 4)) Tryz.results63 rfl ?_))))))))
 obtain rfl := gM hs
 exact ⟨h.grown, rfl⟩
 refine aF (au (aj (az (aa (bU rfl rfl e25r) (aa (ag (v := (I6 ((i20 + 1)))) rfl) (aB (ak ?_)))))))
 subst PH
 exact iW ⟨k19 + 1, i20 + 1⟩ ⟨h.cn _, by omega, hs⟩ (by have := nX e24; dsimp only; omega)
 rw [fI (hik ▸ e24), fw] at hs
 refine nE (aa (ae (v := (I6 0)) rfl) (nR (bE (v := (I6 0)) Tryz.results63 rfl ?_)))
 obtain rfl := gM hs
 exact ⟨h.grown, rfl⟩
def PT (a : List bR) : Option (LX.State × Int) :=
  (oz a).bind fun y2 => bif decide ((y2 : Int) ≠ 0) then some ((⟨[], [], 0, 0⟩ : LX.State), y2) else (idx a 0).bind fun x6 => gD (0 ≤ x6.regs ∧ x6.regs * 16 ≤ 140737488355328) (some ((⟨[(⟨0, 0, (List.replicate x6.regs.toNat (⟨0, 0⟩ : Val)), 0⟩ : LX.Frame)], [], 0, 0⟩ : LX.State), 0))
theorem PU (w0 : World) (M : BS) (hM : ∀ b, M b → b < w0.heap.size) (va : Value) (a : List bR) (ha : eY lH w0 BE M va a) (r : LX.State × Int) (hs : PT a = some r) :
    Calls Tryz.prog 29 #[va] w0 (fun e w' => Grow w0 w' ∧ ∃ wU, ∃ Aw, e = .returned (.tuple #[.agg #[wU, Aw, .int .i64 r.1.status, .int .i64 r.1.bN], .int .i64 r.2]) ∧ eB eG w' M wU r.1.frames ∧ eB (oN bM) w' M Aw r.1.cells) := by
 refine aH (args := [va]) Tryz.func29 rfl Tryz.ntmps29 (bB rfl) ?_
 have h := SH.init hM
 replace h := h.dR 1 ha aT
 have tZ := ha.bG
 refine nG (bL h 2 cO fun w b1 h => aa (ae (v := (I6 0)) rfl) (nK (aa (ag (v := va) rfl) ?_)))
 obtain ⟨y2, e3, hs⟩ := aJ hs
 refine aM OX rfl rfl (BG _ _ h.lt va a (h.fT 1 rfl) _ e3) ?_
 rintro _ w ⟨k4, rfl⟩
 refine ⟨_, rfl, ?_⟩
 replace h := h.grow k4
 refine aa (ae (v := (I6 y2)) rfl) (nJ (aa (ag (v := (I6 y2)) rfl) (aa (iK rfl rfl) (nN (aG hs rfl (fun c5 hs => ?_) (fun c5 hs => ?_))))))
 refine nG (aa (ek (pv := []) (out := [(.slice none 0 0), (.slice none 0 0), (I6 0), (I6 0)]) vg rfl rfl) (aa (ag (v := (I6 y2)) rfl) (dS (vs := [(.slice none 0 0), (.slice none 0 0), (I6 0), (I6 0)]) h 2 [(.slice none 0 0), (.slice none 0 0), (I6 0), (I6 0)] rfl cO rfl rfl rfl rfl rfl (ai rfl (ai rfl (ai rfl (ai rfl aZ)))) fun w h => aa (ae (v := (I6 y2)) rfl) (nR (ax (Ag (vs := [(.slice none 0 0), (.slice none 0 0), (I6 0), (I6 0)]) (v2 := (I6 y2)) Tryz.results29 rfl rfl h 2 rfl cO rfl ?_))))))
 obtain rfl := gM hs
 exact ⟨h.grown, _, _, rfl, eY.nil, eY.nil⟩
 refine nS (aa (ag (v := va) rfl) ?_)
 obtain ⟨x6, e7, hs⟩ := aJ hs
 obtain ⟨b9, o10, Y0, h, Y1, i8⟩ := h.xx 1 3 rfl lQ rfl (aU e7).1 (aU e7).2
 obtain ⟨O7, rfl, g14⟩ := uY Y1
 replace h := h.bD 4 g14.up
 refine aa (i8 _ _ _ _ _ _ _ _ _ rfl rfl) (aa (ah zy rfl) (aa (dY (k := 1) h 3 rfl aS rfl rfl) ?_))
 obtain ⟨a16, hs⟩ := aW hs
 refine MK (R := bM) (zs := [(I6 0), (I6 0)]) (a := (⟨0, 0⟩ : Val)) h 5 wE ik rfl (by decide) rfl rfl a16 rfl (fun _ _ => rfl) fun w A8 h u15k u15f => aa (ek (pv := [(2, A8)]) (out := [(I6 0), (I6 0), A8, (I6 0)]) I9 rfl ⟨2, 1, [A8], rfl, (nA (h.fD 5 rfl).one), rfl, bB rfl, rfl⟩) ?_
 replace h := h.freeze 5 rfl
 refine pK (R := eG) (vs := [(.agg #[(I6 0), (I6 0), A8, (I6 0)])]) (xs := [(⟨0, 0, (List.replicate x6.regs.toNat (⟨0, 0⟩ : Val)), 0⟩ : LX.Frame)]) h 6 yI rfl rfl rfl ⟨⟨_, rfl, (h.fq 5 rfl)⟩, trivial⟩ rfl fun w Dx h => aa (ek (pv := [(0, Dx)]) (out := [Dx, (.slice none 0 0), (I6 0), (I6 0)]) vg rfl ⟨0, 1, [Dx], rfl, (nA (h.fD 6 rfl).one), rfl, bB rfl, rfl⟩) (dS (vs := [Dx, (.slice none 0 0), (I6 0), (I6 0)]) h 2 [Dx, (.slice none 0 0), (I6 0), (I6 0)] rfl cO rfl rfl rfl rfl rfl (ai (h.fD 6 rfl).one (ai rfl (ai rfl (ai rfl aZ)))) fun w h => aa (ae (v := (I6 0)) rfl) (nR (Ag (vs := [Dx, (.slice none 0 0), (I6 0), (I6 0)]) (v2 := (I6 0)) Tryz.results29 rfl rfl h 2 rfl cO rfl ?_)))
 replace h := h.freeze 6 rfl
 obtain rfl := gM hs
 exact ⟨h.grown, _, _, rfl, h.Om 6 rfl, eY.nil⟩
def bJ (a : Val) (b : Int) : Int :=
  bif decide ((a.kind : Int) = 0) then bif decide ((a.n : Int) ≠ 0) then 4 else 0 else bif decide ((a.kind : Int) = 1) then bif (decide ((a.n : Int) < -1000000000) || decide ((1000000000 : Int) < a.n)) then 3 else 0 else bif decide ((a.kind : Int) = 2) then bif (decide ((a.n : Int) < 0) || decide ((b : Int) ≤ a.n)) then 5 else 0 else 4
theorem xQ (w0 : World) (M : BS) (hM : ∀ b, M b → b < w0.heap.size) (a : Val) (b : Int) (r : Int) (hs : bJ a b = r) :
    Calls Tryz.prog 81 #[(.agg #[(I6 a.kind), (I6 a.n)]), (I6 b)] w0 (fun e w' => Grow w0 w' ∧ e = .returned (.int .i64 r)) := by
 refine aH (args := [(.agg #[(I6 a.kind), (I6 a.n)]), (I6 b)]) Tryz.func81 rfl Tryz.ntmps81 (bB rfl) ?_
 have h := SH.init hM
 refine nG (ql (cs := [(I6 a.kind), (I6 a.n)]) h 1 rfl rfl fun w b1 h => aa (ae (v := (I6 0)) rfl) (nK (aa (ah Bq rfl) (aa (aC h 1 rfl aS rfl rfl) (nN (aI (nG (aa (bH rfl rfl) (aa (ae (v := (.bool (decide ((a.kind : Int) = 0)))) rfl) (nN (aG hs rfl (fun c2 hs => ?_) (fun c2 hs => ?_))))))))))))
 refine nG (aa (ah nU rfl) (aa (aC h 1 rfl aS rfl rfl) (aa (iK rfl rfl) (nN (aG hs rfl (fun c3 hs => ?_) (fun c3 hs => ?_))))))
 refine nG (aa (ae (v := (I6 4)) rfl) (nR (aD (ax (bE (v := (I6 4)) Tryz.results81 rfl ?_)))))
 obtain rfl := hs
 exact ⟨h.grown, rfl⟩
 refine aF (au (aj (nG (aa (ae (v := (I6 0)) rfl) (nR (bE (v := (I6 0)) Tryz.results81 rfl ?_))))))
 obtain rfl := hs
 exact ⟨h.grown, rfl⟩
 refine nG (aa (bH rfl rfl) (aa (ae (v := (.bool (decide ((a.kind : Int) = 1)))) rfl) (nN (aG hs rfl (fun c4 hs => ?_) (fun c4 hs => ?_)))))
 refine nG (aa (ah nU rfl) (aa (aC h 1 rfl aS rfl rfl) (aa (dm rfl rfl) (aa (ag (v := (.bool (decide ((a.n : Int) < -1000000000)))) rfl) (aA rfl rfl (fun q => ah nU rfl) (aA rfl rfl (fun q => aC h 1 rfl aS (bZ q) rfl) (aA rfl rfl (fun q => iV (bZ q) rfl) (aa (gK rfl rfl mX) (nN (aG hs rfl (fun c5 hs => ?_) (fun c5 hs => ?_)))))))))))
 refine nG (aa (ae (v := (I6 3)) rfl) (nR (aD (ax (bE (v := (I6 3)) Tryz.results81 rfl ?_)))))
 obtain rfl := hs
 exact ⟨h.grown, rfl⟩
 refine aF (au (aj (nG (aa (ae (v := (I6 0)) rfl) (nR (bE (v := (I6 0)) Tryz.results81 rfl ?_))))))
 obtain rfl := hs
 exact ⟨h.grown, rfl⟩
 refine nG (aa (bH rfl rfl) (aa (ae (v := (.bool (decide ((a.kind : Int) = 2)))) rfl) (nN (aG hs rfl (fun c6 hs => ?_) (fun c6 hs => ?_)))))
 refine nG (aa (ah nU rfl) (aa (aC h 1 rfl aS rfl rfl) (aa (dm rfl rfl) (aa (ag (v := (.bool (decide ((a.n : Int) < 0)))) rfl) (aA rfl rfl (fun q => ah nU rfl) (aA rfl rfl (fun q => aC h 1 rfl aS (bZ q) rfl) (aA rfl rfl (fun q => ag (v := (I6 b)) rfl) (aA rfl rfl (fun q => pq (bZ q) (bZ q)) (aa (gK rfl rfl mX) (nN (aG hs rfl (fun c7 hs => ?_) (fun c7 hs => ?_))))))))))))
 refine nG (aa (ae (v := (I6 5)) rfl) (nR (aD (ax (bE (v := (I6 5)) Tryz.results81 rfl ?_)))))
 obtain rfl := hs
 exact ⟨h.grown, rfl⟩
 refine aF (au (aj (nG (aa (ae (v := (I6 0)) rfl) (nR (bE (v := (I6 0)) Tryz.results81 rfl ?_))))))
 obtain rfl := hs
 exact ⟨h.grown, rfl⟩
 refine nG (aa (ae (v := (I6 4)) rfl) (nR (aD (ax (bE (v := (I6 4)) Tryz.results81 rfl ?_)))))
 obtain rfl := hs
 exact ⟨h.grown, rfl⟩
def fO (a : List (List Val)) (yx : Val) (s : Unit) (O4 : Unit → Int) : Int :=
  bif decide (((bJ yx (a.length : Int)) : Int) ≠ 0) then (bJ yx (a.length : Int)) else O4 ()
def eX (Dw : Unit → Int) (s : Unit) : Int :=
  Dw ()
def gL (a : List (List Val)) (x4 : List Val) (s : Unit) (Dw : Unit → Int) : Int :=
  bif (decide (((x4.length : Int) : Int) = 0) || decide ((4 : Int) < (x4.length : Int))) then 2 else each (fO a) (eX Dw) x4 ()
def fP (s : Unit) : Int :=
  0
def bW (a : List (List Val)) : Int :=
  bif decide ((24 : Int) < (a.length : Int)) then 2 else each (gL a) fP a ()
theorem yj (w0 : World) (M : BS) (hM : ∀ b, M b → b < w0.heap.size) (va : Value) (a : List (List Val)) (ha : eY (oN bM) w0 BE M va a) (r : Int) (hs : bW a = r) :
    Calls Tryz.prog 80 #[va] w0 (fun e w' => Grow w0 w' ∧ e = .returned (.int .i64 r)) := by
 refine aH (args := [va]) Tryz.func80 rfl Tryz.ntmps80 (bB rfl) ?_
 have h := SH.init hM
 replace h := h.dR 1 ha aT
 have tZ := ha.bG
 refine nG (aa (ae (v := (I6 0)) rfl) (nK (aa (ag (v := va) rfl) (aa (bC eZ rfl (h.fT 1 rfl)) (aa (iV rfl rfl) (nN (aG hs rfl (fun c1 hs => ?_) (fun c1 hs => ?_))))))))
 refine nG (aa (ae (v := (I6 2)) rfl) (nR (ax (bE (v := (I6 2)) Tryz.results80 rfl ?_))))
 obtain rfl := hs
 exact ⟨h.grown, rfl⟩
 refine aF (aj (aK (nG (aa (ag (v := va) rfl) (aa (bC eZ rfl (h.fT 1 rfl)) (aa (ag (v := (I6 0)) rfl) (nN (aI (fe (σ := Nat × Int) (inl ([2, 4, 6, 7] ++ rg 13 27)) (fun ⟨k2, i3⟩ => [(13, (I6 i3))]) (fun ⟨k2, i3⟩ w => SH w0 M BE w (hset [(1, .sr (oN bM) va a)]) ∧ i3 = (k2 : Int) ∧ each (gL a) fP (a.drop k2) () = r) (fun ⟨k2, i3⟩ => a.length - k2) ⟨0, 0⟩ ⟨rfl, trivial⟩ ?_ ?_)))))))))
 exact ⟨h.cn _, rfl, hs⟩
 rintro ⟨k2, i3⟩ w cZ ⟨h, hik, hs⟩
 refine nG ?_
 refine aa (dm rfl rfl) (nN ?_)
 refine aK (gF rfl (fun e7 => ?_) (fun e7 => ?_))
 refine aF (aj ?_)
 obtain ⟨x4, Uk, Ul⟩ := fH (hik ▸ e7)
 rw [Ul, cz] at hs
 generalize Ep : each (gL a) fP (a.drop (k2 + 1)) = Dw at hs
 have O6 := fK ((h.fT 1 rfl)).bG hik e7
 refine aK (aI (nG ?_))
 obtain ⟨b10, YK, Um, h, Un, i9⟩ := h.xx 1 2 rfl eZ rfl (ic hik) (fJ hik Uk)
 obtain ⟨Gb, rfl, g15⟩ := Un
 replace h := h.bD 3 g15.up
 refine aa (i9 _ _ _ _ _ _ _ _ _ rfl rfl) (aa (dY (k := 0) h 2 rfl pM rfl rfl) (aa (ae (v := Gb) rfl) (nK (aa (ag (v := Gb) rfl) (aa (bC dz rfl (h.mY 3 rfl)) (aa (bH rfl rfl) (aa (ag (v := (.bool (decide (((x4.length : Int) : Int) = 0)))) rfl) (aA rfl rfl (fun q => ag (v := Gb) rfl) (aA rfl rfl (fun q => bC dz (bZ q) (h.mY 3 rfl)) (aA rfl rfl (fun q => iV (bZ q) rfl) (aa (gK rfl rfl mX) (nN (aG hs rfl (fun c16 hs => ?_) (fun c16 hs => ?_))))))))))))))
 refine nG (aa (ae (v := (I6 2)) rfl) (nR (ax (aD (ax (ax (aD (ax (bE (v := (I6 2)) Tryz.results80 rfl ?_)))))))))
 obtain rfl := hs
 exact ⟨h.grown, rfl⟩
 refine nS (aa (ag (v := Gb) rfl) (aa (bC dz rfl (h.mY 3 rfl)) (aa (ag (v := (I6 0)) rfl) (nN (aI (fe (σ := Nat × Int) (inl ([2, 6, 7] ++ rg 27 12)) (fun ⟨k17, i18⟩ => [(27, (I6 i18))]) (fun ⟨k17, i18⟩ w => SH w0 M BE w (hset [(1, .sr (oN bM) va a), (3, .rd bM Gb x4)]) ∧ i18 = (k17 : Int) ∧ each (fO a) (eX Dw) (x4.drop k17) () = r) (fun ⟨k17, i18⟩ => x4.length - k17) ⟨0, 0⟩ ⟨rfl, trivial⟩ ?_ ?_))))))
 exact ⟨h.cn _, rfl, hs⟩
 rintro ⟨k17, i18⟩ w cZ ⟨h, hik, hs⟩
 refine nG ?_
 refine aa (dm rfl rfl) (nN ?_)
 refine aK (gF rfl (fun e22 => ?_) (fun e22 => ?_))
 refine aF (aj ?_)
 obtain ⟨yx, UN, UO⟩ := fH (hik ▸ e22)
 rw [UO, cz] at hs
 generalize O5 : each (fO a) (eX Dw) (x4.drop (k17 + 1)) = O4 at hs
 have e23r := fK ((h.mY 3 rfl)).bG hik e22
 refine aK (aI (nG ?_))
 obtain ⟨b25, o26, cs27, h, r28, i24⟩ := h.FU 3 4 rfl dz rfl (ic hik) (fJ hik UN)
 obtain rfl := r28
 refine aa (i24 _ _ _ _ _ _ _ _ _ rfl rfl) (aa (iH (k := 0) (vs := [(I6 yx.kind), (I6 yx.n)]) h 4 rfl ik rfl rfl rfl (bB rfl)) (bL h 5 ik fun w Yb h => dS (vs := [(I6 yx.kind), (I6 yx.n)]) h 5 [(I6 yx.kind), (I6 yx.n)] rfl ik rfl rfl rfl rfl rfl (ai rfl (ai rfl aZ)) fun w h => nJ (aa (fu (vs := [(I6 yx.kind), (I6 yx.n)]) h 5 rfl ik rfl rfl rfl) (aa (ag (v := va) rfl) (aa (bC eZ rfl (h.fT 1 rfl)) (aM Kr rfl rfl (xQ _ _ h.lt yx (a.length : Int) _ rfl) ?_))))))
 rintro _ w ⟨Wh, rfl⟩
 refine ⟨_, rfl, ?_⟩
 replace h := h.grow Wh
 refine aa (ae (v := (I6 ((bJ yx (a.length : Int))))) rfl) (nJ (aa (ag (v := (I6 ((bJ yx (a.length : Int))))) rfl) (aa (iK rfl rfl) (nN (aG hs rfl (fun c31 hs => ?_) (fun c31 hs => ?_))))))
 refine nG (aa (ag (v := (I6 ((bJ yx (a.length : Int))))) rfl) (aa (ae (v := (I6 ((bJ yx (a.length : Int))))) rfl) (nR (aD (ax (ax (aD (aD (ax (ax (aD (ax (bE (v := (I6 ((bJ yx (a.length : Int))))) Tryz.results80 rfl ?_)))))))))))))
 obtain rfl := hs
 exact ⟨h.grown, rfl⟩
 refine aF (au (aj (az (aa (bU rfl rfl e23r) (aa (ag (v := (I6 ((i18 + 1)))) rfl) (aB (ak ?_)))))))
 subst O5
 exact iW ⟨k17 + 1, i18 + 1⟩ ⟨h.cn _, by omega, hs⟩ (by have := nX e22; dsimp only; omega)
 rw [fI (hik ▸ e22), fw] at hs
 refine jd (bK (bK (eF (au (aj (az (aa (bU rfl rfl O6) (aa (ag (v := (I6 ((i3 + 1)))) rfl) (aB (ak ?_))))))))))
 subst Ep
 exact iW ⟨k2 + 1, i3 + 1⟩ ⟨h.cn _, by omega, hs⟩ (by have := nX e7; dsimp only; omega)
 rw [fI (hik ▸ e7), fw] at hs
 refine nE (aa (ae (v := (I6 0)) rfl) (nR (bE (v := (I6 0)) Tryz.results80 rfl ?_)))
 obtain rfl := hs
 exact ⟨h.grown, rfl⟩
def lh (b : LX.State) (x38 : Val) (s : Unit) (PM : Unit → Option Int) : Option Int :=
  bif decide (((bJ x38 (b.cells.length : Int)) : Int) ≠ 0) then some (bJ x38 (b.cells.length : Int)) else PM ()
def ll (EC : Unit → Option Int) (s : Unit) : Option Int :=
  EC ()
def oW (x9 : LX.Frame) (rM : bR) (b : LX.State) (EC : Unit → Option Int) (A7 : Bool) : Option Int :=
  bif A7 then some 3 else bif decide (((x9.regs.length : Int) : Int) ≠ rM.regs) then some 4 else each (lh b) (ll EC) x9.regs ()
def oZ (a : List bR) (b : LX.State) (i8 : Int) (x9 : LX.Frame) (s : Unit) (EC : Unit → Option Int) : Option Int :=
  bif (decide ((x9.proc : Int) < 0) || decide (((a.length : Int) : Int) ≤ x9.proc)) then some 5 else (idx a x9.proc).bind fun rM => bif (((decide ((x9.at_ : Int) < 0) || decide (((rM.code.length : Int) : Int) ≤ x9.at_)) || decide ((x9.kL : Int) < 0)) || (decide ((i8 : Int) = 0) && decide ((x9.kL : Int) ≠ 0))) then oW x9 rM b EC true else bif decide ((0 : Int) < i8) then gD (jg (i8 - 1)) ((idx b.frames (i8 - 1)).bind fun x54 => oW x9 rM b EC (decide (((x54.regs.length : Int) : Int) ≤ x9.kL))) else oW x9 rM b EC false
def q8 (s : Unit) : Option Int :=
  some 0
def vo (a : List bR) (b : LX.State) : Option Int :=
  bif (((decide ((b.status : Int) < 0) || decide ((3 : Int) < b.status)) || decide ((b.bN : Int) < -1000000000)) || decide ((1000000000 : Int) < b.bN)) then some 3 else bif ((decide ((b.status : Int) ≠ 3) && decide ((b.bN : Int) ≠ 0)) || (decide ((b.status : Int) = 1) != decide (((b.frames.length : Int) : Int) = 0))) then some 4 else bif decide ((10 : Int) < (b.frames.length : Int)) then some 2 else bif decide (((bW b.cells) : Int) ≠ 0) then some (bW b.cells) else eU (oZ a b) q8 0 b.frames ()
theorem K3 (w0 : World) (M : BS) (hM : ∀ b, M b → b < w0.heap.size) (va : Value) (a : List bR) (ha : eY lH w0 BE M va a) (b : LX.State) (vb0 vb1 : Value) (hb0 : eY eG w0 BE M vb0 b.frames) (hb1 : eY (oN bM) w0 BE M vb1 b.cells) (r : Int) (hs : vo a b = some r) :
    Calls Tryz.prog 64 #[va, (.agg #[vb0, vb1, (I6 b.status), (I6 b.bN)])] w0 (fun e w' => Grow w0 w' ∧ e = .returned (.int .i64 r)) := by
 refine aH (args := [va, (.agg #[vb0, vb1, (I6 b.status), (I6 b.bN)])]) Tryz.func64 rfl Tryz.ntmps64 (bB rfl) ?_
 have h := SH.init hM
 replace h := h.dR 1 ha aT
 replace h := h.dR 2 hb0 (bA aT)
 replace h := h.dR 3 hb1 (bA (bA aT))
 have tZ := ha.bG
 refine nG (ql (cs := [vb0, vb1, (I6 b.status), (I6 b.bN)]) h 4 rfl rfl fun w b1 h => aa (ae (v := (I6 0)) rfl) (nK (aa (ah vN rfl) (aa (aC h 4 rfl aS rfl rfl) (aa (dm rfl rfl) (aa (ag (v := (.bool (decide ((b.status : Int) < 0)))) rfl) (aA rfl rfl (fun q => ah vN rfl) (aA rfl rfl (fun q => aC h 4 rfl aS (bZ q) rfl) (aA rfl rfl (fun q => iV (bZ q) rfl) (aa (gK rfl rfl mX) (aa (ag (v := (.bool ((decide ((b.status : Int) < 0) || decide ((3 : Int) < b.status))))) rfl) (aA rfl rfl (fun q => ah xE rfl) (aA rfl rfl (fun q => aC h 4 rfl aS (bZ q) rfl) (aA rfl rfl (fun q => dm (bZ q) rfl) (aa (gK rfl rfl mX) (aa (ag (v := (.bool (((decide ((b.status : Int) < 0) || decide ((3 : Int) < b.status)) || decide ((b.bN : Int) < -1000000000))))) rfl) (aA rfl rfl (fun q => ah xE rfl) ?_)))))))))))))))))
 refine aA rfl rfl (fun q => aC h 4 rfl aS (bZ q) rfl) (aA rfl rfl (fun q => iV (bZ q) rfl) (aa (gK rfl rfl mX) (nN (aG hs rfl (fun c2 hs => ?_) (fun c2 hs => ?_)))))
 refine nG (aa (ae (v := (I6 3)) rfl) (nR (ax (bE (v := (I6 3)) Tryz.results64 rfl ?_))))
 obtain rfl := gM hs
 exact ⟨h.grown, rfl⟩
 refine aF (aj (aK (nG (aa (ah vN rfl) (aa (aC h 4 rfl aS rfl rfl) (aa (iK rfl rfl) (aa (ag (v := (.bool (decide ((b.status : Int) ≠ 3)))) rfl) (aA rfl rfl (fun q => ah xE rfl) (aA rfl rfl (fun q => aC h 4 rfl aS (bZ q) rfl) (aA rfl rfl (fun q => iK (bZ q) rfl) (aa (gG rfl rfl mX) (aa (ag (v := (.bool ((decide ((b.status : Int) ≠ 3) && decide ((b.bN : Int) ≠ 0))))) rfl) (aA rfl rfl (fun q => ah vN rfl) (aA rfl rfl (fun q => aC h 4 rfl aS (bZ q) rfl) (aA rfl rfl (fun q => bH (bZ q) rfl) (aA rfl rfl (fun q => ah kG rfl) (aA rfl rfl (fun q => aC h 4 rfl qJ (bZ q) rfl) (aA rfl rfl (fun q => bC fB (bZ q) (h.fT 2 rfl)) (aA rfl rfl (fun q => bH (bZ q) rfl) (aA rfl rfl (fun q => Tp Tryz.underlying4 (bZ q) (bZ q)) (aa (gK rfl rfl mX) (aB ?_))))))))))))))))))))))
 refine aj (aG hs rfl (fun c3 hs => ?_) (fun c3 hs => ?_))
 refine nG (aa (ae (v := (I6 4)) rfl) (nR (ax (bE (v := (I6 4)) Tryz.results64 rfl ?_))))
 obtain rfl := gM hs
 exact ⟨h.grown, rfl⟩
 refine aF (aj (aK (nG (aa (ah kG rfl) (aa (aC h 4 rfl qJ rfl rfl) (aa (bC fB rfl (h.fT 2 rfl)) (aa (iV rfl rfl) (nN (aG hs rfl (fun c4 hs => ?_) (fun c4 hs => ?_))))))))))
 refine nG (aa (ae (v := (I6 2)) rfl) (nR (ax (bE (v := (I6 2)) Tryz.results64 rfl ?_))))
 obtain rfl := gM hs
 exact ⟨h.grown, rfl⟩
 refine aF (aj (aK (nG (aa (ah kH rfl) (aa (aC h 4 rfl oh rfl rfl) (aM OY rfl rfl (yj _ _ h.lt vb1 b.cells (h.fT 3 rfl) _ rfl) ?_))))))
 rintro _ w ⟨k5, rfl⟩
 refine ⟨_, rfl, ?_⟩
 replace h := h.grow k5
 refine aa (ae (v := (I6 ((bW b.cells)))) rfl) (nJ (aa (ag (v := (I6 ((bW b.cells)))) rfl) (aa (iK rfl rfl) (nN (aG hs rfl (fun c6 hs => ?_) (fun c6 hs => ?_))))))
 refine nG (aa (ag (v := (I6 ((bW b.cells)))) rfl) (aa (ae (v := (I6 ((bW b.cells)))) rfl) (nR (ax (bE (v := (I6 ((bW b.cells)))) Tryz.results64 rfl ?_)))))
 obtain rfl := gM hs
 exact ⟨h.grown, rfl⟩
 refine aF (aj (aK (nG (aa (ah kG rfl) (aa (aC h 4 rfl qJ rfl rfl) (aa (bC fB rfl (h.fT 2 rfl)) (aa (ag (v := (I6 0)) rfl) (nN (aI (fe (σ := Nat × Int) (inl ([4, 6, 7, 8, 10, 11] ++ rg 61 85)) (fun ⟨k7, i8⟩ => [(61, (I6 i8))]) (fun ⟨k7, i8⟩ w => SH w0 M BE w (hset [(1, .sr lH va a), (2, .sr eG vb0 b.frames), (3, .sr (oN bM) vb1 b.cells), (4, .blk b1 [vb0, vb1, (I6 b.status), (I6 b.bN)])]) ∧ i8 = (k7 : Int) ∧ eU (oZ a b) q8 i8 (b.frames.drop k7) () = some r) (fun ⟨k7, i8⟩ => b.frames.length - k7) ⟨0, 0⟩ ⟨rfl, trivial⟩ ?_ ?_))))))))))
 exact ⟨h.cn _, rfl, hs⟩
 rintro ⟨k7, i8⟩ w cZ ⟨h, hik, hs⟩
 refine nG ?_
 refine aa (dm rfl rfl) (nN ?_)
 refine aK (gF rfl (fun e12 => ?_) (fun e12 => ?_))
 refine aF (aj ?_)
 obtain ⟨x9, UQ, UR⟩ := fH (hik ▸ e12)
 rw [UR, jh] at hs
 generalize WS : eU (oZ a b) q8 (i8 + 1) (b.frames.drop (k7 + 1)) = EC at hs
 have e13r := fK ((h.fT 2 rfl)).bG hik e12
 refine aK (aI (nG (aa (ag (v := (I6 i8)) rfl) ?_)))
 obtain ⟨b15, o16, cs17, h, r18, i14⟩ := h.xx 2 5 rfl fB rfl (ic hik) (fJ hik UQ)
 obtain ⟨Jb, rfl, g20⟩ := sN r18
 replace h := h.bD 6 g20.up
 refine aa (i14 _ _ _ _ _ _ _ _ _ rfl rfl) (aa (iH (k := 0) (vs := [(I6 x9.proc), (I6 x9.at_), Jb, (I6 x9.kL)]) h 5 rfl ja rfl rfl rfl (bB rfl)) (bL h 7 ja fun w FE h => aa (ae (v := (I6 i8)) rfl) (dS (vs := [(I6 x9.proc), (I6 x9.at_), Jb, (I6 x9.kL)]) h 7 [(I6 x9.proc), (I6 x9.at_), Jb, (I6 x9.kL)] rfl ja rfl rfl rfl rfl rfl (ai rfl (ai rfl (ai (h.fq 6 rfl).one (ai rfl aZ)))) fun w h => nK (aa (ah xG rfl) (aa (aC h 7 rfl aS rfl rfl) (aa (dm rfl rfl) (aa (ag (v := (.bool (decide ((x9.proc : Int) < 0)))) rfl) (aA rfl rfl (fun q => ah xG rfl) (aA rfl rfl (fun q => aC h 7 rfl aS (bZ q) rfl) (aA rfl rfl (fun q => ag (v := va) rfl) (aA rfl rfl (fun q => bC lQ (bZ q) (h.fT 1 rfl)) (aA rfl rfl (fun q => pq (bZ q) (bZ q)) (aa (gK rfl rfl mX) (nN (aG hs rfl (fun c22 hs => ?_) (fun c22 hs => ?_))))))))))))))))
 refine nG (aa (ae (v := (I6 5)) rfl) (nR (ax (aD (ax (ax (aD (ax (bE (v := (I6 5)) Tryz.results64 rfl ?_)))))))))
 obtain rfl := gM hs
 exact ⟨h.grown, rfl⟩
 refine nS (aa (ag (v := va) rfl) (aa (ah xG rfl) (aa (aC h 7 rfl aS rfl rfl) ?_)))
 obtain ⟨rM, e24, hs⟩ := aJ hs
 obtain ⟨Vo, o27, UF, h, UG, i25⟩ := h.xx 1 8 rfl lQ rfl (aU e24).1 (aU e24).2
 obtain ⟨u30, rfl, g31⟩ := uY UG
 replace h := h.bD 9 g31.up
 refine aa (i25 _ _ _ _ _ _ _ _ _ rfl rfl) (aa (iH (k := 0) (vs := [(I6 rM.params), (I6 rM.regs), u30]) h 8 rfl tY rfl rfl rfl (bB rfl)) (bL h 10 tY fun w b32 h => dS (vs := [(I6 rM.params), (I6 rM.regs), u30]) h 10 [(I6 rM.params), (I6 rM.regs), u30] rfl tY rfl rfl rfl rfl rfl (ai rfl (ai rfl (ai (h.fq 9 rfl).one aZ))) fun w h => nN (aK (bQ (σ := Bool) (inl (rg 81 42)) (fun A7 => [(98, (gv (((decide ((x9.at_ : Int) < 0) || decide (((rM.code.length : Int) : Int) ≤ x9.at_)) || decide ((x9.kL : Int) < 0)) == false) (I6 i8))), (100, (gv (((decide ((x9.at_ : Int) < 0) || decide (((rM.code.length : Int) : Int) ≤ x9.at_)) || decide ((x9.kL : Int) < 0)) == false) (.bool (decide ((i8 : Int) = 0))))), (122, (.bool (A7)))]) (fun A7 w => SH w0 M BE w (hset [(1, .sr lH va a), (2, .sr eG vb0 b.frames), (3, .sr (oN bM) vb1 b.cells), (4, .blk b1 [vb0, vb1, (I6 b.status), (I6 b.bN)]), (6, .rd bM Jb x9.regs), (7, .blk FE [(I6 x9.proc), (I6 x9.at_), Jb, (I6 x9.kL)]), (9, .rd iJ u30 rM.code), (10, .blk b32 [(I6 rM.params), (I6 rM.regs), u30])]) ∧ oW x9 rM b EC A7 = some r) ?_ ?_))))
 rintro A7 w cZ ⟨h, hs⟩
 refine aG hs rfl (fun c34 hs => ?_) (fun c34 hs => ?_)
 refine nG (aa (ae (v := (I6 3)) rfl) (nR (ax (aD (ax (ax (aD (ax (bE (v := (I6 3)) Tryz.results64 rfl ?_)))))))))
 obtain rfl := gM hs
 exact ⟨h.grown, rfl⟩
 refine aF (aj (aK (nG (aa (ah p9 rfl) (aa (aC h 7 rfl pM rfl rfl) (aa (bC dz rfl (h.mY 6 rfl)) (aa (ah zy rfl) (aa (aC h 10 rfl aS rfl rfl) (aa (iK rfl rfl) (nN (aG hs rfl (fun Us hs => ?_) (fun Us hs => ?_))))))))))))
 refine nG (aa (ae (v := (I6 4)) rfl) (nR (ax (aD (ax (ax (aD (ax (bE (v := (I6 4)) Tryz.results64 rfl ?_)))))))))
 obtain rfl := gM hs
 exact ⟨h.grown, rfl⟩
 refine nS (aa (ah p9 rfl) (aa (aC h 7 rfl pM rfl rfl) (aa (bC dz rfl (h.mY 6 rfl)) (aa (ag (v := (I6 0)) rfl) (nN (aI (fe (σ := Nat × Int) (inl ([4, 10, 11] ++ rg 132 13)) (fun ⟨SK, i37⟩ => [(132, (I6 i37))]) (fun ⟨SK, i37⟩ w => SH w0 M BE w (hset [(1, .sr lH va a), (2, .sr eG vb0 b.frames), (3, .sr (oN bM) vb1 b.cells), (4, .blk b1 [vb0, vb1, (I6 b.status), (I6 b.bN)]), (6, .rd bM Jb x9.regs)]) ∧ i37 = (SK : Int) ∧ each (lh b) (ll EC) (x9.regs.drop SK) () = some r) (fun ⟨SK, i37⟩ => x9.regs.length - SK) ⟨0, 0⟩ ⟨rfl, trivial⟩ ?_ ?_)))))))
 exact ⟨h.cn _, rfl, hs⟩
 rintro ⟨SK, i37⟩ w cZ ⟨h, hik, hs⟩
 refine nG ?_
 refine aa (dm rfl rfl) (nN ?_)
 refine aK (gF rfl (fun e41 => ?_) (fun e41 => ?_))
 refine aF (aj ?_)
 obtain ⟨x38, e42a, e42b⟩ := fH (hik ▸ e41)
 rw [e42b, cz] at hs
 generalize PN : each (lh b) (ll EC) (x9.regs.drop (SK + 1)) = PM at hs
 have e42r := fK ((h.mY 6 rfl)).bG hik e41
 refine aK (aI (nG ?_))
 obtain ⟨QS, o45, cs46, h, r47, i43⟩ := h.FU 6 11 rfl dz rfl (ic hik) (fJ hik e42a)
 obtain rfl := r47
 refine aa (i43 _ _ _ _ _ _ _ _ _ rfl rfl) (aa (iH (k := 0) (vs := [(I6 x38.kind), (I6 x38.n)]) h 11 rfl ik rfl rfl rfl (bB rfl)) (bL h 12 ik fun w b48 h => dS (vs := [(I6 x38.kind), (I6 x38.n)]) h 12 [(I6 x38.kind), (I6 x38.n)] rfl ik rfl rfl rfl rfl rfl (ai rfl (ai rfl aZ)) fun w h => nJ (aa (fu (vs := [(I6 x38.kind), (I6 x38.n)]) h 12 rfl ik rfl rfl rfl) (aa (ah kH rfl) (aa (aC h 4 rfl oh rfl rfl) (aa (bC eZ rfl (h.fT 3 rfl)) (aM Kr rfl rfl (xQ _ _ h.lt x38 (b.cells.length : Int) _ rfl) ?_)))))))
 rintro _ w ⟨k49, rfl⟩
 refine ⟨_, rfl, ?_⟩
 replace h := h.grow k49
 refine aa (ae (v := (I6 ((bJ x38 (b.cells.length : Int))))) rfl) (nJ (aa (ag (v := (I6 ((bJ x38 (b.cells.length : Int))))) rfl) (aa (iK rfl rfl) (nN (aG hs rfl (fun c50 hs => ?_) (fun c50 hs => ?_))))))
 refine nG (aa (ag (v := (I6 ((bJ x38 (b.cells.length : Int))))) rfl) (aa (ae (v := (I6 ((bJ x38 (b.cells.length : Int))))) rfl) (nR (aD (ax (ax (aD (aD (ax (ax (aD (ax (bE (v := (I6 ((bJ x38 (b.cells.length : Int))))) Tryz.results64 rfl ?_)))))))))))))
 obtain rfl := gM hs
 exact ⟨h.grown, rfl⟩
 refine aF (au (aj (az (aa (bU rfl rfl e42r) (aa (ag (v := (I6 ((i37 + 1)))) rfl) (aB (ak ?_)))))))
 subst PN
 exact iW ⟨SK + 1, i37 + 1⟩ ⟨h.cn _, by omega, hs⟩ (by have := nX e41; dsimp only; omega)
 rw [fI (hik ▸ e41), fw] at hs
 refine jd (bK (bK (eF (au (aj (az (aa (bU rfl rfl e13r) (aa (ag (v := (I6 ((i8 + 1)))) rfl) (aB (ak ?_))))))))))
 subst WS
 exact iW ⟨k7 + 1, i8 + 1⟩ ⟨h.cn _, by omega, hs⟩ (by have := nX e12; dsimp only; omega)
 refine D6 mixed (by kernel_rfl) h fun w h => dX (ah zx rfl) (dX (aC h 7 rfl aS rfl rfl) (dX (dm rfl rfl) (dX (ag (v := (.bool (decide ((x9.at_ : Int) < 0)))) rfl) (rR rfl rfl (fun q => ah zx rfl) (rR rfl rfl (fun q => aC h 7 rfl aS (bZ q) rfl) (rR rfl rfl (fun q => ah uG rfl) (rR rfl rfl (fun q => aC h 10 rfl Bv (bZ q) rfl) (rR rfl rfl (fun q => bC jF (bZ q) (h.mY 9 rfl)) (rR rfl rfl (fun q => pq (bZ q) (bZ q)) (dX (gK rfl rfl mX) (dX (ag (v := (.bool ((decide ((x9.at_ : Int) < 0) || decide (((rM.code.length : Int) : Int) ≤ x9.at_))))) rfl) (rR rfl rfl (fun q => ah xH rfl) (rR rfl rfl (fun q => aC h 7 rfl aS (bZ q) rfl) (rR rfl rfl (fun q => dm (bZ q) rfl) (dX (gK rfl rfl mX) (dX (ag (v := (.bool (((decide ((x9.at_ : Int) < 0) || decide (((rM.code.length : Int) : Int) ≤ x9.at_)) || decide ((x9.kL : Int) < 0))))) rfl) (rR rfl rfl (fun q => ag (v := (I6 i8)) rfl) (rR rfl rfl (fun q => bH (bZ q) rfl) (rR rfl rfl (fun q => ag (v := (.bool (decide ((i8 : Int) = 0)))) (bZ q)) (LF (((decide ((x9.at_ : Int) < 0) || decide (((rM.code.length : Int) : Int) ≤ x9.at_)) || decide ((x9.kL : Int) < 0)) == false) rfl rfl (fun q => ah xH rfl) (LF (((decide ((x9.at_ : Int) < 0) || decide (((rM.code.length : Int) : Int) ≤ x9.at_)) || decide ((x9.kL : Int) < 0)) == false) rfl rfl (fun q => aC h 7 rfl aS (bZ q) rfl) (LF (((decide ((x9.at_ : Int) < 0) || decide (((rM.code.length : Int) : Int) ≤ x9.at_)) || decide ((x9.kL : Int) < 0)) == false) rfl rfl (fun q => iK (bZ q) rfl) ?_))))))))))))))))))))))
 refine rR rfl rfl (fun q => gG (bZ q) (Ol q) mX) (dX (gK rfl rfl mX) (dX (ag (v := (.bool ((((decide ((x9.at_ : Int) < 0) || decide (((rM.code.length : Int) : Int) ≤ x9.at_)) || decide ((x9.kL : Int) < 0)) || (decide ((i8 : Int) = 0) && decide ((x9.kL : Int) ≠ 0)))))) rfl) (mi (b := (((decide ((x9.at_ : Int) < 0) || decide (((rM.code.length : Int) : Int) ≤ x9.at_)) || decide ((x9.kL : Int) < 0)) || (decide ((i8 : Int) = 0) && decide ((x9.kL : Int) ≠ 0)))) hs (fun c51 hs => ?_) (fun c51 hs => ?_))))
 refine pE (b' := true) rfl (cB c51) rfl (pE (b' := true) rfl (cB c51) rfl (pE (b' := true) rfl (cB c51) rfl (pV rfl rfl (pV rfl rfl (pV rfl rfl (pV rfl rfl (pV rfl rfl (pV rfl rfl (pV rfl rfl (pV rfl rfl (pV rfl rfl (pV rfl rfl (pV rfl rfl (pE (b' := true) rfl (cB c51) rfl (dX (fo (b := true) (v := (.bool (true))) (cB c51) rfl) (D7 (ak ?_)))))))))))))))))
 exact bO true ⟨h.cn _, hs⟩
 refine sI rfl (cB c51) (dX (ag (v := (I6 i8)) rfl) (sI rfl (cB c51) (dX (iV rfl rfl) (sI rfl (cB c51) (dX (ag (v := (.bool (decide ((0 : Int) < i8)))) rfl) (mi (b := decide ((0 : Int) < i8)) hs (fun Ak hs => ?_) (fun Ak hs => ?_)))))))
 refine sI rfl (cB Ak) (dX (ah xH rfl) (sI rfl (cB Ak) (dX (aC h 7 rfl aS rfl rfl) (sI rfl (cB Ak) (dX (ah kG rfl) (sI rfl (cB Ak) (dX (aC h 4 rfl qJ rfl rfl) (sI rfl (cB Ak) (dX (ag (v := (I6 i8)) rfl) (sI rfl (cB Ak) ?_))))))))))
 obtain ⟨a53, hs⟩ := aW hs
 refine dX (sG rfl rfl a53) (sI rfl (cB Ak) ?_)
 obtain ⟨x54, e55, hs⟩ := aJ hs
 obtain ⟨b57, o58, WN, h, WO, i56⟩ := h.xx 2 13 rfl fB rfl (aU e55).1 (aU e55).2
 obtain ⟨Zz, rfl, WQ⟩ := sN WO
 replace h := h.bD 14 WQ.up
 refine dX (i56 _ _ _ _ _ _ _ _ _ rfl rfl) (sI rfl (cB Ak) (dX (ah p9 rfl) (sI rfl (cB Ak) (dX (dY (k := 2) h 13 rfl pM rfl rfl) (sI rfl (cB Ak) (dX (bC dz rfl (h.mY 14 rfl)) (sI rfl (cB Ak) (dX (pq rfl rfl) (sI rfl (cB c51) (dX (fo (b := true) (v := (.bool (decide (((x54.regs.length : Int) : Int) ≤ x9.kL)))) (cB Ak) rfl) (dX (fo (b := false) (v := (.bool (decide (((x54.regs.length : Int) : Int) ≤ x9.kL)))) (cB c51) rfl) (D7 (ak ?_)))))))))))))
 exact bO (decide (((x54.regs.length : Int) : Int) ≤ x9.kL)) ⟨h.cn _, hs⟩
 refine pE (b' := false) rfl (cB Ak) rfl (pE (b' := false) rfl (cB Ak) rfl (pE (b' := false) rfl (cB Ak) rfl (pE (b' := false) rfl (cB Ak) rfl (pE (b' := false) rfl (cB Ak) rfl (pE (b' := false) rfl (cB Ak) rfl (pE (b' := false) rfl (cB Ak) rfl (pE (b' := false) rfl (cB Ak) rfl (pE (b' := false) rfl (cB Ak) rfl (pE (b' := false) rfl (cB Ak) rfl (pE (b' := false) rfl (cB Ak) rfl (sI rfl (cB c51) (dX (fo (b := false) (v := (.bool (false))) (cB Ak) rfl) (dX (fo (b := false) (v := (.bool (false))) (cB c51) rfl) (D7 (ak ?_)))))))))))))))
 exact bO false ⟨h.cn _, hs⟩
 rw [fI (hik ▸ e12), oO] at hs
 refine nE (aa (ae (v := (I6 0)) rfl) (nR (bE (v := (I6 0)) Tryz.results64 rfl ?_)))
 obtain rfl := gM hs
 exact ⟨h.grown, rfl⟩
def wV (a : List bR) (b : LX.State) : Option Int :=
  (oz a).bind fun y2 => bif decide ((y2 : Int) ≠ 0) then some y2 else (vo a b).bind fun y6 => some y6
theorem ED (w0 : World) (M : BS) (hM : ∀ b, M b → b < w0.heap.size) (va : Value) (a : List bR) (ha : eY lH w0 BE M va a) (b : LX.State) (vb0 vb1 : Value) (hb0 : eY eG w0 BE M vb0 b.frames) (hb1 : eY (oN bM) w0 BE M vb1 b.cells) (r : Int) (hs : wV a b = some r) :
    Calls Tryz.prog 27 #[va, (.agg #[vb0, vb1, (I6 b.status), (I6 b.bN)])] w0 (fun e w' => Grow w0 w' ∧ e = .returned (.int .i64 r)) := by
 refine aH (args := [va, (.agg #[vb0, vb1, (I6 b.status), (I6 b.bN)])]) Tryz.func27 rfl Tryz.ntmps27 (bB rfl) ?_
 have h := SH.init hM
 replace h := h.dR 1 ha aT
 replace h := h.dR 2 hb0 (bA aT)
 replace h := h.dR 3 hb1 (bA (bA aT))
 have tZ := ha.bG
 refine nG (ql (cs := [vb0, vb1, (I6 b.status), (I6 b.bN)]) h 4 rfl rfl fun w b1 h => aa (ae (v := (I6 0)) rfl) (nK (aa (ag (v := va) rfl) ?_)))
 obtain ⟨y2, e3, hs⟩ := aJ hs
 refine aM OX rfl rfl (BG _ _ h.lt va a (h.fT 1 rfl) _ e3) ?_
 rintro _ w ⟨k4, rfl⟩
 refine ⟨_, rfl, ?_⟩
 replace h := h.grow k4
 refine aa (ae (v := (I6 y2)) rfl) (nJ (aa (ag (v := (I6 y2)) rfl) (aa (iK rfl rfl) (nN (aG hs rfl (fun c5 hs => ?_) (fun c5 hs => ?_))))))
 refine nG (aa (ag (v := (I6 y2)) rfl) (aa (ae (v := (I6 y2)) rfl) (nR (ax (bE (v := (I6 y2)) Tryz.results27 rfl ?_)))))
 obtain rfl := gM hs
 exact ⟨h.grown, rfl⟩
 refine nS (aa (ag (v := va) rfl) (aa (fu (vs := [vb0, vb1, (I6 b.status), (I6 b.bN)]) h 4 rfl cO rfl rfl rfl) ?_))
 obtain ⟨y6, e7, hs⟩ := aJ hs
 refine aM Ue rfl rfl (K3 _ _ h.lt va a (h.fT 1 rfl) b vb0 vb1 (h.fT 2 rfl) (h.fT 3 rfl) _ e7) ?_
 rintro _ w ⟨k8, rfl⟩
 refine ⟨_, rfl, ?_⟩
 replace h := h.grow k8
 refine aa (ae (v := (I6 y6)) rfl) (nR (bE (v := (I6 y6)) Tryz.results27 rfl ?_))
 obtain rfl := gM hs
 exact ⟨h.grown, rfl⟩
theorem oC (w0 : World) (M : BS) (hM : ∀ b, M b → b < w0.heap.size) (va : Value) (a : List LX.Frame) (ha : eY eG w0 BE M va a) (r : List LX.Frame) (hs : clone 48 a = some r) :
    Calls Tryz.prog 83 #[va] w0 (fun e w' => Grow w0 w' ∧ ∃ u0, e = .returned u0 ∧ dC eG 49 w' M u0 r ∧ (∀ b, ob u0 b → w0.heap.size ≤ b)) := by
  obtain ⟨hr, hs⟩ := aW hs
  cases hs
  refine aH (args := [va]) Tryz.func83 rfl Tryz.ntmps83 (bB rfl) ?_
  have h := (SH.init hM).dR 1 ha aT
  refine nG (aa (ae rfl) (nN ?_))
  refine aK (nG (aa (ag rfl) (aa (DI fB rfl (h.fT 1 rfl) rfl) (nN ?_))))
  refine gF rfl (fun c => ?_) (fun c => ?_)
  · obtain ⟨c1, c2⟩ := uB (h.fT 1 rfl) c
    refine nG (aa (ae rfl) (nR (ax ?_)))
    refine bE (v := .slice none 0 0) Tryz.results83 rfl ?_
    rw [c2]
    exact ⟨h.grown, _, rfl, dC.nil, kX⟩
  · refine aF (aj ?_)
    refine nG ?_
    refine pK (R := eG) (vs := []) (xs := []) h 2 yI rfl rfl rfl trivial rfl fun w u h => ?_
    refine aa (ag rfl) ?_
    refine jm (R := eG) (m := a) h 2 rfl (h.fT 1 rfl) yI rfl rfl rfl hr.1 hr.2 fun w u h => ?_
    refine aa (ae rfl) (nR ?_)
    refine bE (v := u) Tryz.results83 rfl ?_
    exact ⟨h.grown, _, rfl, (h.kM 2 rfl).1, (h.kM 2 rfl).2⟩
theorem yo (w0 : World) (M : BS) (hM : ∀ b, M b → b < w0.heap.size) (va : Value) (a : List (List Val)) (ha : eY (oN bM) w0 BE M va a) (r : List (List Val)) (hs : clone 24 a = some r) :
    Calls Tryz.prog 114 #[va] w0 (fun e w' => Grow w0 w' ∧ ∃ u0, e = .returned u0 ∧ dC (oN bM) 47 w' M u0 r ∧ (∀ b, ob u0 b → w0.heap.size ≤ b)) := by
  obtain ⟨hr, hs⟩ := aW hs
  cases hs
  refine aH (args := [va]) Tryz.func114 rfl Tryz.ntmps114 (bB rfl) ?_
  have h := (SH.init hM).dR 1 ha aT
  refine nG (aa (ae rfl) (nN ?_))
  refine aK (nG (aa (ag rfl) (aa (DI eZ rfl (h.fT 1 rfl) rfl) (nN ?_))))
  refine gF rfl (fun c => ?_) (fun c => ?_)
  · obtain ⟨c1, c2⟩ := uB (h.fT 1 rfl) c
    refine nG (aa (ae rfl) (nR (ax ?_)))
    refine bE (v := .slice none 0 0) Tryz.results114 rfl ?_
    rw [c2]
    exact ⟨h.grown, _, rfl, dC.nil, kX⟩
  · refine aF (aj ?_)
    refine nG ?_
    refine pK (R := (oN bM)) (vs := []) (xs := []) h 2 ng rfl rfl rfl trivial rfl fun w u h => ?_
    refine aa (ag rfl) ?_
    refine jm (R := (oN bM)) (m := a) h 2 rfl (h.fT 1 rfl) ng rfl rfl rfl hr.1 hr.2 fun w u h => ?_
    refine aa (ae rfl) (nR ?_)
    refine bE (v := u) Tryz.results114 rfl ?_
    exact ⟨h.grown, _, rfl, (h.kM 2 rfl).1, (h.kM 2 rfl).2⟩
theorem tH (w0 : World) (M : BS) (hM : ∀ b, M b → b < w0.heap.size) (va : Value) (a : List Val) (ha : eY bM w0 BE M va a) (r : List Val) (hs : clone 16 a = some r) :
    Calls Tryz.prog 85 #[va] w0 (fun e w' => Grow w0 w' ∧ ∃ u0, e = .returned u0 ∧ dC bM 51 w' M u0 r ∧ (∀ b, ob u0 b → w0.heap.size ≤ b)) := by
  obtain ⟨hr, hs⟩ := aW hs
  cases hs
  refine aH (args := [va]) Tryz.func85 rfl Tryz.ntmps85 (bB rfl) ?_
  have h := (SH.init hM).dR 1 ha aT
  refine nG (aa (ae rfl) (nN ?_))
  refine aK (nG (aa (ag rfl) (aa (DI dz rfl (h.fT 1 rfl) rfl) (nN ?_))))
  refine gF rfl (fun c => ?_) (fun c => ?_)
  · obtain ⟨c1, c2⟩ := uB (h.fT 1 rfl) c
    refine nG (aa (ae rfl) (nR (ax ?_)))
    refine bE (v := .slice none 0 0) Tryz.results85 rfl ?_
    rw [c2]
    exact ⟨h.grown, _, rfl, dC.nil, kX⟩
  · refine aF (aj ?_)
    refine nG ?_
    refine pK (R := bM) (vs := []) (xs := []) h 2 wE rfl rfl rfl trivial rfl fun w u h => ?_
    refine aa (ag rfl) ?_
    refine jm (R := bM) (m := a) h 2 rfl (h.fT 1 rfl) wE rfl rfl rfl hr.1 hr.2 fun w u h => ?_
    refine aa (ae rfl) (nR ?_)
    refine bE (v := u) Tryz.results85 rfl ?_
    exact ⟨h.grown, _, rfl, (h.kM 2 rfl).1, (h.kM 2 rfl).2⟩
def uJ (a : List (List Val)) (i14 : Int) (s : Unit) (H9 : Unit → Option (List (List Val))) : Option (List (List Val)) :=
  (idx a i14).bind fun x20 => (clone 16 x20).bind fun y31 => H9 ()
def uK (a : List (List Val)) (s : Unit) : Option (List (List Val)) :=
  some a
def zI (a : List (List Val)) : Option (List (List Val)) :=
  (clone 24 a).bind fun y1 => upto (uJ a) (uK a) 0 ((a.length : Int)).toNat ()
theorem yQ (w0 : World) (M : BS) (hM : ∀ b, M b → b < w0.heap.size) (va : Value) (a : List (List Val)) (ha : eY (oN bM) w0 BE M va a) (r : List (List Val)) (hs : zI a = some r) :
    Calls Tryz.prog 84 #[va] w0 (fun e w' => Grow w0 w' ∧ ∃ wU, ∃ BH, e = .returned (wU) ∧ Chunk.holds w' M (Chunk.own' ((.two (.own (iI Val).raw 47 wU (List.zip r BH)) (.gZ (dM bM 51 hn BH (List.map (iI Val).sub r)))) : Chunk)) ((.two (.own (iI Val).raw 47 wU (List.zip r BH)) (.gZ (dM bM 51 hn BH (List.map (iI Val).sub r)))) : Chunk) ∧ (∀ b, Chunk.own' ((.two (.own (iI Val).raw 47 wU (List.zip r BH)) (.gZ (dM bM 51 hn BH (List.map (iI Val).sub r)))) : Chunk) b → w0.heap.size ≤ b)) := by
 refine aH (args := [va]) Tryz.func84 rfl Tryz.ntmps84 (bB rfl) ?_
 have h := SH.init hM
 replace h := h.dR 1 ha aT
 have tZ := ha.bG
 refine nG (aa (ae (v := (.slice none 0 0)) rfl) (nJ (aa (ag (v := va) rfl) ?_)))
 obtain ⟨y1, e2, hs⟩ := aJ hs
 have z3 := wD e2
 subst z3
 refine aM Rq rfl rfl (yo _ _ h.lt va a (h.fT 1 rfl) _ e2) ?_
 rintro _ w ⟨k7, u4, rfl, g5, g6⟩
 refine ⟨_, rfl, ?_⟩
 replace h := h.jv 2 k7 g5 g6
 obtain ⟨us8, -, h⟩ := h.thaw (N := (iI Val)) (R := bM) (Es := 51) 2 3 4 rfl (by decide) (by decide) (by decide) rfl Rh
 refine aa (ae (v := u4) rfl) (nK (aa (ag (v := u4) rfl) (aa (yF (N := (iI Val)) eZ rfl (h.dE 2 rfl) (h.pz 3 rfl)) (aa (ag (v := (I6 0)) rfl) (nN (aI ?_))))))
 have WT := (h.fT 1 rfl).bG
 refine fe (σ := Nat × Int × List Value) (inl ([3, 4] ++ rg 9 11)) (fun ⟨k13, i14, FJ⟩ => [(9, (I6 i14))]) (fun ⟨k13, i14, FJ⟩ w => SH w0 M BE w (hset [(2, .own (iI Val).raw 47 u4 (List.zip a FJ)), (3, .gZ (dM bM 51 (hge (k13)) FJ (List.map (iI Val).sub a))), (4, .gZ (Bo bM (k13) FJ (List.map (iI Val).sub a)))]) ∧ i14 = (k13 : Int) ∧ upto (uJ a) (uK a) i14 (((a.length : Int)).toNat - k13) () = some r) (fun ⟨k13, i14, FJ⟩ => ((a.length : Int)).toNat - k13) ⟨0, 0, us8⟩ ⟨rfl, trivial⟩ ?_ ?_
 exact ⟨h.cn _, rfl, hs⟩
 rintro ⟨k13, i14, FJ⟩ w cZ ⟨h, hik, hs⟩
 refine nG ?_
 refine aa (dm rfl rfl) (nN ?_)
 refine aK (gF rfl (fun e18 => ?_) (fun e18 => ?_))
 refine aF (aj ?_)
 rw [pW (by have := nX e18; omega)] at hs
 generalize WU : upto (uJ a) (uK a) (i14 + 1) (((a.length : Int)).toNat - (k13 + 1)) = H9 at hs
 have e19r : jg (i14 + 1) := (by have := nX e18; have := WT; exact jg.mk (by omega) (by omega))
 refine aK (aI (nG (aa (ag (v := (I6 i14)) rfl) ?_)))
 obtain ⟨x20, e21, hs⟩ := aJ hs
 obtain ⟨u25, e260, r27⟩ := h.OP 4 x20 rfl (h.pz 3 rfl) (F7 hik (aU e21).2) rfl
 have e26 := SA hik e260
 replace h := h.bD 5 r27
 obtain ⟨Aa, q24, i22⟩ := h.II 2 rfl eZ rfl (aU e21).1 (mo (aU e21).2 e26)
 refine aa (i22 _ _ _ _ _ _ _ _ _ rfl rfl) ?_
 obtain ⟨UF, m29, WR⟩ := h.NT 2 rfl q24 (mo (aU e21).2 e26)
 obtain ⟨rfl, -⟩ := WR
 refine aa (CZ (k := 0) m29 pM rfl rfl) (aa (ae (v := (I6 i14)) rfl) (aa (ae (v := u25) rfl) (nN (az (aa (ag (v := u4) rfl) (aa (ag (v := (I6 i14)) rfl) (aa (ag (v := u25) rfl) ?_)))))))
 obtain ⟨y31, e32, hs⟩ := aJ hs
 have z33 := wD e32
 subst z33
 refine aM O0 rfl rfl (tH _ _ h.lt u25 x20 (h.mY 5 rfl) _ e32) ?_
 rintro _ w ⟨k37, u34, rfl, g35, g36⟩
 refine ⟨_, rfl, ?_⟩
 replace h := h.jv 6 k37 g35 g36
 obtain ⟨Ya, q40, i38⟩ := h.II 2 rfl eZ rfl (aU e21).1 (mo (aU e21).2 e26)
 refine aa (i38 _ _ _ _ _ _ _ _ _ rfl rfl) ?_
 have o41 : (Value.oneCell' u34) = true := (h.fD 6 rfl).one
 refine Oj (off := 0) (a' := (x20, u34)) h 2 rfl q40 rfl (mo (aU e21).2 e26) pM rfl rfl o41 rfl (by rintro _ ⟨rfl, _⟩; exact ⟨rfl, o41⟩) fun w h => ?_
 rw [IW (aU e21).2, OO hik] at h
 replace h := h.I1 3 4 6 rfl rfl rfl (by decide) (by decide) (by decide) (F7 hik (aU e21).2) (F7 hik e26) rfl
 generalize List.set FJ k13 u34 = us42 at h
 refine aB (au (aj (az (aa (bU rfl rfl e19r) (aa (ag (v := (I6 ((i14 + 1)))) rfl) (aB (ak ?_)))))))
 subst WU
 exact iW ⟨k13 + 1, i14 + 1, us42⟩ ⟨h.cn _, by omega, hs⟩ (by have := nX e18; dsimp only; omega)
 rw [pX (by have := of_decide_eq_false e18; omega)] at hs
 replace h := h.OM 3 rfl (by have := of_decide_eq_false e18; omega)
 replace h := h.rJ 4
 refine nE (aa (ag (v := u4) rfl) (aa (ae (v := u4) rfl) (nR (bE (v := u4) Tryz.results84 rfl ?_))))
 replace h := h.pair 2 3 (by decide)
 obtain rfl := gM hs
 obtain ⟨o1, o2, o3⟩ := h.Ah 2 (C := (.two (.own (iI Val).raw 47 u4 (List.zip a FJ)) (.gZ (dM bM 51 hn FJ (List.map (iI Val).sub a))) : Chunk)) rfl ⟨trivial, trivial⟩
 exact ⟨o2, u4, FJ, rfl, o1, G7 o3⟩
def xR (a : LX.State) (i13 : Int) (s : Unit) (WV : Unit → Option LX.State) : Option LX.State :=
  (idx a.frames i13).bind fun yx => (clone 16 yx.regs).bind fun PV => WV ()
def xS (a : LX.State) (y7 : List (List Val)) (s : Unit) : Option LX.State :=
  some (⟨a.frames, y7, a.status, a.bN⟩ : LX.State)
def Ay (a : LX.State) (y7 : List (List Val)) : Option LX.State :=
  upto (xR a) (xS a y7) 0 ((a.frames.length : Int)).toNat ()
def DX (a : LX.State) : Option LX.State :=
  (clone 48 a.frames).bind fun PW => (zI a.cells).bind fun oD => Ay a oD
theorem Nk (w0 : World) (M : BS) (hM : ∀ b, M b → b < w0.heap.size) (a : LX.State) (Bb BI : Value) (ha0 : eY eG w0 BE M Bb a.frames) (ha1 : eY (oN bM) w0 BE M BI a.cells) (r : LX.State) (hs : DX a = some r) :
    Calls Tryz.prog 49 #[(.agg #[Bb, BI, (I6 a.status), (I6 a.bN)])] w0 (fun e w' => Grow w0 w' ∧ ∃ wU, ∃ Aw, ∃ BH, ∃ K4, e = .returned (.agg #[wU, Aw, .int .i64 r.status, .int .i64 r.bN]) ∧ Chunk.holds w' M (Chunk.own' ((cU wU Aw r.frames BH r.cells K4) : Chunk)) ((cU wU Aw r.frames BH r.cells K4) : Chunk) ∧ (∀ b, Chunk.own' ((cU wU Aw r.frames BH r.cells K4) : Chunk) b → w0.heap.size ≤ b)) := by
 refine aH (args := [(.agg #[Bb, BI, (I6 a.status), (I6 a.bN)])]) Tryz.func49 rfl Tryz.ntmps49 (bB rfl) ?_
 have h := SH.init hM
 replace h := h.dR 1 ha0 aT
 replace h := h.dR 2 ha1 (bA aT)
 refine nG (ql (cs := [Bb, BI, (I6 a.status), (I6 a.bN)]) h 3 rfl rfl fun w b1 h => bL h 4 cO fun w b2 h => nN (bQ (σ := Value × List Value × Value × List Value × List (List Val)) (inl (rg 5 8)) (fun ⟨v3, VE, v5, SL, y7⟩ => []) (fun ⟨v3, VE, v5, SL, y7⟩ w => SH w0 M BE w (hset [(3, .blk b1 [v3, v5, (I6 a.status), (I6 a.bN)]), (4, .blk b2 [(.slice none 0 0), (.slice none 0 0), (I6 0), (I6 0)]), (29, .own gN.raw 49 v3 (List.zip a.frames VE)), (30, .gZ (dM bM 51 (hge (0)) VE (List.map gN.sub a.frames))), (31, .gZ (Bo bM (0) VE (List.map gN.sub a.frames))), (65, .own (iI Val).raw 47 v5 (List.zip y7 SL)), (66, .gZ (dM bM 51 hn SL (List.map (iI Val).sub y7)))]) ∧ Ay a y7 = some r) ?_ ?_))
 rintro ⟨v3, VE, v5, SL, y7⟩ w cZ ⟨h, hs⟩
 refine aK (nG (aa (ah kG rfl) (aa (aC h 3 rfl qJ rfl rfl) (aa (yF (N := gN) fB rfl (h.dE 29 rfl) (h.pz 30 rfl)) (aa (ag (v := (I6 0)) rfl) (nN (aI ?_)))))))
 have WW := El (h.dE 29 rfl) (h.pz 30 rfl)
 refine fe (σ := Nat × Int × List Value) (inl ([3, 4] ++ rg 16 14)) (fun ⟨k12, i13, Az⟩ => [(16, (I6 i13))]) (fun ⟨k12, i13, Az⟩ w => SH w0 M BE w (hset [(3, .blk b1 [v3, v5, (I6 a.status), (I6 a.bN)]), (4, .blk b2 [(.slice none 0 0), (.slice none 0 0), (I6 0), (I6 0)]), (29, .own gN.raw 49 v3 (List.zip a.frames Az)), (30, .gZ (dM bM 51 (hge (k12)) Az (List.map gN.sub a.frames))), (31, .gZ (Bo bM (k12) Az (List.map gN.sub a.frames))), (65, .own (iI Val).raw 47 v5 (List.zip y7 SL)), (66, .gZ (dM bM 51 hn SL (List.map (iI Val).sub y7)))]) ∧ i13 = (k12 : Int) ∧ upto (xR a) (xS a y7) i13 (((a.frames.length : Int)).toNat - k12) () = some r) (fun ⟨k12, i13, Az⟩ => ((a.frames.length : Int)).toNat - k12) ⟨0, 0, VE⟩ ⟨rfl, trivial⟩ ?_ ?_
 exact ⟨h.cn _, rfl, hs⟩
 rintro ⟨k12, i13, Az⟩ w cZ ⟨h, hik, hs⟩
 refine nG ?_
 refine aa (dm rfl rfl) (nN ?_)
 refine aK (gF rfl (fun e17 => ?_) (fun e17 => ?_))
 refine aF (aj ?_)
 rw [pW (by have := nX e17; omega)] at hs
 generalize WX : upto (xR a) (xS a y7) (i13 + 1) (((a.frames.length : Int)).toNat - (k12 + 1)) = WV at hs
 have e18r : jg (i13 + 1) := (by have := nX e17; have := WW; exact jg.mk (by omega) (by omega))
 refine aK (aI (nG (aa (ag (v := (I6 i13)) rfl) ?_)))
 obtain ⟨yx, e20, hs⟩ := aJ hs
 obtain ⟨u24, e250, r26⟩ := h.OP 31 yx.regs rfl (h.pz 30 rfl) (F7 hik (aU e20).2) rfl
 have e25 := SA hik e250
 replace h := h.bD 67 r26
 obtain ⟨b22, q23, i21⟩ := h.II 29 rfl fB rfl (aU e20).1 (mo (aU e20).2 e25)
 refine aa (i21 _ _ _ _ _ _ _ _ _ rfl rfl) ?_
 obtain ⟨cs27, UT, UG⟩ := h.NT 29 rfl q23 (mo (aU e20).2 e25)
 obtain ⟨rfl, -⟩ := UG
 refine aa (Cg (k := 0) (vs := [(I6 yx.proc), (I6 yx.at_), u24, (I6 yx.kL)]) UT ja rfl rfl rfl (bB rfl)) (bL h 68 ja fun w b30 h => aa (ae (v := (I6 i13)) rfl) (dS (vs := [(I6 yx.proc), (I6 yx.at_), u24, (I6 yx.kL)]) h 68 [(I6 yx.proc), (I6 yx.at_), u24, (I6 yx.kL)] rfl ja rfl rfl rfl rfl rfl (ai rfl (ai rfl (ai (h.fq 67 rfl).one (ai rfl aZ)))) fun w h => nN (sJ (L := (ob v3)) mixed h fun w h => dn 0 (aO.refl _ _) rfl ay (by kernel_rfl) (by kernel_rfl) (by kernel_rfl) (fun w hk => ah kG rfl) (dn 1 (aO.refl _ _) rfl ay (by kernel_rfl) (by kernel_rfl) (by kernel_rfl) (fun w hk => have h := h.uw 29 rfl hk; aC h 3 rfl qJ rfl rfl) (dn 2 (aO.refl _ _) rfl ay (by kernel_rfl) (by kernel_rfl) (by kernel_rfl) (fun w hk => ag (v := (I6 i13)) rfl) (dn 3 (aO.refl _ _) rfl ay (by kernel_rfl) (by kernel_rfl) (by kernel_rfl) (fun w hk => ah p9 rfl) (dn 4 (aO.refl _ _) rfl ay (by kernel_rfl) (by kernel_rfl) (by kernel_rfl) (fun w hk => have h := h.uw 29 rfl hk; aC h 68 rfl pM rfl rfl) ?_)))))))
 obtain ⟨WY, SN⟩ : ∃ x, x = w := ⟨_, rfl⟩
 have Ia : aO (ob v3) WY w := SN ▸ aO.refl (ob v3) w
 refine yB SN.symm (bS 5 (by kernel_rfl) rfl ay ?_)
 obtain ⟨PV, Ju, hs⟩ := aJ hs
 have PX := wD Ju
 subst PX
 refine aM O0 rfl rfl (tH _ _ h.lt u24 yx.regs (h.mY 67 rfl) _ Ju) ?_
 rintro _ w ⟨Jv, BJ, rfl, PY, Jw⟩
 refine ⟨_, rfl, ?_⟩
 replace h := h.jv 129 Jv PY Jw
 have VF : ∀ b, ob BJ b → WY.heap.size ≤ b := fun b hb => Nat.le_trans Ia.size (Jw b hb)
 replace Ia := Ia.grow Jv
 refine aB (aV Ia ?_)
 obtain ⟨WZ, PZ, P5⟩ := h.II 29 rfl fB rfl (aU e20).1 (mo (aU e20).2 e25)
 refine gQ 6 Ia rfl (by kernel_rfl) (fun w hk => P5 _ _ _ _ _ _ _ _ _ rfl rfl) (gQ 7 Ia rfl (by kernel_rfl) (fun w hk => ah p9 rfl) (bS 8 (by kernel_rfl) rfl ay ?_))
 have Jy : (Value.oneCell' BJ) = true := (h.fD 129 rfl).one
 refine Ou (a' := (yx, BJ)) h 29 rfl PZ rfl (mo (aU e20).2 e25) pM rfl rfl Jy rfl (by rintro _ ⟨rfl, _⟩; exact ⟨rfl, Jy⟩) fun w h P6 => ?_
 replace Ia := Ia.same P6
 rw [IW (aU e20).2, OO hik] at h
 replace h := h.I1 30 31 129 rfl rfl rfl (by decide) (by decide) (by decide) (F7 hik (aU e20).2) (F7 hik e25) rfl
 generalize List.set Az k12 BJ = Nl at h
 refine aB (aV Ia (jG (by kernel_rfl) (au (aj (az (aa (bU rfl rfl e18r) (aa (ag (v := (I6 ((i13 + 1)))) rfl) (aB (ak ?_)))))))))
 subst WX
 exact iW ⟨k12 + 1, i13 + 1, Nl⟩ ⟨h.cn _, by omega, hs⟩ (by have := nX e17; dsimp only; omega)
 rw [pX (by have := of_decide_eq_false e17; omega)] at hs
 replace h := h.OM 30 rfl (by have := of_decide_eq_false e17; omega)
 replace h := h.rJ 31
 refine nE (aa (fu (vs := [v3, v5, (I6 a.status), (I6 a.bN)]) h 3 rfl cO rfl rfl rfl) (dS (vs := [v3, v5, (I6 a.status), (I6 a.bN)]) h 4 [v3, v5, (I6 a.status), (I6 a.bN)] rfl cO rfl rfl rfl rfl rfl (ai (h.fD 29 rfl).one (ai (h.fD 65 rfl).one (ai rfl (ai rfl aZ)))) fun w h => nR (Sy (vs := [v3, v5, (I6 a.status), (I6 a.bN)]) Tryz.results49 rfl h 4 rfl cO rfl ?_)))
 replace h := h.pair 29 30 (by decide)
 replace h := h.pair 29 65 (by decide)
 replace h := h.pair 29 66 (by decide)
 obtain rfl := gM hs
 obtain ⟨o1, o2, o3⟩ := h.Ah 29 (C := (cU v3 v5 a.frames Az y7 SL)) rfl ⟨⟨⟨trivial, trivial⟩, trivial⟩, trivial⟩
 exact ⟨o2, v3, v5, Az, SL, rfl, o1, G7 o3⟩
 refine sJ (L := (fun x => x = b1)) mixed h fun w h => dn 0 (aO.refl _ _) rfl ay (by kernel_rfl) (by kernel_rfl) (by kernel_rfl) (fun w hk => ah kG rfl) (dn 3 (aO.refl _ _) rfl ay (by kernel_rfl) (by kernel_rfl) (by kernel_rfl) (fun w hk => ah kH rfl) ?_)
 obtain ⟨PW, wW, hs⟩ := aJ hs
 obtain ⟨oD, EE, hs⟩ := aJ hs
 obtain ⟨RP, SQ⟩ : ∃ x, x = w := ⟨_, rfl⟩
 have jr : aO (fun x => x = b1) RP w := SQ ▸ aO.refl (fun x => x = b1) w
 refine yB SQ.symm (uX 1 4 (by kernel_rfl) rfl ay rfl ay ?_ ?_)
 refine aa (aC h 3 rfl qJ rfl rfl) (aB (aV jr (uX 2 4 (by kernel_rfl) rfl ay rfl ay ?_ ?_)))
 have yR := wD wW
 subst yR
 refine aM Kt rfl rfl (oC _ _ h.lt Bb a.frames (h.fT 1 rfl) _ wW) ?_
 rintro _ w ⟨tJ, lq, rfl, yS, tK⟩
 refine ⟨_, rfl, ?_⟩
 replace h := h.jv 213 tJ yS tK
 have Gh : ∀ b, ob lq b → RP.heap.size ≤ b := fun b hb => Nat.le_trans jr.size (tK b hb)
 replace jr := jr.grow tJ
 obtain ⟨wX, -, h⟩ := h.thaw (N := gN) (R := bM) (Es := 51) 213 214 215 rfl (by decide) (by decide) (by decide) rfl Co
 refine aB (aV jr (bS 4 (by kernel_rfl) rfl ay (aa (aC h 3 rfl oh rfl rfl) (aB (aV jr (gQ 6 jr rfl (by kernel_rfl) (fun w hk => ah kG rfl) (bS 5 (by kernel_rfl) rfl ay (aM Ku rfl rfl (yQ _ _ h.lt BI a.cells (h.fT 2 rfl) _ EE) ?_))))))))
 rintro _ w ⟨tL, oF, lW, rfl, yT, yU⟩
 refine ⟨_, rfl, ?_⟩
 replace h := h.IZ 249 (C := (.two (.own (iI Val).raw 47 oF (List.zip oD lW)) (.gZ (dM bM 51 hn lW (List.map (iI Val).sub oD))) : Chunk)) tL ⟨trivial, trivial⟩ yT yU
 replace h := h.iX 249 250 (by decide) rfl rfl
 replace jr := jr.grow tL
 refine aB (aV jr (bS 7 (by kernel_rfl) rfl ay (tX h 3 [lq, BI, (I6 a.status), (I6 a.bN)] rfl qJ rfl rfl rfl rfl (h.fD 213 rfl).one fun w h yV => ?_)))
 replace jr := jr.same yV
 refine aB (aV jr (gQ 8 jr rfl (by kernel_rfl) (fun w hk => ah kH rfl) (bS 9 (by kernel_rfl) rfl ay (tX h 3 [lq, oF, (I6 a.status), (I6 a.bN)] rfl oh rfl rfl rfl rfl (h.fD 249 rfl).one fun w h yX => ?_))))
 replace jr := jr.same yX
 refine aB (aV jr (jG (by kernel_rfl) (ak ?_)))
 replace h := (h.rJ 29).moveC 213 29 rfl rfl (by decide)
 replace h := (h.rJ 30).moveC 214 30 rfl rfl (by decide)
 replace h := (h.rJ 31).moveC 215 31 rfl rfl (by decide)
 replace h := (h.rJ 65).moveC 249 65 rfl rfl (by decide)
 replace h := (h.rJ 66).moveC 250 66 rfl rfl (by decide)
 exact bO (lq, wX, oF, lW, oD) ⟨h.cn _, hs⟩
 refine aa (aC h 3 rfl oh rfl rfl) (aB (aV jr (bS 2 (by kernel_rfl) rfl ay ?_)))
 have yR := wD wW
 subst yR
 refine aM Kt rfl rfl (oC _ _ h.lt Bb a.frames (h.fT 1 rfl) _ wW) ?_
 rintro _ w ⟨tJ, lq, rfl, yS, tK⟩
 refine ⟨_, rfl, ?_⟩
 replace h := h.jv 213 tJ yS tK
 have Gh : ∀ b, ob lq b → RP.heap.size ≤ b := fun b hb => Nat.le_trans jr.size (tK b hb)
 replace jr := jr.grow tJ
 obtain ⟨wX, -, h⟩ := h.thaw (N := gN) (R := bM) (Es := 51) 213 214 215 rfl (by decide) (by decide) (by decide) rfl Co
 refine aB (aV jr (gQ 6 jr rfl (by kernel_rfl) (fun w hk => ah kG rfl) (bS 5 (by kernel_rfl) rfl ay (aM Ku rfl rfl (yQ _ _ h.lt BI a.cells (h.fT 2 rfl) _ EE) ?_))))
 rintro _ w ⟨tL, oF, lW, rfl, yT, yU⟩
 refine ⟨_, rfl, ?_⟩
 replace h := h.IZ 249 (C := (.two (.own (iI Val).raw 47 oF (List.zip oD lW)) (.gZ (dM bM 51 hn lW (List.map (iI Val).sub oD))) : Chunk)) tL ⟨trivial, trivial⟩ yT yU
 replace h := h.iX 249 250 (by decide) rfl rfl
 replace jr := jr.grow tL
 refine aB (aV jr (bS 7 (by kernel_rfl) rfl ay (tX h 3 [lq, BI, (I6 a.status), (I6 a.bN)] rfl qJ rfl rfl rfl rfl (h.fD 213 rfl).one fun w h yV => ?_)))
 replace jr := jr.same yV
 refine aB (aV jr (gQ 8 jr rfl (by kernel_rfl) (fun w hk => ah kH rfl) (bS 9 (by kernel_rfl) rfl ay (tX h 3 [lq, oF, (I6 a.status), (I6 a.bN)] rfl oh rfl rfl rfl rfl (h.fD 249 rfl).one fun w h yX => ?_))))
 replace jr := jr.same yX
 refine aB (aV jr (jG (by kernel_rfl) (ak ?_)))
 replace h := (h.rJ 29).moveC 213 29 rfl rfl (by decide)
 replace h := (h.rJ 30).moveC 214 30 rfl rfl (by decide)
 replace h := (h.rJ 31).moveC 215 31 rfl rfl (by decide)
 replace h := (h.rJ 65).moveC 249 65 rfl rfl (by decide)
 replace h := (h.rJ 66).moveC 250 66 rfl rfl (by decide)
 exact bO (lq, wX, oF, lW, oD) ⟨h.cn _, hs⟩
 refine aa (aC h 3 rfl oh rfl rfl) (aB (aV jr (bS 1 (by kernel_rfl) rfl ay (aa (aC h 3 rfl qJ rfl rfl) (aB (aV jr (bS 2 (by kernel_rfl) rfl ay ?_)))))))
 have yR := wD wW
 subst yR
 refine aM Kt rfl rfl (oC _ _ h.lt Bb a.frames (h.fT 1 rfl) _ wW) ?_
 rintro _ w ⟨tJ, lq, rfl, yS, tK⟩
 refine ⟨_, rfl, ?_⟩
 replace h := h.jv 213 tJ yS tK
 have Gh : ∀ b, ob lq b → RP.heap.size ≤ b := fun b hb => Nat.le_trans jr.size (tK b hb)
 replace jr := jr.grow tJ
 obtain ⟨wX, -, h⟩ := h.thaw (N := gN) (R := bM) (Es := 51) 213 214 215 rfl (by decide) (by decide) (by decide) rfl Co
 refine aB (aV jr (gQ 6 jr rfl (by kernel_rfl) (fun w hk => ah kG rfl) (bS 5 (by kernel_rfl) rfl ay (aM Ku rfl rfl (yQ _ _ h.lt BI a.cells (h.fT 2 rfl) _ EE) ?_))))
 rintro _ w ⟨tL, oF, lW, rfl, yT, yU⟩
 refine ⟨_, rfl, ?_⟩
 replace h := h.IZ 249 (C := (.two (.own (iI Val).raw 47 oF (List.zip oD lW)) (.gZ (dM bM 51 hn lW (List.map (iI Val).sub oD))) : Chunk)) tL ⟨trivial, trivial⟩ yT yU
 replace h := h.iX 249 250 (by decide) rfl rfl
 replace jr := jr.grow tL
 refine aB (aV jr (bS 7 (by kernel_rfl) rfl ay (tX h 3 [lq, BI, (I6 a.status), (I6 a.bN)] rfl qJ rfl rfl rfl rfl (h.fD 213 rfl).one fun w h yV => ?_)))
 replace jr := jr.same yV
 refine aB (aV jr (gQ 8 jr rfl (by kernel_rfl) (fun w hk => ah kH rfl) (bS 9 (by kernel_rfl) rfl ay (tX h 3 [lq, oF, (I6 a.status), (I6 a.bN)] rfl oh rfl rfl rfl rfl (h.fD 249 rfl).one fun w h yX => ?_))))
 replace jr := jr.same yX
 refine aB (aV jr (jG (by kernel_rfl) (ak ?_)))
 replace h := (h.rJ 29).moveC 213 29 rfl rfl (by decide)
 replace h := (h.rJ 30).moveC 214 30 rfl rfl (by decide)
 replace h := (h.rJ 31).moveC 215 31 rfl rfl (by decide)
 replace h := (h.rJ 65).moveC 249 65 rfl rfl (by decide)
 replace h := (h.rJ 66).moveC 250 66 rfl rfl (by decide)
 exact bO (lq, wX, oF, lW, oD) ⟨h.cn _, hs⟩
end
end Go.Proofs.YtfclkapelkhlpaaGreatDoor
