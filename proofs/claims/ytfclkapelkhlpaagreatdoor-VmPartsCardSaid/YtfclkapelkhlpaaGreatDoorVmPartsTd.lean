/-
  What the law VmParts needs of our own library and of the walks, no more.
-/
import Derived.Test.YtfclkapelkhlpaaGreatDoorProg
import Derived.Test.YtfclkapelkhlpaaGreatDoorVmPartsTc
set_option linter.unusedSimpArgs false
set_option linter.unusedVariables false
set_option maxRecDepth 10000
namespace Go.Proofs.YtfclkapelkhlpaaGreatDoor
open Go Go.Proofs Go.LX
noncomputable section
theorem yS (N : Nat) (w0 : World) (M : BS) (hM : ∀ b, M b → b < w0.heap.size) (hT : vK Tryz.prog 4 w0) (a : Str) (r : List eU × Int) (hs : kF N a = some r) :
    Calls Tryz.prog 77 #[(aV a)] w0 (fun e w' => Grow w0 w' ∧ ∃ u0, e = .returned (.tuple #[u0, .int .i64 r.2]) ∧ dW iU 113 w' M u0 r.1 ∧ (∀ b, ob u0 b → w0.heap.size ≤ b)) := by
 refine aN (args := [(aV a)]) Tryz.func77 rfl Tryz.ntmps77 (bD rfl) ?_
 have h := SH.init hM
 refine nG (aa (ae (v := (.slice none 0 0)) rfl) (aa (ae (v := (I6 0)) rfl) (nJ (aa (ag (v := (aV a)) rfl) ?_))))
 obtain ⟨y1, e2, hs⟩ := aJ hs
 refine aS X8 rfl rfl (G6 _ _ h.lt (hT.go h.keep) a [32] _ e2) ?_
 rintro _ w ⟨k5, u3, rfl, g4⟩
 refine ⟨_, rfl, ?_⟩
 replace h := h.Ky 1 k5 g4
 refine qd h 2 mI fun w b6 h => fA h 2 [u3] rfl mI rfl rfl rfl rfl (h.fo 1 rfl).one fun w h => nJ (qd h 3 zu fun w b7 h => nK (aa (aB h 2 rfl mI rfl rfl) (aa (bS eF rfl (h.mM 1 rfl)) (aa (ag (v := (I6 0)) rfl) (nN (aO ?_))))))
 replace h := h.xC (R := iU) (E := 113) 7
 refine gF (σ := Nat × Int × Value × List eU) (inl (rg 6 6 ++ rg 24 39)) (fun ⟨k16, i17, v14, xg⟩ => [(24, (I6 i17))]) (fun ⟨k16, i17, v14, xg⟩ w => SH w0 M BE w (hset [(1, .rd nY u3 y1), (2, .blk b6 [u3]), (3, .blk b7 [v14]), (7, .own iU 113 v14 xg)]) ∧ i17 = (k16 : Int) ∧ eO (jo y1) (iA N y1 a) i17 (y1.drop k16) xg = some r) (fun ⟨k16, i17, v14, xg⟩ => y1.length - k16) ⟨0, 0, (.slice none 0 0), []⟩ ⟨rfl, trivial⟩ ?_ ?_
 exact ⟨h.cn _, rfl, hs⟩
 rintro ⟨k16, i17, v14, xg⟩ w dx ⟨h, hik, hs⟩
 refine nG ?_
 refine aa (dP rfl rfl) (nN ?_)
 refine aP (iE rfl (fun e21 => ?_) (fun e21 => ?_))
 refine aF (ak ?_)
 obtain ⟨Ah, e22a, e22b⟩ := fV (hik ▸ e21)
 rw [e22b, iT] at hs
 generalize hnx20 : eO (jo y1) (iA N y1 a) (i17 + 1) (y1.drop (k16 + 1)) = Ki at hs
 have e22r := gp ((h.mM 1 rfl)).bV hik e21
 refine bW (σ := Value × List eU) (inl (rg 6 6 ++ rg 26 36)) (fun ⟨v23, y24⟩ => []) (fun ⟨v23, y24⟩ w => SH w0 M BE w (hset [(1, .rd nY u3 y1), (2, .blk b6 [u3]), (3, .blk b7 [v23]), (7, .own iU 113 v23 y24)]) ∧ lG Ki y24 = some r) ?_ ?_
 rintro ⟨v23, y24⟩ w dx ⟨h, hs⟩
 refine aC (aa (dw rfl rfl e22r) (aa (ag (v := (I6 ((i17 + 1)))) rfl) (az (au ?_))))
 subst hnx20
 exact jV ⟨k16 + 1, i17 + 1, v23, y24⟩ ⟨h.cn _, by omega, hs⟩ (by have := rq e21; dsimp only; omega)
 refine aO (nG (aa (ag (v := (I6 i17)) rfl) ?_))
 obtain ⟨b26, o27, Yv, h, r29, i25⟩ := h.Fj 1 8 rfl eF rfl (iO hik) (gm hik e22a)
 obtain rfl := r29
 refine aa (i25 _ _ _ _ _ _ _ _ _ rfl rfl) (aa (dZ (k := 0) h 8 rfl zw rfl rfl) (aa (ae (v := (I6 i17)) rfl) (aa (ae (v := (aV Ah)) rfl) (nN (bW (σ := Bool) (inl (rg 29 9)) (fun x30 => [(37, (.bool (x30)))]) (fun x30 w => SH w0 M BE w (hset [(1, .rd nY u3 y1), (2, .blk b6 [u3]), (3, .blk b7 [v14]), (7, .own iU 113 v14 xg)]) ∧ lH y1 i17 xg Ki x30 = some r) ?_ ?_)))))
 rintro x30 w dx ⟨h, hs⟩
 refine aG hs rfl (fun c31 hs => ?_) (fun c31 hs => ?_)
 refine nG (aa (aB h 2 rfl mI rfl rfl) (aa (ag (v := (I6 i17)) rfl) (aa (dw rfl rfl e22r) ?_)))
 obtain ⟨x32, e33, hs⟩ := aJ hs
 obtain ⟨b35, o36, cs37, h, r38, i34⟩ := h.Fj 1 9 rfl eF rfl (aH e33).1 (aH e33).2
 obtain rfl := r38
 refine aa (i34 _ _ _ _ _ _ _ _ _ rfl rfl) (aa (dZ (k := 0) h 9 rfl zw rfl rfl) ?_)
 obtain ⟨y39, e40, hs⟩ := aJ hs
 refine aS Ex rfl rfl (qi _ _ h.lt (hT.go h.keep) x32 _ e40) ?_
 rintro _ w ⟨k43, u41, rfl, g42⟩
 refine ⟨_, rfl, ?_⟩
 replace h := h.grow k43
 refine aa (ag (v := (.tuple #[(I6 y39.1), u41])) rfl) (aa (aU rfl rfl) (aa (aU rfl rfl) (aa (ae (v := (I6 y39.1)) rfl) (aa (ae (v := u41) rfl) (nJ (aa (aB h 2 rfl mI rfl rfl) (aa (ag (v := (I6 i17)) rfl) ?_)))))))
 obtain ⟨a44, hs⟩ := bg hs
 refine aa (dw rfl rfl a44) ?_
 obtain ⟨x45, e46, hs⟩ := aJ hs
 obtain ⟨b48, o49, cs50, h, r51, i47⟩ := h.Fj 1 10 rfl eF rfl (aH e46).1 (aH e46).2
 obtain rfl := r51
 refine aa (i47 _ _ _ _ _ _ _ _ _ rfl rfl) (aa (dZ (k := 0) h 10 rfl zw rfl rfl) ?_)
 obtain ⟨yt, e53, hs⟩ := aJ hs
 refine aS Ex rfl rfl (qi _ _ h.lt (hT.go h.keep) x45 _ e53) ?_
 rintro _ w ⟨k56, V5, rfl, g55⟩
 refine ⟨_, rfl, ?_⟩
 replace h := h.grow k56
 refine aa (ag (v := (.tuple #[(I6 yt.1), V5])) rfl) (aa (aU rfl rfl) (aa (aU rfl rfl) (aa (ae (v := (I6 yt.1)) rfl) (aa (ae (v := V5) rfl) (nN (aC (aa (aB h 3 rfl zu rfl rfl) (aa (ag (v := (I6 y39.1)) rfl) (aa (ag (v := (I6 yt.1)) rfl) (aa (dQ (pv := [(0, (I6 y39.1)), (1, (I6 yt.1))]) (out := [(I6 y39.1), (I6 yt.1), (.slice none 0 0)]) SC rfl ⟨0, 1, [(I6 y39.1)], rfl, rfl, rfl, bD rfl, ⟨1, 1, [(I6 yt.1)], rfl, rfl, rfl, bD rfl, rfl⟩⟩) (uQ (R := iU) (vs := [(.agg #[(I6 y39.1), (I6 yt.1), (.slice none 0 0)])]) (xs := [(⟨y39.1, yt.1, []⟩ : eU)]) h 11 ND rfl rfl rfl ⟨⟨_, rfl, gB.nil⟩, trivial⟩ rfl fun w u57 h => ?_)))))))))))
 obtain ⟨a58, hs⟩ := bg hs
 refine mo (R := iU) (m := [(⟨y39.1, yt.1, []⟩ : eU)]) h 7 rfl (h.dV 11 rfl) ND rfl rfl rfl a58.1 a58.2 fun w u59 h => fA h 3 [u59] rfl zu rfl rfl rfl rfl (h.dD 7 rfl).one fun w h => az (ax (au ?_))
 exact bP (u59, (xg ++ [(⟨y39.1, yt.1, []⟩ : eU)])) ⟨h.cn _, hs⟩
 refine aF (ax (au ?_))
 exact bP (v14, xg) ⟨h.cn _, hs⟩
 refine aC (aa (ag (v := (aV Ah)) rfl) (aa (Fu rfl rfl) (aa (ag (v := (.bool (decide ((Ah : Str) = [102, 117, 110])))) rfl) (jf (b := decide ((Ah : Str) = [102, 117, 110])) hs (fun SY hs => ?_) (fun SY hs => ?_)))))
 refine dH rfl (cB SY) (aa (ag (v := (I6 i17)) rfl) (dH rfl (cB SY) ?_))
 obtain ⟨a61, hs⟩ := bg hs
 refine aa (dw rfl rfl a61) (dH rfl (cB SY) (aa (aB h 2 rfl mI rfl rfl) (dH rfl (cB SY) (aa (bS eF rfl (h.mM 1 rfl)) (dH rfl (cB SY) (aa (dP rfl rfl) (aa (dn (b := true) (v := (.bool (decide (((i17 + 2) : Int) < (y1.length : Int))))) (cB SY) rfl) (az (au ?_)))))))))
 exact bP (decide (((i17 + 2) : Int) < (y1.length : Int))) ⟨h.cn _, hs⟩
 refine vB rfl (cB SY) rfl (vB rfl (cB SY) rfl (vB rfl (cB SY) rfl (vB rfl (cB SY) rfl (vB rfl (cB SY) rfl (aa (dn (b := false) (v := (.bool (false))) (cB SY) rfl) (az (au ?_)))))))
 exact bP false ⟨h.cn _, hs⟩
 rw [fZ (hik ▸ e21), ni] at hs
 refine gV (bA (bA (dE (ak (aP (nG (aa (aB h 3 rfl zu rfl rfl) (aa (bS iH rfl (h.dV 7 rfl)) (aa (bz rfl rfl) (aa (ag (v := (.bool (decide (((xg.length : Int) : Int) = 0)))) rfl) (aA rfl rfl (fun q => aB h 3 rfl zu rfl rfl) (aA rfl rfl (fun q => bS iH (dz q) (h.dV 7 rfl)) (aA rfl rfl (fun q => jT (dz q) rfl) (aa (gW rfl rfl lX) (nN (aG hs rfl (fun c62 hs => ?_) (fun c62 hs => ?_)))))))))))))))))
 refine nG (aa (ae (v := (.slice none 0 0)) rfl) (aa (ae (v := (I6 1)) rfl) (nR (ay (Fp (v1 := (.slice none 0 0)) (v2 := (I6 1)) Tryz.results77 rfl rfl ?_)))))
 obtain rfl := fJ hs
 exact ⟨h.grown, _, rfl, dW.nil, mh⟩
 refine aF (ak (aP (nG (aa (aB h 3 rfl zu rfl rfl) (aa (bS iH rfl (h.dV 7 rfl)) (aa (ag (v := (I6 0)) rfl) (nN (aO ?_))))))))
 have hli64 := (h.dV 7 rfl).bV
 refine gF (σ := Nat × Int) (inl ([2, 3, 13] ++ rg 73 9)) (fun ⟨XJ, i64⟩ => [(73, (I6 i64))]) (fun ⟨XJ, i64⟩ w => SH w0 M BE w (hset [(1, .rd nY u3 y1), (2, .blk b6 [u3]), (3, .blk b7 [v14]), (7, .own iU 113 v14 xg)]) ∧ i64 = (XJ : Int) ∧ upto (jm xg) (iy N y1 a xg) i64 (((xg.length : Int)).toNat - XJ) () = some r) (fun ⟨XJ, i64⟩ => ((xg.length : Int)).toNat - XJ) ⟨0, 0⟩ ⟨rfl, trivial⟩ ?_ ?_
 exact ⟨h.cn _, rfl, hs⟩
 rintro ⟨XJ, i64⟩ w dx ⟨h, hik, hs⟩
 refine nG ?_
 refine aa (dP rfl rfl) (nN ?_)
 refine aP (iE rfl (fun Yk => ?_) (fun Yk => ?_))
 refine aF (ak ?_)
 rw [vw (by have := rq Yk; omega)] at hs
 generalize hnx67 : upto (jm xg) (iy N y1 a xg) (i64 + 1) (((xg.length : Int)).toNat - (XJ + 1)) = nx67 at hs
 have e69r : jN (i64 + 1) := (by have := rq Yk; have := hli64; exact jN.mk (by omega) (by omega))
 refine aP (aO (nG ?_))
 obtain ⟨Yu, V6, hs⟩ := aJ hs
 obtain ⟨b73, q74, i72⟩ := h.xy 7 rfl iH rfl (aH V6).1 (aH V6).2
 refine aa (i72 _ _ _ _ _ _ _ _ _ rfl rfl) ?_
 obtain ⟨cs75, m76, r77⟩ := h.Af 7 rfl q74 (aH V6).2
 obtain ⟨M9, rfl, g79⟩ := sG r77
 replace h := h.bX 12 g79
 refine aa (pI (k := 0) (vs := [(I6 Yu.params), (I6 Yu.locals), M9]) m76 lS rfl rfl rfl (bD rfl)) (bU h 13 lS fun w b80 h => dm (vs := [(I6 Yu.params), (I6 Yu.locals), M9]) h 13 [(I6 Yu.params), (I6 Yu.locals), M9] rfl lS rfl rfl rfl rfl rfl (ai rfl (ai rfl (ai (h.fo 12 rfl).one aR))) fun w h => nJ (aa (ah vN rfl) (aa (aB h 13 rfl aW rfl rfl) (aS yN rfl rfl (gQ _ _ h.lt Yu.params 0 3 _ rfl) ?_))))
 rintro _ w ⟨k81, rfl⟩
 refine ⟨_, rfl, ?_⟩
 replace h := h.grow k81
 refine aa (ic rfl) (nN (aG hs rfl (fun c82 hs => ?_) (fun c82 hs => ?_)))
 refine nG (aa (ae (v := (.slice none 0 0)) rfl) (aa (ae (v := (I6 1)) rfl) (nR (aD (ay (ay (aD (ay (Fp (v1 := (.slice none 0 0)) (v2 := (I6 1)) Tryz.results77 rfl rfl ?_)))))))))
 obtain rfl := fJ hs
 exact ⟨h.grown, _, rfl, dW.nil, mh⟩
 refine aF (ax (ak (aC (aa (dw rfl rfl e69r) (aa (ag (v := (I6 ((i64 + 1)))) rfl) (az (au ?_)))))))
 subst hnx67
 exact jV ⟨XJ + 1, i64 + 1⟩ ⟨h.cn _, by omega, hs⟩ (by have := rq Yk; dsimp only; omega)
 rw [vz (by have := of_decide_eq_false Yk; omega)] at hs
 refine nE (qd h 14 aW fun w GM h => fA h 14 [(I6 0)] rfl aW rfl rfl rfl rfl rfl fun w h => nJ (qd h 15 yn fun w Ai h => fA h 15 [(.bool (true))] rfl yn rfl rfl rfl rfl rfl fun w h => nJ (aa (rV (c1 := []) (c2 := [(.pointer (some ⟨GM, 0, none⟩)), (.pointer (some ⟨b6, 0, none⟩)), (.pointer (some ⟨Ai, 0, none⟩))]) rfl rfl) (qd h 16 AB fun w J8 h => fA h 16 [(.func (.func 103) #[] #[(.pointer (some ⟨GM, 0, none⟩)), (.pointer (some ⟨b6, 0, none⟩)), (.pointer (some ⟨Ai, 0, none⟩))])] rfl AB rfl rfl rfl rfl rfl fun w h => nN ?_))))
 refine nG (aa (rV (c1 := []) (c2 := [(.pointer (some ⟨Ai, 0, none⟩)), (.pointer (some ⟨J8, 0, none⟩)), (.pointer (some ⟨b7, 0, none⟩))]) rfl rfl) (qd h 17 Mr fun w S9 h => fA h 17 [(.func (.func 104) #[] #[(.pointer (some ⟨Ai, 0, none⟩)), (.pointer (some ⟨J8, 0, none⟩)), (.pointer (some ⟨b7, 0, none⟩))])] rfl Mr rfl rfl rfl rfl rfl fun w h => nJ (qd h 18 IA fun w RG h => nJ (aa (rV (c1 := []) (c2 := [(.pointer (some ⟨J8, 0, none⟩)), (.pointer (some ⟨Ai, 0, none⟩)), (.pointer (some ⟨S9, 0, none⟩)), (.pointer (some ⟨RG, 0, none⟩))]) rfl rfl) (fA h 18 [(.func (.func 109) #[] #[(.pointer (some ⟨J8, 0, none⟩)), (.pointer (some ⟨Ai, 0, none⟩)), (.pointer (some ⟨S9, 0, none⟩)), (.pointer (some ⟨RG, 0, none⟩))])] rfl IA rfl rfl rfl rfl rfl fun w h => nK (aa (aB h 3 rfl zu rfl rfl) (aa (bS iH rfl (h.dV 7 rfl)) (aa (ag (v := (I6 0)) rfl) ?_))))))))
 refine nN (aO ?_)
 have hli101 := (h.dV 7 rfl).bV
 refine gF (σ := Nat × Int × List eU × Int × Bool) (inl ([19] ++ rg 87 17)) (fun ⟨NV, i101, rC, y98, y99⟩ => [(87, (I6 i101))]) (fun ⟨NV, i101, rC, y98, y99⟩ w => SH w0 M BE w (hset [(1, .rd nY u3 y1), (2, .blk b6 [u3]), (3, .blk b7 [v14]), (7, .own iU 113 v14 rC), (14, .blk GM [(I6 y98)]), (15, .blk Ai [(.bool (y99))]), (16, .blk J8 [(.func (.func 103) #[] #[(.pointer (some ⟨GM, 0, none⟩)), (.pointer (some ⟨b6, 0, none⟩)), (.pointer (some ⟨Ai, 0, none⟩))])]), (17, .blk S9 [(.func (.func 104) #[] #[(.pointer (some ⟨Ai, 0, none⟩)), (.pointer (some ⟨J8, 0, none⟩)), (.pointer (some ⟨b7, 0, none⟩))])]), (18, .blk RG [(.func (.func 109) #[] #[(.pointer (some ⟨J8, 0, none⟩)), (.pointer (some ⟨Ai, 0, none⟩)), (.pointer (some ⟨S9, 0, none⟩)), (.pointer (some ⟨RG, 0, none⟩))])])]) ∧ i101 = (NV : Int) ∧ upto (iw N y1) (jl N y1 a) i101 (((xg.length : Int)).toNat - NV) (rC, y98, y99) = some r) (fun ⟨NV, i101, rC, y98, y99⟩ => ((xg.length : Int)).toNat - NV) ⟨0, 0, xg, 0, true⟩ ⟨rfl, trivial⟩ ?_ ?_
 exact ⟨h.cn _, rfl, hs⟩
 rintro ⟨NV, i101, rC, y98, y99⟩ w dx ⟨h, hik, hs⟩
 refine nG ?_
 refine aa (dP rfl rfl) (nN ?_)
 refine aP (iE rfl (fun MB => ?_) (fun MB => ?_))
 refine aF (ak ?_)
 rw [vw (by have := rq MB; omega)] at hs
 generalize hnx104 : upto (iw N y1) (jl N y1 a) (i101 + 1) (((xg.length : Int)).toNat - (NV + 1)) = kK at hs
 have e106r : jN (i101 + 1) := (by have := rq MB; have := hli101; exact jN.mk (by omega) (by omega))
 refine aP (aO (nG (aa (ag (v := (I6 i101)) rfl) (aa (ae (v := (I6 i101)) rfl) (nN (bW (σ := Int × Bool) (inl [90, 91, 92]) (fun ⟨pq, ME⟩ => []) (fun ⟨pq, ME⟩ w => SH w0 M BE w (hset [(1, .rd nY u3 y1), (2, .blk b6 [u3]), (3, .blk b7 [v14]), (7, .own iU 113 v14 rC), (14, .blk GM [(I6 pq)]), (15, .blk Ai [(.bool (ME))]), (16, .blk J8 [(.func (.func 103) #[] #[(.pointer (some ⟨GM, 0, none⟩)), (.pointer (some ⟨b6, 0, none⟩)), (.pointer (some ⟨Ai, 0, none⟩))])]), (17, .blk S9 [(.func (.func 104) #[] #[(.pointer (some ⟨Ai, 0, none⟩)), (.pointer (some ⟨J8, 0, none⟩)), (.pointer (some ⟨b7, 0, none⟩))])]), (18, .blk RG [(.func (.func 109) #[] #[(.pointer (some ⟨J8, 0, none⟩)), (.pointer (some ⟨Ai, 0, none⟩)), (.pointer (some ⟨S9, 0, none⟩)), (.pointer (some ⟨RG, 0, none⟩))])])]) ∧ il N y1 rC i101 kK pq ME = some r) ?_ ?_))))))
 rintro ⟨pq, ME⟩ w dx ⟨h, hs⟩
 refine bW (σ := Int × Bool) (inl [93, 94]) (fun ⟨yR, MC⟩ => []) (fun ⟨yR, MC⟩ w => SH w0 M BE w (hset [(1, .rd nY u3 y1), (2, .blk b6 [u3]), (3, .blk b7 [v14]), (7, .own iU 113 v14 rC), (14, .blk GM [(I6 yR)]), (15, .blk Ai [(.bool (MC))]), (16, .blk J8 [(.func (.func 103) #[] #[(.pointer (some ⟨GM, 0, none⟩)), (.pointer (some ⟨b6, 0, none⟩)), (.pointer (some ⟨Ai, 0, none⟩))])]), (17, .blk S9 [(.func (.func 104) #[] #[(.pointer (some ⟨Ai, 0, none⟩)), (.pointer (some ⟨J8, 0, none⟩)), (.pointer (some ⟨b7, 0, none⟩))])]), (18, .blk RG [(.func (.func 109) #[] #[(.pointer (some ⟨J8, 0, none⟩)), (.pointer (some ⟨Ai, 0, none⟩)), (.pointer (some ⟨S9, 0, none⟩)), (.pointer (some ⟨RG, 0, none⟩))])])]) ∧ ik N y1 rC i101 kK yR MC = some r) ?_ ?_
 rintro ⟨yR, MC⟩ w dx ⟨h, hs⟩
 refine bW (σ := Int × Bool) (inl [95, 96]) (fun ⟨Hd, y112⟩ => []) (fun ⟨Hd, y112⟩ w => SH w0 M BE w (hset [(1, .rd nY u3 y1), (2, .blk b6 [u3]), (3, .blk b7 [v14]), (7, .own iU 113 v14 rC), (14, .blk GM [(I6 Hd)]), (15, .blk Ai [(.bool (y112))]), (16, .blk J8 [(.func (.func 103) #[] #[(.pointer (some ⟨GM, 0, none⟩)), (.pointer (some ⟨b6, 0, none⟩)), (.pointer (some ⟨Ai, 0, none⟩))])]), (17, .blk S9 [(.func (.func 104) #[] #[(.pointer (some ⟨Ai, 0, none⟩)), (.pointer (some ⟨J8, 0, none⟩)), (.pointer (some ⟨b7, 0, none⟩))])]), (18, .blk RG [(.func (.func 109) #[] #[(.pointer (some ⟨J8, 0, none⟩)), (.pointer (some ⟨Ai, 0, none⟩)), (.pointer (some ⟨S9, 0, none⟩)), (.pointer (some ⟨RG, 0, none⟩))])])]) ∧ ig N y1 rC i101 kK Hd y112 = some r) ?_ ?_
 rintro ⟨Hd, y112⟩ w dx ⟨h, hs⟩
 refine ky (L := (fun b => b = GM ∨ b = Ai ∨ ob v14 b)) mixed h fun w h => bB 0 (aI.refl _ _) rfl aj (by kernel_rfl) (by kernel_rfl) (by kernel_rfl) (fun w hk => have h := h.U6 14 15 7 (by decide) (by decide) (by decide) rfl rfl rfl hk; aB h 3 rfl zu rfl rfl) (bB 1 (aI.refl _ _) rfl aj (by kernel_rfl) (by kernel_rfl) (by kernel_rfl) (fun w hk => ag (v := (I6 i101)) rfl) (bB 2 (aI.refl _ _) rfl aj (by kernel_rfl) (by kernel_rfl) (by kernel_rfl) (fun w hk => have h := h.U6 14 15 7 (by decide) (by decide) (by decide) rfl rfl rfl hk; aB h 18 rfl IA rfl rfl) ?_))
 obtain ⟨ws123, V7⟩ : ∃ x, x = w := ⟨_, rfl⟩
 have GN : aI (fun b => b = GM ∨ b = Ai ∨ ob v14 b) ws123 w := V7 ▸ aI.refl (fun b => b = GM ∨ b = Ai ∨ ob v14 b) w
 refine qX V7.symm (bF 3 (by kernel_rfl) rfl aj ?_)
 replace h := h.pair 14 15 (by decide)
 obtain ⟨Qa, Qb, Qc⟩ := h.xH 14 (C := (.two (.blk GM [(I6 Hd)]) (.blk Ai [(.bool (y112))]) : Chunk)) rfl ⟨trivial, trivial⟩
 obtain ⟨j6, Ta, hs⟩ := aJ hs
 refine aS Mj rfl rfl (P9 N _ _ Qc (hT.go h.keep) GM Ai b6 J8 b7 S9 RG (⟨Hd, y112⟩ : dM) Qa Qb u3 y1 (h.Rq 14 1 rfl rfl) v14 rC (h.ownSr 14 7 (by decide) rfl rfl) (h.qV 2 rfl) (fun hb => h.apart 14 2 (by decide) _ hb rfl) (h.qV 16 rfl) (fun hb => h.apart 14 16 (by decide) _ hb rfl) (h.qV 3 rfl) (fun hb => h.apart 14 3 (by decide) _ hb rfl) (h.qV 17 rfl) (fun hb => h.apart 14 17 (by decide) _ hb rfl) (h.qV 18 rfl) (fun hb => h.apart 14 18 (by decide) _ hb rfl) 1 (h.Ip hT (fun _ h => h.elim) 14 (C := (.two (.blk GM [(I6 Hd)]) (.blk Ai [(.bool (y112))]) : Chunk)) rfl) _ Ta) ?_
 rintro _ w ⟨KV, uq122x3_4, rfl, Tc, Td, Te⟩
 refine ⟨_, rfl, ?_⟩
 replace h := h.back 14 (C := (.two (.blk GM [(I6 Hd)]) (.blk Ai [(.bool (y112))]) : Chunk)) (C' := (.two (.blk GM [(I6 j6.2.at_)]) (.blk Ai [(.bool (j6.2.ok))]) : Chunk)) rfl ⟨trivial, trivial⟩ Tc KV Td
 replace h := h.bX 55 (Iu Te)
 replace h := h.bG 14 15 (by decide) rfl rfl
 replace GN := aI.step GN KV (fun _ hx _ => hx.elim (fun hx => .inl (hx)) (fun hx => .inr (.inl (hx))))
 refine az (aQ GN ?_)
 obtain ⟨xz, FH, hs⟩ := aJ hs
 obtain ⟨bq122x4_4, Tf, Tg⟩ := h.xy 7 rfl iH rfl (aH FH).1 (aH FH).2
 refine cO 4 GN rfl (by kernel_rfl) (fun w hk => Tg _ _ _ _ _ _ _ _ _ rfl rfl) (cO 5 GN rfl (by kernel_rfl) (fun w hk => ah BK rfl) (bF 6 (by kernel_rfl) rfl aj (UT (a' := { xz with body := j6.1 }) h 7 rfl Tf rfl (aH FH).2 pK rfl rfl (h.fo 55 rfl).one rfl (by rintro _ hq; obtain ⟨p2, rfl, q2⟩ := sG hq; exact ⟨_, rfl, (h.fo 55 rfl)⟩) fun w h Ti => ?_)))
 replace GN := aI.step GN Ti (fun _ hx _ => .inr (.inr (hx)))
 refine az (aQ GN (fB (by kernel_rfl) (ax (ak (aC (aa (dw rfl rfl e106r) (aa (ag (v := (I6 ((i101 + 1)))) rfl) (az (au ?_)))))))))
 subst hnx104
 exact jV ⟨NV + 1, i101 + 1, (rC.set (i101).toNat { xz with body := j6.1 }), j6.2.at_, j6.2.ok⟩ ⟨h.cn _, by omega, hs⟩ (by have := rq MB; dsimp only; omega)
 refine aC (aa (aB h 16 rfl AB rfl rfl) (jK (args := [(.pointer (some ⟨GM, 0, none⟩)), (.pointer (some ⟨b6, 0, none⟩)), (.pointer (some ⟨Ai, 0, none⟩))]) Az rfl rfl (aN (args := [(.pointer (some ⟨GM, 0, none⟩)), (.pointer (some ⟨b6, 0, none⟩)), (.pointer (some ⟨Ai, 0, none⟩))]) Tryz.func103 rfl Tryz.ntmps103 (bD rfl) (nG (aa (ae (v := (aV [])) rfl) (nK (aa (aB h 14 rfl aW rfl rfl) (aa (aB h 2 rfl mI rfl rfl) (aa (bS eF rfl (h.mM 1 rfl)) (aa (pX rfl rfl) (nN (aG hs rfl (fun rZ hs => ?_) (fun rZ hs => ?_)))))))))))))
 refine nG (fA h 15 [(.bool (false))] rfl yn rfl rfl rfl rfl rfl fun w h => nJ (aa (ae (v := (aV [])) rfl) (nR (ay (bQ (v := (aV [])) Tryz.results103 rfl (⟨_, rfl, ?_⟩))))))
 refine az (au ?_)
 exact bP (yR, false) ⟨h.cn _, hs⟩
 refine nS (aa (aB h 14 rfl aW rfl rfl) ?_)
 obtain ⟨a126, hs⟩ := bg hs
 refine aa (dw rfl rfl a126) (fA h 14 [(I6 ((yR + 1)))] rfl aW rfl rfl rfl rfl rfl fun w h => nJ (aa (aB h 2 rfl mI rfl rfl) (aa (aB h 14 rfl aW rfl rfl) ?_)))
 obtain ⟨a127, hs⟩ := bg hs
 refine aa (mZ rfl rfl a127) ?_
 obtain ⟨Yq, e129, hs⟩ := aJ hs
 obtain ⟨b131, o132, cs133, h, r134, i130⟩ := h.Fj 1 115 rfl eF rfl (aH e129).1 (aH e129).2
 obtain rfl := r134
 refine aa (i130 _ _ _ _ _ _ _ _ _ rfl rfl) (aa (dZ (k := 0) h 115 rfl zw rfl rfl) (aa (ae (v := (aV Yq)) rfl) (nR (bQ (v := (aV Yq)) Tryz.results103 rfl (⟨_, rfl, ?_⟩)))))
 refine az (au ?_)
 exact bP ((yR + 1), MC) ⟨h.cn _, hs⟩
 refine aC (aa (aB h 16 rfl AB rfl rfl) (jK (args := [(.pointer (some ⟨GM, 0, none⟩)), (.pointer (some ⟨b6, 0, none⟩)), (.pointer (some ⟨Ai, 0, none⟩))]) Az rfl rfl (aN (args := [(.pointer (some ⟨GM, 0, none⟩)), (.pointer (some ⟨b6, 0, none⟩)), (.pointer (some ⟨Ai, 0, none⟩))]) Tryz.func103 rfl Tryz.ntmps103 (bD rfl) (nG (aa (ae (v := (aV [])) rfl) (nK (aa (aB h 14 rfl aW rfl rfl) (aa (aB h 2 rfl mI rfl rfl) (aa (bS eF rfl (h.mM 1 rfl)) (aa (pX rfl rfl) (nN (aG hs rfl (fun c135 hs => ?_) (fun c135 hs => ?_)))))))))))))
 refine nG (fA h 15 [(.bool (false))] rfl yn rfl rfl rfl rfl rfl fun w h => nJ (aa (ae (v := (aV [])) rfl) (nR (ay (bQ (v := (aV [])) Tryz.results103 rfl (⟨_, rfl, ?_⟩))))))
 refine az (au ?_)
 exact bP (pq, false) ⟨h.cn _, hs⟩
 refine nS (aa (aB h 14 rfl aW rfl rfl) ?_)
 obtain ⟨a136, hs⟩ := bg hs
 refine aa (dw rfl rfl a136) (fA h 14 [(I6 ((pq + 1)))] rfl aW rfl rfl rfl rfl rfl fun w h => nJ (aa (aB h 2 rfl mI rfl rfl) (aa (aB h 14 rfl aW rfl rfl) ?_)))
 obtain ⟨a137, hs⟩ := bg hs
 refine aa (mZ rfl rfl a137) ?_
 obtain ⟨Yr, Tj, hs⟩ := aJ hs
 obtain ⟨b141, o142, cs143, h, r144, i140⟩ := h.Fj 1 116 rfl eF rfl (aH Tj).1 (aH Tj).2
 obtain rfl := r144
 refine aa (i140 _ _ _ _ _ _ _ _ _ rfl rfl) (aa (dZ (k := 0) h 116 rfl zw rfl rfl) (aa (ae (v := (aV Yr)) rfl) (nR (bQ (v := (aV Yr)) Tryz.results103 rfl (⟨_, rfl, ?_⟩)))))
 refine az (au ?_)
 exact bP ((pq + 1), ME) ⟨h.cn _, hs⟩
 refine bW (σ := Bool × Int × Bool) (inl [90, 91, 92]) (fun ⟨NU, He, mJ⟩ => [(92, (.bool (NU)))]) (fun ⟨NU, He, mJ⟩ w => SH w0 M BE w (hset [(1, .rd nY u3 y1), (2, .blk b6 [u3]), (3, .blk b7 [v14]), (7, .own iU 113 v14 rC), (14, .blk GM [(I6 He)]), (15, .blk Ai [(.bool (mJ))]), (16, .blk J8 [(.func (.func 103) #[] #[(.pointer (some ⟨GM, 0, none⟩)), (.pointer (some ⟨b6, 0, none⟩)), (.pointer (some ⟨Ai, 0, none⟩))])]), (17, .blk S9 [(.func (.func 104) #[] #[(.pointer (some ⟨Ai, 0, none⟩)), (.pointer (some ⟨J8, 0, none⟩)), (.pointer (some ⟨b7, 0, none⟩))])]), (18, .blk RG [(.func (.func 109) #[] #[(.pointer (some ⟨J8, 0, none⟩)), (.pointer (some ⟨Ai, 0, none⟩)), (.pointer (some ⟨S9, 0, none⟩)), (.pointer (some ⟨RG, 0, none⟩))])])]) ∧ iq N y1 rC i101 kK NU He mJ = some r) ?_ ?_
 rintro ⟨NU, He, mJ⟩ w dx ⟨h, hs⟩
 refine aG hs rfl (fun c148 hs => ?_) (fun c148 hs => ?_)
 refine aC (fA h 15 [(.bool (false))] rfl yn rfl rfl rfl rfl rfl fun w h => az (au ?_))
 exact bP (He, false) ⟨h.cn _, hs⟩
 refine aF (au ?_)
 exact bP (He, mJ) ⟨h.cn _, hs⟩
 refine aC (aa (aB h 16 rfl AB rfl rfl) (jK (args := [(.pointer (some ⟨GM, 0, none⟩)), (.pointer (some ⟨b6, 0, none⟩)), (.pointer (some ⟨Ai, 0, none⟩))]) Az rfl rfl (aN (args := [(.pointer (some ⟨GM, 0, none⟩)), (.pointer (some ⟨b6, 0, none⟩)), (.pointer (some ⟨Ai, 0, none⟩))]) Tryz.func103 rfl Tryz.ntmps103 (bD rfl) (nG (aa (ae (v := (aV [])) rfl) (nK (aa (aB h 14 rfl aW rfl rfl) (aa (aB h 2 rfl mI rfl rfl) (aa (bS eF rfl (h.mM 1 rfl)) (aa (pX rfl rfl) (nN (aG hs rfl (fun c149 hs => ?_) (fun c149 hs => ?_)))))))))))))
 refine nG (fA h 15 [(.bool (false))] rfl yn rfl rfl rfl rfl rfl fun w h => nJ (aa (ae (v := (aV [])) rfl) (nR (ay (bQ (v := (aV [])) Tryz.results103 rfl (⟨_, rfl, ?_⟩))))))
 refine aa (Im rfl rfl) (az (au ?_))
 exact bP (true, y98, false) ⟨h.cn _, hs⟩
 refine nS (aa (aB h 14 rfl aW rfl rfl) ?_)
 obtain ⟨a150, hs⟩ := bg hs
 refine aa (dw rfl rfl a150) (fA h 14 [(I6 ((y98 + 1)))] rfl aW rfl rfl rfl rfl rfl fun w h => nJ (aa (aB h 2 rfl mI rfl rfl) (aa (aB h 14 rfl aW rfl rfl) ?_)))
 obtain ⟨a151, hs⟩ := bg hs
 refine aa (mZ rfl rfl a151) ?_
 obtain ⟨x152, e153, hs⟩ := aJ hs
 obtain ⟨b155, o156, cs157, h, r158, i154⟩ := h.Fj 1 117 rfl eF rfl (aH e153).1 (aH e153).2
 obtain rfl := r158
 refine aa (i154 _ _ _ _ _ _ _ _ _ rfl rfl) (aa (dZ (k := 0) h 117 rfl zw rfl rfl) (aa (ae (v := (aV x152)) rfl) (nR (bQ (v := (aV x152)) Tryz.results103 rfl (⟨_, rfl, ?_⟩)))))
 refine aa (Im rfl rfl) (az (au ?_))
 exact bP (decide ((x152 : Str) ≠ [102, 117, 110]), (y98 + 1), y99) ⟨h.cn _, hs⟩
 rw [vz (by have := of_decide_eq_false MB; omega)] at hs
 refine gV (bA (bA (dE (ak (aP (bW (σ := Bool) (inl (rg 104 19)) (fun x159 => [(122, (.bool (x159)))]) (fun x159 w => SH w0 M BE w (hset [(3, .blk b7 [v14]), (7, .own iU 113 v14 rC)]) ∧ jk rC x159 = some r) ?_ ?_))))))
 rintro x159 w dx ⟨h, hs⟩
 refine aG hs rfl (fun c160 hs => ?_) (fun c160 hs => ?_)
 refine nG (aa (ae (v := (.slice none 0 0)) rfl) (aa (ae (v := (I6 1)) rfl) (nR (ay (Fp (v1 := (.slice none 0 0)) (v2 := (I6 1)) Tryz.results77 rfl rfl ?_)))))
 obtain rfl := fJ hs
 exact ⟨h.grown, _, rfl, dW.nil, mh⟩
 refine nS (aa (aB h 3 rfl zu rfl rfl) (aa (ae (v := v14) rfl) (aa (ae (v := (I6 0)) rfl) (nR (Fp (v1 := v14) (v2 := (I6 0)) Tryz.results77 rfl rfl ?_)))))
 obtain rfl := fJ hs
 exact ⟨h.grown, _, rfl, (h.ng 7 rfl).1, (h.ng 7 rfl).2⟩
 refine aC (aa (aB h 15 rfl yn rfl rfl) (aa (ic rfl) (aa (ag (v := (.bool ((!y99)))) rfl) (aA rfl rfl (fun q => aB h 14 rfl aW rfl rfl) (aA rfl rfl (fun q => aB h 2 rfl mI rfl rfl) (aA rfl rfl (fun q => bS eF (dz q) (h.mM 1 rfl)) (aA rfl rfl (fun q => dP (dz q) (dz q)) (aa (gW rfl rfl lX) (aa (ag (v := (.bool (((!y99) || decide ((y98 : Int) < (y1.length : Int)))))) rfl) (jf (b := ((!y99) || decide ((y98 : Int) < (y1.length : Int)))) hs (fun MF hs => ?_) (fun MF hs => ?_)))))))))))
 refine Ph rfl (cB MF) rfl (Ph rfl (cB MF) rfl (Ph rfl (cB MF) rfl (aa (dn (b := true) (v := (.bool (true))) (cB MF) rfl) (aa (ag (v := (.bool (true))) rfl) (gy (b' := true) rfl rfl rfl (gy (b' := true) rfl rfl rfl (gy (b' := true) rfl rfl rfl (gy (b' := true) rfl rfl rfl (aa (dn (b := true) (v := (.bool (true))) rfl rfl) (az (au ?_)))))))))))
 exact bP true ⟨h.cn _, hs⟩
 refine dH rfl (cB MF) (aa (aB h 3 rfl zu rfl rfl) (dH rfl (cB MF) ?_))
 obtain ⟨V4, e163, hs⟩ := aJ hs
 refine aS Yb rfl rfl (yo N _ _ h.lt v14 rC (h.dV 7 rfl) _ e163) ?_
 rintro _ w ⟨k164, rfl⟩
 refine ⟨_, rfl, ?_⟩
 replace h := h.grow k164
 refine dH rfl (cB MF) (aa (gN rfl rfl) (aa (dn (b := false) (v := (.bool (decide ((V4 : Int) ≠ 0)))) (cB MF) rfl) (aa (ag (v := (.bool (decide ((V4 : Int) ≠ 0)))) rfl) (jf (b := decide ((V4 : Int) ≠ 0)) hs (fun IP hs => ?_) (fun IP hs => ?_)))))
 refine Ph rfl (cB IP) rfl (Ph rfl (cB IP) rfl (Ph rfl (cB IP) rfl (Ph rfl (cB IP) rfl (aa (dn (b := true) (v := (.bool (true))) (cB IP) rfl) (az (au ?_))))))
 exact bP true ⟨h.cn _, hs⟩
 refine dH rfl (cB IP) (aa (aB h 3 rfl zu rfl rfl) (dH rfl (cB IP) ?_))
 obtain ⟨Yt, e167, hs⟩ := aJ hs
 refine aS Yc rfl rfl (yP N _ _ h.lt (hT.go h.keep) v14 rC (h.dV 7 rfl) _ e167) ?_
 rintro _ w ⟨k168, rfl⟩
 refine ⟨_, rfl, ?_⟩
 replace h := h.grow k168
 refine dH rfl (cB IP) (aa (ag (v := (aV a)) rfl) (dH rfl (cB IP) (aa (Im rfl rfl) (aa (dn (b := false) (v := (.bool (decide ((Yt : Str) ≠ a)))) (cB IP) rfl) (az (au ?_))))))
 exact bP (decide ((Yt : Str) ≠ a)) ⟨h.cn _, hs⟩
def kz (N : Nat) : Option (List eU) :=
  (kF N [102, 117, 110, 32, 48, 32, 49, 32, 123, 32, 115, 101, 116, 32, 48, 32, 51, 32, 119, 104, 105, 108, 101, 32, 118, 48, 32, 123, 32, 115, 97, 121, 32, 102, 49, 32, 118, 48, 32, 118, 48, 32, 103, 111, 32, 118, 48, 32, 112, 97, 117, 115, 101, 32, 115, 101, 116, 32, 48, 32, 45, 32, 118, 48, 32, 49, 32, 125, 32, 125, 32, 102, 117, 110, 32, 50, 32, 50, 32, 123, 32, 114, 101, 116, 117, 114, 110, 32, 42, 32, 118, 48, 32, 118, 49, 32, 125]).bind fun y1 => some y1.1
theorem Bp (N : Nat) (w0 : World) (M : BS) (hM : ∀ b, M b → b < w0.heap.size) (hT : vK Tryz.prog 4 w0)  (r : List eU) (hs : kz N = some r) :
    Calls Tryz.prog 40 #[] w0 (fun e w' => Grow w0 w' ∧ ∃ u0, e = .returned (u0) ∧ dW iU 113 w' M u0 r ∧ (∀ b, ob u0 b → w0.heap.size ≤ b)) := by
 refine aN (args := []) Tryz.func40 rfl Tryz.ntmps40 (bD rfl) ?_
 have h := SH.init hM
 refine nG (aa (ae (v := (.slice none 0 0)) rfl) (nJ ?_))
 obtain ⟨y1, e2, hs⟩ := aJ hs
 refine aS aat rfl rfl (yS N _ _ h.lt (hT.go h.keep) [102, 117, 110, 32, 48, 32, 49, 32, 123, 32, 115, 101, 116, 32, 48, 32, 51, 32, 119, 104, 105, 108, 101, 32, 118, 48, 32, 123, 32, 115, 97, 121, 32, 102, 49, 32, 118, 48, 32, 118, 48, 32, 103, 111, 32, 118, 48, 32, 112, 97, 117, 115, 101, 32, 115, 101, 116, 32, 48, 32, 45, 32, 118, 48, 32, 49, 32, 125, 32, 125, 32, 102, 117, 110, 32, 50, 32, 50, 32, 123, 32, 114, 101, 116, 117, 114, 110, 32, 42, 32, 118, 48, 32, 118, 49, 32, 125] _ e2) ?_
 rintro _ w ⟨k6, u3, rfl, g4, g5⟩
 refine ⟨_, rfl, ?_⟩
 replace h := h.jO 1 k6 g4 g5
 refine aa (ag (v := (.tuple #[u3, (I6 y1.2)])) rfl) (aa (aU rfl rfl) (aa (aU rfl rfl) (aa (ae (v := u3) rfl) (aa (ae (v := (I6 y1.2)) rfl) (nJ (aa (ag (v := u3) rfl) (aa (ae (v := u3) rfl) (nR (bQ (v := u3) Tryz.results40 rfl ?_)))))))))
 obtain rfl := fJ hs
 exact ⟨h.grown, _, rfl, (h.ng 1 rfl).1, (h.ng 1 rfl).2⟩
def fG (x31 : List Ins) (c : Int) (x34 : Int) (Aj : Int) (NW : Int) (vD : Int) (CL : List Int) : Option (List Ins × Int) :=
  gL (Room 56 x31 [(⟨Aj, c, NW, vD, CL⟩ : Ins)]) (some ((x31 ++ [(⟨Aj, c, NW, vD, CL⟩ : Ins)]), x34))
def pQ (F0 : List Tok → List eU → Int → Option (List Ins × Int)) (y9 : Int) (a : List Tok) (c : Int) (b : List eU) (x1 : Tok) (s : List Ins × List Int × Int × Int) (V8 : List Ins × List Int × Int × Int → Option (List Ins × Int)) : Option (List Ins × Int) :=
  match s with | (x31, zy, x34, zb) => bif decide ((zb : Int) < y9) then (sub? a x34 (a.length : Int)).bind fun x44 => gL (jN (c + zb)) ((F0 x44 b (c + zb)).bind fun wI => gL (Room 56 x31 wI.1) (gL (jN (x34 + wI.2)) (gL (jN (c + zb)) (gL (Room 8 zy [(c + zb)]) (gL (jN (zb + 1)) (V8 ((x31 ++ wI.1), (zy ++ [(c + zb)]), (x34 + wI.2), (zb + 1)))))))) else bif decide ((x1.kind : Int) = 1) then fG x31 c x34 1 x1.n 0 [] else bif decide ((x1.kind : Int) = 2) then fG x31 c x34 2 x1.n 0 [] else bif decide ((x1.kind : Int) = 5) then fG x31 c x34 5 x1.n 0 [] else bif decide ((x1.kind : Int) = 3) then gL (jN (c + 1)) (fG x31 c x34 3 c (c + 1) [x1.n]) else bif decide ((x1.kind : Int) = 4) then fG x31 c x34 4 c x1.n [] else bif decide ((x1.kind : Int) = 6) then fG x31 c x34 7 x1.n 0 zy else fG x31 c x34 0 x1.n 0 []
def vZ (N : Nat) (F0 : List Tok → List eU → Int → Option (List Ins × Int)) (a : List Tok) (b : List eU) (c : Int) : Option (List Ins × Int) :=
  (idx a 0).bind fun x1 => (qK x1 b).bind fun y9 => again (pQ F0 y9 a c b x1) N ([], [], 1, 0)
def jR : Nat → List Tok → List eU → Int → Option (List Ins × Int)
  | 0 => fun _ _ _ => none
  | N + 1 => vZ N (jR N)
theorem wm : ∀ (N : Nat) (w0 : World) (M : BS) (hM : ∀ b, M b → b < w0.heap.size) (va : Value) (a : List Tok) (ha : gB kD w0 BE M va a) (vb : Value) (b : List eU) (hb : gB iU w0 BE M vb b) (c : Int) (r : List Ins × Int) (hs : jR N a b c = some r),
    Calls Tryz.prog 100 #[va, vb, (I6 c)] w0 (fun e w' => Grow w0 w' ∧ ∃ u0, e = .returned (.tuple #[u0, .int .i64 r.2]) ∧ dW jI 93 w' M u0 r.1 ∧ (∀ b, ob u0 b → w0.heap.size ≤ b)) := by
 intro N
 induction N with
 | zero => intro w0 M hM va a ha vb b hb c r hs; cases hs
 | succ N ih =>
 intro w0 M hM va a ha vb b hb c r hs
 replace hs : vZ N (jR N) a b c = some r := hs
 generalize jR N = F0 at hs ih
 refine aN (args := [va, vb, (I6 c)]) Tryz.func100 rfl Tryz.ntmps100 (bD rfl) ?_
 have h := SH.init hM
 replace h := h.fw 1 ha bC
 replace h := h.fw 2 hb (cZ bC)
 have vR := ha.bV
 have Ms := hb.bV
 refine nG (aa (ae (v := (.slice none 0 0)) rfl) (aa (ae (v := (I6 0)) rfl) (nJ (aa (ag (v := va) rfl) ?_))))
 obtain ⟨x1, e2, hs⟩ := aJ hs
 obtain ⟨b4, o5, cs6, h, r7, i3⟩ := h.zg 1 3 rfl ku rfl (aH e2).1 (aH e2).2
 obtain rfl := r7
 refine aa (i3 _ _ _ _ _ _ _ _ _ rfl rfl) (aa (jH (k := 0) (vs := [(I6 x1.kind), (I6 x1.n)]) h 3 rfl j5 rfl rfl rfl (bD rfl)) (bU h 4 j5 fun w b8 h => dm (vs := [(I6 x1.kind), (I6 x1.n)]) h 4 [(I6 x1.kind), (I6 x1.n)] rfl j5 rfl rfl rfl rfl rfl (ai rfl (ai rfl aR)) fun w h => nJ (aa (ae (v := (.slice none 0 0)) rfl) (nJ (aa (ae (v := (.slice none 0 0)) rfl) (nJ (aa (ae (v := (I6 1)) rfl) (nK ?_))))))))
 refine aa (cK (vs := [(I6 x1.kind), (I6 x1.n)]) h 4 rfl j5 rfl rfl rfl) (aa (ag (v := vb) rfl) ?_)
 obtain ⟨y9, e10, hs⟩ := aJ hs
 refine aS Mi rfl rfl (rY _ _ h.lt x1 vb b (h.gM 2 rfl) _ e10) ?_
 rintro _ w ⟨k11, rfl⟩
 refine ⟨_, rfl, ?_⟩
 replace h := h.grow k11
 refine aa (ag (v := (I6 0)) rfl) (nN (aO ?_))
 replace h := h.xC (R := jI) (E := 93) 11
 replace h := h.xC (R := dU) (E := 3) 12
 refine gF (σ := Nat × Value × List Ins × Value × List Int × Int × Int) (inl (rg 9 6 ++ rg 22 27)) (fun ⟨m39, v30, x31, v32, zy, x34, zb⟩ => [(9, v30), (10, v32), (11, (I6 x34)), (22, (I6 zb))]) (fun ⟨m39, v30, x31, v32, zy, x34, zb⟩ w => SH w0 M BE w (hset [(1, .sr kD va a), (2, .sr iU vb b), (4, .blk b8 [(I6 x1.kind), (I6 x1.n)]), (11, .own jI 93 v30 x31), (12, .own dU 3 v32 zy)]) ∧ again (pQ F0 y9 a c b x1) m39 (x31, zy, x34, zb) = some r) (fun ⟨m39, v30, x31, v32, zy, x34, zb⟩ => m39) ⟨N, (.slice none 0 0), [], (.slice none 0 0), [], 1, 0⟩ ⟨rfl, rfl, rfl, rfl, trivial⟩ ?_ ?_
 exact ⟨h.cn _, hs⟩
 rintro ⟨m39, v30, x31, v32, zy, x34, zb⟩ w dx ⟨h, hs⟩
 obtain ⟨m391, m39e, m39h⟩ := pG hs
 subst m39e
 replace hs := m39h
 generalize V9 : again (pQ F0 y9 a c b x1) m391 = V8 at hs
 refine nG (aa (dP rfl rfl) (nN (aP (aG hs rfl (fun c43 hs => ?_) (fun c43 hs => ?_)))))
 refine aF (ak (aP (aO (nG (aa (ag (v := (I6 zb)) rfl) (aa (ae (v := (I6 zb)) rfl) (nJ (aa (ag (v := va) rfl) (aa (ag (v := (I6 x34)) rfl) ?_)))))))))
 obtain ⟨x44, e45, hs⟩ := aJ hs
 obtain ⟨e48, e48a, e48b, e48c⟩ := Ni e45
 obtain ⟨u46, h, i47⟩ := h.slS 1 13 rfl ku rfl e48a e48b e48c
 rw [← e48] at h
 refine aa (i47 _ _ _ _ _ _ _ _ _ _ rfl (.inr (congrArg some rfl)) (.inl ⟨rfl, rfl⟩)) (aa (ag (v := vb) rfl) (aa (ag (v := (I6 c)) rfl) (aa (ag (v := (I6 zb)) rfl) ?_)))
 obtain ⟨a49, hs⟩ := bg hs
 refine aa (dw rfl rfl a49) ?_
 obtain ⟨wI, e51, hs⟩ := aJ hs
 refine aS Mg rfl rfl (ih _ _ h.lt u46 x44 (h.gM 13 rfl) vb b (h.gM 2 rfl) (c + zb) _ e51) ?_
 rintro _ w ⟨k55, Zl, rfl, g53, g54⟩
 refine ⟨_, rfl, ?_⟩
 replace h := h.jO 14 k55 g53 g54
 refine aa (ag (v := (.tuple #[Zl, (I6 wI.2)])) rfl) (aa (aU rfl rfl) (aa (aU rfl rfl) (aa (ae (v := Zl) rfl) (aa (ae (v := (I6 wI.2)) rfl) (nN (aC (aa (ag (v := v30) rfl) (aa (ag (v := Zl) rfl) ?_))))))))
 obtain ⟨a56, hs⟩ := bg hs
 refine mo (R := jI) (m := wI.1) h 11 rfl (h.dV 14 rfl) eT rfl rfl rfl a56.1 a56.2 fun w u57 h => aa (ag (v := (I6 x34)) rfl) (aa (ag (v := (I6 wI.2)) rfl) ?_)
 obtain ⟨a58, hs⟩ := bg hs
 refine aa (dw rfl rfl a58) (aa (ag (v := v32) rfl) (aa (ag (v := (I6 c)) rfl) (aa (ag (v := (I6 zb)) rfl) ?_)))
 obtain ⟨a59, hs⟩ := bg hs
 refine aa (dw rfl rfl a59) (uQ (R := dU) (vs := [(I6 ((c + zb)))]) (xs := [(c + zb)]) h 15 jg rfl rfl rfl ⟨rfl, trivial⟩ rfl fun w u60 h => ?_)
 obtain ⟨a61, hs⟩ := bg hs
 refine mo (R := dU) (m := [(c + zb)]) h 12 rfl (h.dV 15 rfl) jg rfl rfl rfl a61.1 a61.2 fun w u62 h => aa (ae (v := u57) rfl) (aa (ae (v := (I6 ((x34 + wI.2)))) rfl) (aa (ae (v := u62) rfl) (az (ax (ak (aC ?_))))))
 obtain ⟨a63, hs⟩ := bg hs
 refine aa (dw rfl rfl a63) (aa (ag (v := (I6 ((zb + 1)))) rfl) (az (au ?_)))
 subst V9
 exact jV ⟨m391, u57, (x31 ++ wI.1), u62, (zy ++ [(c + zb)]), (x34 + wI.2), (zb + 1)⟩ ⟨h.cn _, hs⟩
 refine nE (aa (ag (v := (I6 c)) rfl) (aa (ah nz rfl) (aa (aB h 4 rfl aW rfl rfl) (aa (dQ (pv := [(1, (I6 c)), (2, (I6 x1.n))]) (out := [(I6 0), (I6 c), (I6 x1.n), (I6 0), (.slice none 0 0)]) mq rfl ⟨1, 1, [(I6 c)], rfl, rfl, rfl, bD rfl, ⟨2, 1, [(I6 x1.n)], rfl, rfl, rfl, bD rfl, rfl⟩⟩) (bU h 16 qh fun w b64 h => dm (vs := [(I6 0), (I6 c), (I6 x1.n), (I6 0), (.slice none 0 0)]) h 16 [(I6 0), (I6 c), (I6 x1.n), (I6 0), (.slice none 0 0)] rfl qh rfl rfl rfl rfl rfl (ai rfl (ai rfl (ai rfl (ai rfl (ai rfl aR))))) fun w h => nN (bW (σ := Int × Int × Int × Value × List Int) (inl (rg 53 33)) (fun ⟨Aj, NW, vD, v68, CL⟩ => []) (fun ⟨Aj, NW, vD, v68, CL⟩ w => SH w0 M BE w (hset [(11, .own jI 93 v30 x31), (16, .blk b64 [(I6 Aj), (I6 c), (I6 NW), (I6 vD), v68]), (17, .own dU 3 v68 CL)]) ∧ fG x31 c x34 Aj NW vD CL = some r) ?_ ?_))))))
 rintro ⟨Aj, NW, vD, v68, CL⟩ w dx ⟨h, hs⟩
 refine nG (aa (ag (v := v30) rfl) (aa (cK (vs := [(I6 Aj), (I6 c), (I6 NW), (I6 vD), v68]) h 16 rfl qh rfl rfl rfl) ?_))
 replace h := h.freeze 17 rfl
 refine uQ (R := jI) (vs := [(.agg #[(I6 Aj), (I6 c), (I6 NW), (I6 vD), v68])]) (xs := [(⟨Aj, c, NW, vD, CL⟩ : Ins)]) h 18 eT rfl rfl rfl ⟨⟨_, rfl, (h.fo 17 rfl)⟩, trivial⟩ rfl fun w u70 h => ?_
 obtain ⟨a71, hs⟩ := bg hs
 refine mo (R := jI) (m := [(⟨Aj, c, NW, vD, CL⟩ : Ins)]) h 11 rfl (h.dV 18 rfl) eT rfl rfl rfl a71.1 a71.2 fun w u72 h => aa (ag (v := (I6 x34)) rfl) (aa (ae (v := u72) rfl) (aa (ae (v := (I6 x34)) rfl) (nR (Fp (v1 := u72) (v2 := (I6 x34)) Tryz.results100 rfl rfl ?_))))
 obtain rfl := fJ hs
 exact ⟨h.grown, _, rfl, (h.ng 11 rfl).1, (h.ng 11 rfl).2⟩
 refine nG (aa (ah Ev rfl) (aa (aB h 4 rfl aW rfl rfl) (nN (aO (nG (aa (bz rfl rfl) (aa (ae (v := (.bool (decide ((x1.kind : Int) = 1)))) rfl) (nN (aG hs rfl (fun c73 hs => ?_) (fun c73 hs => ?_))))))))))
 refine aC (aa (ah qa rfl) (fA h 16 [(I6 1), (I6 c), (I6 x1.n), (I6 0), (.slice none 0 0)] rfl aW rfl rfl rfl rfl rfl fun w h => az (ax (au ?_))))
 replace h := h.xC (R := dU) (E := 3) 17
 exact bP (1, x1.n, 0, (.slice none 0 0), []) ⟨h.cn _, hs⟩
 refine nG (aa (bz rfl rfl) (aa (ae (v := (.bool (decide ((x1.kind : Int) = 2)))) rfl) (nN (aG hs rfl (fun c74 hs => ?_) (fun c74 hs => ?_)))))
 refine aC (aa (ah qa rfl) (fA h 16 [(I6 2), (I6 c), (I6 x1.n), (I6 0), (.slice none 0 0)] rfl aW rfl rfl rfl rfl rfl fun w h => az (ax (au ?_))))
 replace h := h.xC (R := dU) (E := 3) 17
 exact bP (2, x1.n, 0, (.slice none 0 0), []) ⟨h.cn _, hs⟩
 refine nG (aa (bz rfl rfl) (aa (ae (v := (.bool (decide ((x1.kind : Int) = 5)))) rfl) (nN (aG hs rfl (fun c75 hs => ?_) (fun c75 hs => ?_)))))
 refine aC (aa (ah qa rfl) (fA h 16 [(I6 5), (I6 c), (I6 x1.n), (I6 0), (.slice none 0 0)] rfl aW rfl rfl rfl rfl rfl fun w h => az (ax (au ?_))))
 replace h := h.xC (R := dU) (E := 3) 17
 exact bP (5, x1.n, 0, (.slice none 0 0), []) ⟨h.cn _, hs⟩
 refine nG (aa (bz rfl rfl) (aa (ae (v := (.bool (decide ((x1.kind : Int) = 3)))) rfl) (nN (aG hs rfl (fun c76 hs => ?_) (fun c76 hs => ?_)))))
 refine aC (aa (ag (v := (I6 c)) rfl) (aa (ag (v := (I6 c)) rfl) (aa (ag (v := (I6 c)) rfl) ?_)))
 obtain ⟨a77, hs⟩ := bg hs
 refine aa (dw rfl rfl a77) (aa (ah nz rfl) (aa (aB h 4 rfl aW rfl rfl) (uQ (R := dU) (vs := [(I6 x1.n)]) (xs := [x1.n]) h 19 jg rfl rfl rfl ⟨rfl, trivial⟩ rfl fun w M9 h => aa (dQ (pv := [(0, (I6 3)), (1, (I6 c)), (2, (I6 c)), (3, (I6 ((c + 1)))), (4, M9)]) (out := [(I6 3), (I6 c), (I6 c), (I6 ((c + 1))), M9]) mq rfl ⟨0, 1, [(I6 3)], rfl, rfl, rfl, bD rfl, ⟨1, 1, [(I6 c)], rfl, rfl, rfl, bD rfl, ⟨2, 1, [(I6 c)], rfl, rfl, rfl, bD rfl, ⟨3, 1, [(I6 ((c + 1)))], rfl, rfl, rfl, bD rfl, ⟨4, 1, [M9], rfl, (je (h.dD 19 rfl).one), rfl, bD rfl, rfl⟩⟩⟩⟩⟩) (dm (vs := [(I6 3), (I6 c), (I6 c), (I6 ((c + 1))), M9]) h 16 [(I6 3), (I6 c), (I6 c), (I6 ((c + 1))), M9] rfl qh rfl rfl rfl rfl rfl (ai rfl (ai rfl (ai rfl (ai rfl (ai (h.dD 19 rfl).one aR))))) fun w h => az (ax (au ?_))))))
 replace h := h.zi 19 17 rfl rfl (by decide)
 exact bP (3, c, (c + 1), M9, [x1.n]) ⟨h.cn _, hs⟩
 refine nG (aa (bz rfl rfl) (aa (ae (v := (.bool (decide ((x1.kind : Int) = 4)))) rfl) (nN (aG hs rfl (fun c79 hs => ?_) (fun c79 hs => ?_)))))
 refine aC (aa (ag (v := (I6 c)) rfl) (aa (ag (v := (I6 c)) rfl) (aa (ah nz rfl) (aa (aB h 4 rfl aW rfl rfl) (aa (dQ (pv := [(0, (I6 4)), (1, (I6 c)), (2, (I6 c)), (3, (I6 x1.n))]) (out := [(I6 4), (I6 c), (I6 c), (I6 x1.n), (.slice none 0 0)]) mq rfl ⟨0, 1, [(I6 4)], rfl, rfl, rfl, bD rfl, ⟨1, 1, [(I6 c)], rfl, rfl, rfl, bD rfl, ⟨2, 1, [(I6 c)], rfl, rfl, rfl, bD rfl, ⟨3, 1, [(I6 x1.n)], rfl, rfl, rfl, bD rfl, rfl⟩⟩⟩⟩) (dm (vs := [(I6 4), (I6 c), (I6 c), (I6 x1.n), (.slice none 0 0)]) h 16 [(I6 4), (I6 c), (I6 c), (I6 x1.n), (.slice none 0 0)] rfl qh rfl rfl rfl rfl rfl (ai rfl (ai rfl (ai rfl (ai rfl (ai rfl aR))))) fun w h => az (ax (au ?_))))))))
 replace h := h.xC (R := dU) (E := 3) 17
 exact bP (4, c, x1.n, (.slice none 0 0), []) ⟨h.cn _, hs⟩
 refine nG (aa (bz rfl rfl) (aa (ae (v := (.bool (decide ((x1.kind : Int) = 6)))) rfl) (nN (aG hs rfl (fun c80 hs => ?_) (fun c80 hs => ?_)))))
 refine aC (aa (ag (v := v32) rfl) (aa (ah qa rfl) (fA h 16 [(I6 7), (I6 c), (I6 x1.n), (I6 0), (.slice none 0 0)] rfl aW rfl rfl rfl rfl rfl fun w h => aa (ah xe rfl) (fA h 16 [(I6 7), (I6 c), (I6 x1.n), (I6 0), v32] rfl vP rfl rfl rfl rfl (h.dD 12 rfl).one fun w h => az (ax (au ?_))))))
 replace h := h.zi 12 17 rfl rfl (by decide)
 exact bP (7, x1.n, 0, v32, zy) ⟨h.cn _, hs⟩
 refine aF (ax (au ?_))
 replace h := h.xC (R := dU) (E := 3) 17
 exact bP (0, x1.n, 0, (.slice none 0 0), []) ⟨h.cn _, hs⟩
def dX (x8 : List Ins) (nZ : List Ins → Option (List Ins)) (x34 : List Ins) : Option (List Ins) :=
  gL (Room 56 x8 x34) (nZ (x8 ++ x34))
def oH (x32 : List Ins) (c : Int) (d : Int) (x8 : List Ins) (BA : List Ins) (RH : List Ins) (nZ : List Ins → Option (List Ins)) (x90 : Int) : Option (List Ins) :=
  gL (Room 56 x32 [(⟨13, c, (((((d + (x8.length : Int)) + (x32.length : Int)) + 1) + (BA.length : Int)) + 1), 0, []⟩ : Ins)]) (gL (Room 56 (x32 ++ [(⟨13, c, (((((d + (x8.length : Int)) + (x32.length : Int)) + 1) + (BA.length : Int)) + 1), 0, []⟩ : Ins)]) BA) (gL (Room 56 ((x32 ++ [(⟨13, c, (((((d + (x8.length : Int)) + (x32.length : Int)) + 1) + (BA.length : Int)) + 1), 0, []⟩ : Ins)]) ++ BA) [(⟨12, 0, x90, 0, []⟩ : Ins)]) (gL (Room 56 (((x32 ++ [(⟨13, c, (((((d + (x8.length : Int)) + (x32.length : Int)) + 1) + (BA.length : Int)) + 1), 0, []⟩ : Ins)]) ++ BA) ++ [(⟨12, 0, x90, 0, []⟩ : Ins)]) RH) (dX x8 nZ ((((x32 ++ [(⟨13, c, (((((d + (x8.length : Int)) + (x32.length : Int)) + 1) + (BA.length : Int)) + 1), 0, []⟩ : Ins)]) ++ BA) ++ [(⟨12, 0, x90, 0, []⟩ : Ins)]) ++ RH)))))
def oI (F0 : List bu → List eU → Int → Int → Option (List Ins)) (d : Int) (x8 : List Ins) (x32 : List Ins) (eu : bu) (a : List bu) (b : List eU) (c : Int) (nZ : List Ins → Option (List Ins)) (x69 : Bool) : Option (List Ins) :=
  bif x69 then gL (jN ((d + (x8.length : Int)) + (x32.length : Int))) (gL (jN (((d + (x8.length : Int)) + (x32.length : Int)) + 1)) ((F0 eu.a b c (((d + (x8.length : Int)) + (x32.length : Int)) + 1)).bind fun BA => gL (jN ((d + (x8.length : Int)) + (x32.length : Int))) (gL (jN (((d + (x8.length : Int)) + (x32.length : Int)) + 1)) (gL (jN ((((d + (x8.length : Int)) + (x32.length : Int)) + 1) + (BA.length : Int))) (gL (jN (((((d + (x8.length : Int)) + (x32.length : Int)) + 1) + (BA.length : Int)) + 1)) ((F0 eu.b b c (((((d + (x8.length : Int)) + (x32.length : Int)) + 1) + (BA.length : Int)) + 1)).bind fun RH => gL (jN ((((((d + (x8.length : Int)) + (x32.length : Int)) + 1) + (BA.length : Int)) + 1) + (RH.length : Int))) (bif decide ((eu.kind : Int) = 7) then oH x32 c d x8 BA RH nZ (d + (x8.length : Int)) else oH x32 c d x8 BA RH nZ ((((((d + (x8.length : Int)) + (x32.length : Int)) + 1) + (BA.length : Int)) + 1) + (RH.length : Int))))))))) else dX x8 nZ x32
def oJ (N : Nat) (F0 : List bu → List eU → Int → Int → Option (List Ins)) (eu : bu) (c : Int) (x8 : List Ins) (nZ : List Ins → Option (List Ins)) (b : List eU) (d : Int) (a : List bu) (x32 : List Ins) : Option (List Ins) :=
  bif decide ((eu.kind : Int) = 1) then gL (Room 56 x32 [(⟨2, eu.n, c, 0, []⟩ : Ins)]) (dX x8 nZ (x32 ++ [(⟨2, eu.n, c, 0, []⟩ : Ins)])) else bif decide ((eu.kind : Int) = 2) then gL (jN (c + 1)) ((jR N eu.f b (c + 1)).bind fun AJ => gL (jN (c + 1)) (gL (Room 56 x32 AJ.1) (gL (Room 56 (x32 ++ AJ.1) [(⟨6, c, (c + 1), eu.n, []⟩ : Ins)]) (dX x8 nZ ((x32 ++ AJ.1) ++ [(⟨6, c, (c + 1), eu.n, []⟩ : Ins)]))))) else bif decide ((eu.kind : Int) = 3) then gL (Room 56 x32 [(⟨9, c, 0, 0, []⟩ : Ins)]) (dX x8 nZ (x32 ++ [(⟨9, c, 0, 0, []⟩ : Ins)])) else bif decide ((eu.kind : Int) = 4) then gL (Room 56 x32 [(⟨10, 0, 0, 0, []⟩ : Ins)]) (dX x8 nZ (x32 ++ [(⟨10, 0, 0, 0, []⟩ : Ins)])) else bif decide ((eu.kind : Int) = 5) then gL (Room 56 x32 [(⟨11, c, 0, 0, []⟩ : Ins)]) (dX x8 nZ (x32 ++ [(⟨11, c, 0, 0, []⟩ : Ins)])) else bif decide ((eu.kind : Int) = 8) then gL (Room 56 x32 [(⟨8, c, 0, 0, []⟩ : Ins)]) (dX x8 nZ (x32 ++ [(⟨8, c, 0, 0, []⟩ : Ins)])) else bif decide ((eu.kind : Int) = 6) then oI F0 d x8 x32 eu a b c nZ (decide ((eu.kind : Int) = 6)) else oI F0 d x8 x32 eu a b c nZ (decide ((eu.kind : Int) = 7))
def oK (N : Nat) (F0 : List bu → List eU → Int → Int → Option (List Ins)) (d : Int) (b : List eU) (c : Int) (a : List bu) (eu : bu) (x8 : List Ins) (nZ : List Ins → Option (List Ins)) : Option (List Ins) :=
  gL (jN (d + (x8.length : Int))) (bif decide ((0 : Int) < (eu.e.length : Int)) then (jR N eu.e b c).bind fun y104 => oJ N F0 eu c x8 nZ b d a y104.1 else oJ N F0 eu c x8 nZ b d a [])
def oL (x8 : List Ins) : Option (List Ins) :=
  some x8
def wo (N : Nat) (F0 : List bu → List eU → Int → Int → Option (List Ins)) (a : List bu) (b : List eU) (c : Int) (d : Int) : Option (List Ins) :=
  each (oK N F0 d b c a) oL a []
def lI : Nat → List bu → List eU → Int → Int → Option (List Ins)
  | 0 => fun _ _ _ _ => none
  | N + 1 => wo N (lI N)
theorem wu : ∀ (N : Nat) (w0 : World) (M : BS) (hM : ∀ b, M b → b < w0.heap.size) (va : Value) (a : List bu) (ha : gB eD w0 BE M va a) (vb : Value) (b : List eU) (hb : gB iU w0 BE M vb b) (c : Int) (d : Int) (r : List Ins) (hs : lI N a b c d = some r),
    Calls Tryz.prog 76 #[va, vb, (I6 c), (I6 d)] w0 (fun e w' => Grow w0 w' ∧ ∃ u0, e = .returned (u0) ∧ dW jI 93 w' M u0 r ∧ (∀ b, ob u0 b → w0.heap.size ≤ b)) := by
 intro N
 induction N with
 | zero => intro w0 M hM va a ha vb b hb c d r hs; cases hs
 | succ N ih =>
 intro w0 M hM va a ha vb b hb c d r hs
 replace hs : wo N (lI N) a b c d = some r := hs
 generalize lI N = F0 at hs ih
 refine aN (args := [va, vb, (I6 c), (I6 d)]) Tryz.func76 rfl Tryz.ntmps76 (bD rfl) ?_
 have h := SH.init hM
 replace h := h.fw 1 ha bC
 replace h := h.fw 2 hb (cZ bC)
 have vR := ha.bV
 have Ms := hb.bV
 refine nG (aa (ae (v := (.slice none 0 0)) rfl) (nJ (aa (ae (v := (.slice none 0 0)) rfl) (nK (aa (ag (v := va) rfl) (aa (bS kP rfl (h.gM 1 rfl)) (aa (ag (v := (I6 0)) rfl) (nN (aO ?_)))))))))
 replace h := h.xC (R := jI) (E := 93) 6
 refine gF (σ := Nat × Int × Value × List Ins) (inl ([9] ++ rg 11 9 ++ rg 22 134)) (fun ⟨k9, i10, v7, x8⟩ => [(9, v7), (22, (I6 i10))]) (fun ⟨k9, i10, v7, x8⟩ w => SH w0 M BE w (hset [(1, .sr eD va a), (2, .sr iU vb b), (6, .own jI 93 v7 x8)]) ∧ i10 = (k9 : Int) ∧ each (oK N F0 d b c a) oL (a.drop k9) x8 = some r) (fun ⟨k9, i10, v7, x8⟩ => a.length - k9) ⟨0, 0, (.slice none 0 0), []⟩ ⟨rfl, rfl, trivial⟩ ?_ ?_
 exact ⟨h.cn _, rfl, hs⟩
 rintro ⟨k9, i10, v7, x8⟩ w dx ⟨h, hik, hs⟩
 refine nG ?_
 refine aa (dP rfl rfl) (nN ?_)
 refine aP (iE rfl (fun e14 => ?_) (fun e14 => ?_))
 refine aF (ak ?_)
 obtain ⟨eu, PM, PN⟩ := fV (hik ▸ e14)
 rw [PN, dI] at hs
 generalize IJ : each (oK N F0 d b c a) oL (a.drop (k9 + 1)) = nZ at hs
 have PO := gp ((h.gM 1 rfl)).bV hik e14
 refine aP (aO (nG ?_))
 obtain ⟨b17, o18, Yn, h, VQ, i16⟩ := h.zg 1 7 rfl kP rfl (iO hik) (gm hik PM)
 obtain ⟨u21, u23, u25, u27, rfl, g22, g24, g26, g28⟩ := Aq VQ
 replace h := h.bX 8 g22.up
 replace h := h.bX 9 g24.up.up
 replace h := h.bX 10 g26.up.up.up
 replace h := h.bX 11 g28.up.up.up.up
 refine aa (i16 _ _ _ _ _ _ _ _ _ rfl rfl) (aa (jH (k := 0) (vs := [(I6 eu.kind), (I6 eu.n), u21, u23, u25, u27]) h 7 rfl oo rfl rfl rfl (bD rfl)) (bU h 12 oo fun w b29 h => dm (vs := [(I6 eu.kind), (I6 eu.n), u21, u23, u25, u27]) h 12 [(I6 eu.kind), (I6 eu.n), u21, u23, u25, u27] rfl oo rfl rfl rfl rfl rfl (ai rfl (ai rfl (ai (h.fo 8 rfl).one (ai (h.fo 9 rfl).one (ai (h.fo 10 rfl).one (ai (h.fo 11 rfl).one aR)))))) fun w h => nJ (aa (ag (v := (I6 d)) rfl) (aa (ag (v := v7) rfl) (aa (bS jC rfl (h.dV 6 rfl)) ?_)))))
 obtain ⟨a30, hs⟩ := bg hs
 refine aa (dw rfl rfl a30) (aa (ae (v := (I6 ((d + (x8.length : Int))))) rfl) (nJ (aa (ae (v := (.slice none 0 0)) rfl) (nN (bW (σ := Value × List Ins) (inl ([13] ++ rg 30 12)) (fun ⟨v31, x32⟩ => [(13, v31)]) (fun ⟨v31, x32⟩ w => SH w0 M BE w (hset [(1, .sr eD va a), (2, .sr iU vb b), (6, .own jI 93 v7 x8), (8, .rd kD u21 eu.e), (9, .rd kD u23 eu.f), (10, .rd eD u25 eu.a), (11, .rd eD u27 eu.b), (12, .blk b29 [(I6 eu.kind), (I6 eu.n), u21, u23, u25, u27]), (13, .own jI 93 v31 x32)]) ∧ oJ N F0 eu c x8 nZ b d a x32 = some r) ?_ ?_)))))
 rintro ⟨v31, x32⟩ w dx ⟨h, hs⟩
 refine bW (σ := Value × List Ins) (inl (rg 13 7 ++ rg 42 110)) (fun ⟨v33, x34⟩ => [(13, v33)]) (fun ⟨v33, x34⟩ w => SH w0 M BE w (hset [(1, .sr eD va a), (2, .sr iU vb b), (6, .own jI 93 v7 x8), (13, .own jI 93 v33 x34)]) ∧ dX x8 nZ x34 = some r) ?_ ?_
 rintro ⟨v33, x34⟩ w dx ⟨h, hs⟩
 refine aC (aa (ag (v := v7) rfl) (aa (ag (v := v33) rfl) ?_))
 obtain ⟨a35, hs⟩ := bg hs
 refine mo (R := jI) (m := x34) h 6 rfl (h.dV 13 rfl) eT rfl rfl rfl a35.1 a35.2 fun w u36 h => aa (ae (v := u36) rfl) (az (ax (ak (aC (aa (dw rfl rfl PO) (aa (ag (v := (I6 ((i10 + 1)))) rfl) (az (au ?_))))))))
 subst IJ
 exact jV ⟨k9 + 1, i10 + 1, u36, (x8 ++ x34)⟩ ⟨h.cn _, by omega, hs⟩ (by have := rq e14; dsimp only; omega)
 refine nG (aa (ah jX rfl) (aa (aB h 12 rfl aW rfl rfl) (nN (aO (nG (aa (bz rfl rfl) (aa (ae (v := (.bool (decide ((eu.kind : Int) = 1)))) rfl) (nN (aG hs rfl (fun c37 hs => ?_) (fun c37 hs => ?_))))))))))
 refine aC (aa (ag (v := v31) rfl) (aa (ah vO rfl) (aa (aB h 12 rfl aW rfl rfl) (aa (ag (v := (I6 c)) rfl) (aa (dQ (pv := [(0, (I6 2)), (1, (I6 eu.n)), (2, (I6 c))]) (out := [(I6 2), (I6 eu.n), (I6 c), (I6 0), (.slice none 0 0)]) mq rfl ⟨0, 1, [(I6 2)], rfl, rfl, rfl, bD rfl, ⟨1, 1, [(I6 eu.n)], rfl, rfl, rfl, bD rfl, ⟨2, 1, [(I6 c)], rfl, rfl, rfl, bD rfl, rfl⟩⟩⟩) (uQ (R := jI) (vs := [(.agg #[(I6 2), (I6 eu.n), (I6 c), (I6 0), (.slice none 0 0)])]) (xs := [(⟨2, eu.n, c, 0, []⟩ : Ins)]) h 14 eT rfl rfl rfl ⟨⟨_, rfl, gB.nil⟩, trivial⟩ rfl fun w u38 h => ?_))))))
 obtain ⟨a39, hs⟩ := bg hs
 refine mo (R := jI) (m := [(⟨2, eu.n, c, 0, []⟩ : Ins)]) h 13 rfl (h.dV 14 rfl) eT rfl rfl rfl a39.1 a39.2 fun w u40 h => aa (ae (v := u40) rfl) (az (ax (au ?_)))
 exact bP (u40, (x32 ++ [(⟨2, eu.n, c, 0, []⟩ : Ins)])) ⟨h.cn _, hs⟩
 refine nG (aa (bz rfl rfl) (aa (ae (v := (.bool (decide ((eu.kind : Int) = 2)))) rfl) (nN (aG hs rfl (fun c41 hs => ?_) (fun c41 hs => ?_)))))
 refine nG (aa (ah BL rfl) (aa (aB h 12 rfl xI rfl rfl) (aa (ag (v := vb) rfl) (aa (ag (v := (I6 c)) rfl) ?_))))
 obtain ⟨a42, hs⟩ := bg hs
 refine aa (dw rfl rfl a42) ?_
 obtain ⟨AJ, e44, hs⟩ := aJ hs
 refine aS Mg rfl rfl (wm N _ _ h.lt u23 eu.f (h.mM 9 rfl) vb b (h.gM 2 rfl) (c + 1) _ e44) ?_
 rintro _ w ⟨k48, u45, rfl, g46, g47⟩
 refine ⟨_, rfl, ?_⟩
 replace h := h.jO 15 k48 g46 g47
 refine aa (ag (v := (.tuple #[u45, (I6 AJ.2)])) rfl) (aa (aU rfl rfl) (aa (aU rfl rfl) (aa (ae (v := u45) rfl) (aa (ae (v := (I6 AJ.2)) rfl) (nN (ky (L := (ob v31)) mixed h fun w h => bB 0 (aI.refl _ _) rfl aj (by kernel_rfl) (by kernel_rfl) (by kernel_rfl) (fun w hk => ag (v := v31) rfl) (bB 1 (aI.refl _ _) rfl aj (by kernel_rfl) (by kernel_rfl) (by kernel_rfl) (fun w hk => ag (v := u45) rfl) (bB 3 (aI.refl _ _) rfl aj (by kernel_rfl) (by kernel_rfl) (by kernel_rfl) (fun w hk => ag (v := (I6 c)) rfl) (bB 4 (aI.refl _ _) rfl aj (by kernel_rfl) (by kernel_rfl) (by kernel_rfl) (fun w hk => ag (v := (I6 c)) rfl) ?_)))))))))
 obtain ⟨Wd, hs⟩ := bg hs
 refine bB 5 (aI.refl _ _) rfl aj (by kernel_rfl) (by kernel_rfl) (by kernel_rfl) (fun w hk => dw rfl rfl Wd) (bB 6 (aI.refl _ _) rfl aj (by kernel_rfl) (by kernel_rfl) (by kernel_rfl) (fun w hk => ah vO rfl) (bB 7 (aI.refl _ _) rfl aj (by kernel_rfl) (by kernel_rfl) (by kernel_rfl) (fun w hk => have h := h.rD 13 rfl hk; aB h 12 rfl aW rfl rfl) (bB 8 (aI.refl _ _) rfl aj (by kernel_rfl) (by kernel_rfl) (by kernel_rfl) (fun w hk => dQ (pv := [(0, (I6 6)), (1, (I6 c)), (2, (I6 ((c + 1)))), (3, (I6 eu.n))]) (out := [(I6 6), (I6 c), (I6 ((c + 1))), (I6 eu.n), (.slice none 0 0)]) mq rfl ⟨0, 1, [(I6 6)], rfl, rfl, rfl, bD rfl, ⟨1, 1, [(I6 c)], rfl, rfl, rfl, bD rfl, ⟨2, 1, [(I6 ((c + 1)))], rfl, rfl, rfl, bD rfl, ⟨3, 1, [(I6 eu.n)], rfl, rfl, rfl, bD rfl, rfl⟩⟩⟩⟩) ?_)))
 obtain ⟨ED, hs⟩ := bg hs
 obtain ⟨CO, hs⟩ := bg hs
 obtain ⟨Qd, Zm⟩ : ∃ x, x = w := ⟨_, rfl⟩
 have tC : aI (ob v31) Qd w := Zm ▸ aI.refl (ob v31) w
 refine qX Zm.symm (oZ 2 9 (by kernel_rfl) rfl aj rfl aj ?_ ?_)
 have Tk := tC.size
 refine mU (R := jI) (m := AJ.1) h 13 rfl (h.dV 15 rfl) eT rfl rfl rfl ED.1 ED.2 fun w IQ h FI FJ => ?_
 have zF : ∀ b, ob IQ b → b < Qd.heap.size → ob v31 b := fun b hb hl => FJ b hb (Nat.lt_of_lt_of_le hl (tC).size)
 replace tC := tC.same FI
 refine az (aQ tC (bF 9 (by kernel_rfl) rfl aj (Bg (R := jI) (vs := [(.agg #[(I6 6), (I6 c), (I6 ((c + 1))), (I6 eu.n), (.slice none 0 0)])]) (xs := [(⟨6, c, (c + 1), eu.n, []⟩ : Ins)]) h 124 eT rfl rfl rfl ⟨⟨_, rfl, gB.nil⟩, trivial⟩ rfl fun w IU h FK FL => ?_)))
 have Tm : ∀ b, ob IU b → Qd.heap.size ≤ b := fun b hb => Nat.le_trans tC.size (FL b hb)
 replace tC := tC.grow FK
 refine az (aQ tC (bF 10 (by kernel_rfl) rfl aj ?_))
 have Qe := tC.size
 refine mU (R := jI) (m := [(⟨6, c, (c + 1), eu.n, []⟩ : Ins)]) h 13 rfl (h.dV 124 rfl) eT rfl rfl rfl CO.1 CO.2 fun w uT h DI DJ => ?_
 have Qf : ∀ b, ob uT b → b < Qd.heap.size → ob v31 b := fun b hb hl => zF b (DJ b hb (Nat.lt_of_lt_of_le hl (tC).size)) hl
 replace tC := aI.step tC DI (fun x hx hl => zF x hx hl)
 refine az (aQ tC (cO 11 tC rfl (by kernel_rfl) (fun w hk => ae (v := uT) rfl) (fB (by kernel_rfl) (ax (au ?_)))))
 exact bP (uT, ((x32 ++ AJ.1) ++ [(⟨6, c, (c + 1), eu.n, []⟩ : Ins)])) ⟨h.cn _, hs⟩
 refine Bg (R := jI) (vs := [(.agg #[(I6 6), (I6 c), (I6 ((c + 1))), (I6 eu.n), (.slice none 0 0)])]) (xs := [(⟨6, c, (c + 1), eu.n, []⟩ : Ins)]) h 124 eT rfl rfl rfl ⟨⟨_, rfl, gB.nil⟩, trivial⟩ rfl fun w IU h FK FL => ?_
 have Tm : ∀ b, ob IU b → Qd.heap.size ≤ b := fun b hb => Nat.le_trans tC.size (FL b hb)
 replace tC := tC.grow FK
 refine az (aQ tC (bF 2 (by kernel_rfl) rfl aj ?_))
 have Tk := tC.size
 refine mU (R := jI) (m := AJ.1) h 13 rfl (h.dV 15 rfl) eT rfl rfl rfl ED.1 ED.2 fun w IQ h FI FJ => ?_
 have zF : ∀ b, ob IQ b → b < Qd.heap.size → ob v31 b := fun b hb hl => FJ b hb (Nat.lt_of_lt_of_le hl (tC).size)
 replace tC := tC.same FI
 refine az (aQ tC (bF 10 (by kernel_rfl) rfl aj ?_))
 have Qe := tC.size
 refine mU (R := jI) (m := [(⟨6, c, (c + 1), eu.n, []⟩ : Ins)]) h 13 rfl (h.dV 124 rfl) eT rfl rfl rfl CO.1 CO.2 fun w uT h DI DJ => ?_
 have Qf : ∀ b, ob uT b → b < Qd.heap.size → ob v31 b := fun b hb hl => zF b (DJ b hb (Nat.lt_of_lt_of_le hl (tC).size)) hl
 replace tC := aI.step tC DI (fun x hx hl => zF x hx hl)
 refine az (aQ tC (cO 11 tC rfl (by kernel_rfl) (fun w hk => ae (v := uT) rfl) (fB (by kernel_rfl) (ax (au ?_)))))
 exact bP (uT, ((x32 ++ AJ.1) ++ [(⟨6, c, (c + 1), eu.n, []⟩ : Ins)])) ⟨h.cn _, hs⟩
 refine nG (aa (bz rfl rfl) (aa (ae (v := (.bool (decide ((eu.kind : Int) = 3)))) rfl) (nN (aG hs rfl (fun c53 hs => ?_) (fun c53 hs => ?_)))))
 refine aC (aa (ag (v := v31) rfl) (aa (ag (v := (I6 c)) rfl) (aa (dQ (pv := [(0, (I6 9)), (1, (I6 c))]) (out := [(I6 9), (I6 c), (I6 0), (I6 0), (.slice none 0 0)]) mq rfl ⟨0, 1, [(I6 9)], rfl, rfl, rfl, bD rfl, ⟨1, 1, [(I6 c)], rfl, rfl, rfl, bD rfl, rfl⟩⟩) (uQ (R := jI) (vs := [(.agg #[(I6 9), (I6 c), (I6 0), (I6 0), (.slice none 0 0)])]) (xs := [(⟨9, c, 0, 0, []⟩ : Ins)]) h 172 eT rfl rfl rfl ⟨⟨_, rfl, gB.nil⟩, trivial⟩ rfl fun w V5 h => ?_))))
 obtain ⟨a55, hs⟩ := bg hs
 refine mo (R := jI) (m := [(⟨9, c, 0, 0, []⟩ : Ins)]) h 13 rfl (h.dV 172 rfl) eT rfl rfl rfl a55.1 a55.2 fun w u56 h => aa (ae (v := u56) rfl) (az (ax (au ?_)))
 exact bP (u56, (x32 ++ [(⟨9, c, 0, 0, []⟩ : Ins)])) ⟨h.cn _, hs⟩
 refine nG (aa (bz rfl rfl) (aa (ae (v := (.bool (decide ((eu.kind : Int) = 4)))) rfl) (nN (aG hs rfl (fun c57 hs => ?_) (fun c57 hs => ?_)))))
 refine aC (aa (ag (v := v31) rfl) (aa (dQ (pv := [(0, (I6 10))]) (out := [(I6 10), (I6 0), (I6 0), (I6 0), (.slice none 0 0)]) mq rfl ⟨0, 1, [(I6 10)], rfl, rfl, rfl, bD rfl, rfl⟩) (uQ (R := jI) (vs := [(.agg #[(I6 10), (I6 0), (I6 0), (I6 0), (.slice none 0 0)])]) (xs := [(⟨10, 0, 0, 0, []⟩ : Ins)]) h 173 eT rfl rfl rfl ⟨⟨_, rfl, gB.nil⟩, trivial⟩ rfl fun w u58 h => ?_)))
 obtain ⟨a59, hs⟩ := bg hs
 refine mo (R := jI) (m := [(⟨10, 0, 0, 0, []⟩ : Ins)]) h 13 rfl (h.dV 173 rfl) eT rfl rfl rfl a59.1 a59.2 fun w u60 h => aa (ae (v := u60) rfl) (az (ax (au ?_)))
 exact bP (u60, (x32 ++ [(⟨10, 0, 0, 0, []⟩ : Ins)])) ⟨h.cn _, hs⟩
 refine nG (aa (bz rfl rfl) (aa (ae (v := (.bool (decide ((eu.kind : Int) = 5)))) rfl) (nN (aG hs rfl (fun c61 hs => ?_) (fun c61 hs => ?_)))))
 refine aC (aa (ag (v := v31) rfl) (aa (ag (v := (I6 c)) rfl) (aa (dQ (pv := [(0, (I6 11)), (1, (I6 c))]) (out := [(I6 11), (I6 c), (I6 0), (I6 0), (.slice none 0 0)]) mq rfl ⟨0, 1, [(I6 11)], rfl, rfl, rfl, bD rfl, ⟨1, 1, [(I6 c)], rfl, rfl, rfl, bD rfl, rfl⟩⟩) (uQ (R := jI) (vs := [(.agg #[(I6 11), (I6 c), (I6 0), (I6 0), (.slice none 0 0)])]) (xs := [(⟨11, c, 0, 0, []⟩ : Ins)]) h 174 eT rfl rfl rfl ⟨⟨_, rfl, gB.nil⟩, trivial⟩ rfl fun w u62 h => ?_))))
 obtain ⟨a63, hs⟩ := bg hs
 refine mo (R := jI) (m := [(⟨11, c, 0, 0, []⟩ : Ins)]) h 13 rfl (h.dV 174 rfl) eT rfl rfl rfl a63.1 a63.2 fun w u64 h => aa (ae (v := u64) rfl) (az (ax (au ?_)))
 exact bP (u64, (x32 ++ [(⟨11, c, 0, 0, []⟩ : Ins)])) ⟨h.cn _, hs⟩
 refine nG (aa (bz rfl rfl) (aa (ae (v := (.bool (decide ((eu.kind : Int) = 8)))) rfl) (nN (aG hs rfl (fun Db hs => ?_) (fun Db hs => ?_)))))
 refine aC (aa (ag (v := v31) rfl) (aa (ag (v := (I6 c)) rfl) (aa (dQ (pv := [(0, (I6 8)), (1, (I6 c))]) (out := [(I6 8), (I6 c), (I6 0), (I6 0), (.slice none 0 0)]) mq rfl ⟨0, 1, [(I6 8)], rfl, rfl, rfl, bD rfl, ⟨1, 1, [(I6 c)], rfl, rfl, rfl, bD rfl, rfl⟩⟩) (uQ (R := jI) (vs := [(.agg #[(I6 8), (I6 c), (I6 0), (I6 0), (.slice none 0 0)])]) (xs := [(⟨8, c, 0, 0, []⟩ : Ins)]) h 175 eT rfl rfl rfl ⟨⟨_, rfl, gB.nil⟩, trivial⟩ rfl fun w u66 h => ?_))))
 obtain ⟨a67, hs⟩ := bg hs
 refine mo (R := jI) (m := [(⟨8, c, 0, 0, []⟩ : Ins)]) h 13 rfl (h.dV 175 rfl) eT rfl rfl rfl a67.1 a67.2 fun w u68 h => aa (ae (v := u68) rfl) (az (ax (au ?_)))
 exact bP (u68, (x32 ++ [(⟨8, c, 0, 0, []⟩ : Ins)])) ⟨h.cn _, hs⟩
 refine bW (σ := Bool) (inl [102, 103, 104]) (fun x69 => [(102, (.bool (x69)))]) (fun x69 w => SH w0 M BE w (hset [(1, .sr eD va a), (2, .sr iU vb b), (6, .own jI 93 v7 x8), (8, .rd kD u21 eu.e), (9, .rd kD u23 eu.f), (10, .rd eD u25 eu.a), (11, .rd eD u27 eu.b), (12, .blk b29 [(I6 eu.kind), (I6 eu.n), u21, u23, u25, u27]), (13, .own jI 93 v31 x32)]) ∧ oI F0 d x8 x32 eu a b c nZ x69 = some r) ?_ ?_
 rintro x69 w dx ⟨h, hs⟩
 refine aG hs rfl (fun c70 hs => ?_) (fun c70 hs => ?_)
 refine nG (aa (ah zq rfl) (aa (aB h 12 rfl pK rfl rfl) (aa (ag (v := vb) rfl) (aa (ag (v := (I6 c)) rfl) (aa (ag (v := (I6 ((d + (x8.length : Int))))) rfl) (aa (ag (v := v31) rfl) (aa (bS jC rfl (h.dV 13 rfl)) ?_)))))))
 obtain ⟨a71, hs⟩ := bg hs
 refine aa (dw rfl rfl a71) ?_
 obtain ⟨a72, hs⟩ := bg hs
 refine aa (dw rfl rfl a72) ?_
 obtain ⟨BA, e74, hs⟩ := aJ hs
 refine aS Mq rfl rfl (ih _ _ h.lt u25 eu.a (h.mM 10 rfl) vb b (h.gM 2 rfl) c (((d + (x8.length : Int)) + (x32.length : Int)) + 1) _ e74) ?_
 rintro _ w ⟨k78, u75, rfl, g76, g77⟩
 refine ⟨_, rfl, ?_⟩
 replace h := h.jO 176 k78 g76 g77
 refine aa (ae (v := u75) rfl) (nJ (aa (ag (v := (I6 ((d + (x8.length : Int))))) rfl) (aa (ag (v := v31) rfl) (aa (bS jC rfl (h.dV 13 rfl)) ?_))))
 obtain ⟨a79, hs⟩ := bg hs
 refine aa (dw rfl rfl a79) ?_
 obtain ⟨a80, hs⟩ := bg hs
 refine aa (dw rfl rfl a80) (aa (ag (v := u75) rfl) (aa (bS jC rfl (h.dV 176 rfl)) ?_))
 obtain ⟨a81, hs⟩ := bg hs
 refine aa (dw rfl rfl a81) ?_
 obtain ⟨a82, hs⟩ := bg hs
 refine aa (dw rfl rfl a82) (aa (ae (v := (I6 ((((((d + (x8.length : Int)) + (x32.length : Int)) + 1) + (BA.length : Int)) + 1)))) rfl) (nJ (aa (ah zt rfl) (aa (aB h 12 rfl pK rfl rfl) (aa (ag (v := vb) rfl) (aa (ag (v := (I6 c)) rfl) (aa (ag (v := (I6 ((((((d + (x8.length : Int)) + (x32.length : Int)) + 1) + (BA.length : Int)) + 1)))) rfl) ?_)))))))
 obtain ⟨RH, e84, hs⟩ := aJ hs
 refine aS Mq rfl rfl (ih _ _ h.lt u27 eu.b (h.mM 11 rfl) vb b (h.gM 2 rfl) c (((((d + (x8.length : Int)) + (x32.length : Int)) + 1) + (BA.length : Int)) + 1) _ e84) ?_
 rintro _ w ⟨k88, u85, rfl, g86, g87⟩
 refine ⟨_, rfl, ?_⟩
 replace h := h.jO 177 k88 g86 g87
 refine aa (ae (v := u85) rfl) (nJ (aa (ag (v := (I6 ((((((d + (x8.length : Int)) + (x32.length : Int)) + 1) + (BA.length : Int)) + 1)))) rfl) (aa (ag (v := u85) rfl) (aa (bS jC rfl (h.dV 177 rfl)) ?_))))
 obtain ⟨a89, hs⟩ := bg hs
 refine aa (dw rfl rfl a89) (aa (ae (v := (I6 (((((((d + (x8.length : Int)) + (x32.length : Int)) + 1) + (BA.length : Int)) + 1) + (RH.length : Int))))) rfl) (nN (bW (σ := Int) (inl [19, 134, 135, 136, 137]) (fun x90 => [(19, (I6 x90))]) (fun x90 w => SH w0 M BE w (hset [(1, .sr eD va a), (2, .sr iU vb b), (6, .own jI 93 v7 x8), (13, .own jI 93 v31 x32), (176, .own jI 93 u75 BA), (177, .own jI 93 u85 RH)]) ∧ oH x32 c d x8 BA RH nZ x90 = some r) ?_ ?_)))
 rintro x90 w dx ⟨h, hs⟩
 refine aC (aa (ag (v := v31) rfl) (aa (ag (v := (I6 c)) rfl) (aa (ag (v := (I6 ((((((d + (x8.length : Int)) + (x32.length : Int)) + 1) + (BA.length : Int)) + 1)))) rfl) (aa (dQ (pv := [(0, (I6 13)), (1, (I6 c)), (2, (I6 ((((((d + (x8.length : Int)) + (x32.length : Int)) + 1) + (BA.length : Int)) + 1))))]) (out := [(I6 13), (I6 c), (I6 ((((((d + (x8.length : Int)) + (x32.length : Int)) + 1) + (BA.length : Int)) + 1))), (I6 0), (.slice none 0 0)]) mq rfl ⟨0, 1, [(I6 13)], rfl, rfl, rfl, bD rfl, ⟨1, 1, [(I6 c)], rfl, rfl, rfl, bD rfl, ⟨2, 1, [(I6 ((((((d + (x8.length : Int)) + (x32.length : Int)) + 1) + (BA.length : Int)) + 1)))], rfl, rfl, rfl, bD rfl, rfl⟩⟩⟩) (uQ (R := jI) (vs := [(.agg #[(I6 13), (I6 c), (I6 ((((((d + (x8.length : Int)) + (x32.length : Int)) + 1) + (BA.length : Int)) + 1))), (I6 0), (.slice none 0 0)])]) (xs := [(⟨13, c, (((((d + (x8.length : Int)) + (x32.length : Int)) + 1) + (BA.length : Int)) + 1), 0, []⟩ : Ins)]) h 178 eT rfl rfl rfl ⟨⟨_, rfl, gB.nil⟩, trivial⟩ rfl fun w u91 h => ?_)))))
 obtain ⟨a92, hs⟩ := bg hs
 refine mo (R := jI) (m := [(⟨13, c, (((((d + (x8.length : Int)) + (x32.length : Int)) + 1) + (BA.length : Int)) + 1), 0, []⟩ : Ins)]) h 13 rfl (h.dV 178 rfl) eT rfl rfl rfl a92.1 a92.2 fun w u93 h => aa (ag (v := u75) rfl) ?_
 obtain ⟨a94, hs⟩ := bg hs
 refine mo (R := jI) (m := BA) h 13 rfl (h.dV 176 rfl) eT rfl rfl rfl a94.1 a94.2 fun w u95 h => aa (ag (v := (I6 x90)) rfl) (aa (dQ (pv := [(0, (I6 12)), (2, (I6 x90))]) (out := [(I6 12), (I6 0), (I6 x90), (I6 0), (.slice none 0 0)]) mq rfl ⟨0, 1, [(I6 12)], rfl, rfl, rfl, bD rfl, ⟨2, 1, [(I6 x90)], rfl, rfl, rfl, bD rfl, rfl⟩⟩) (uQ (R := jI) (vs := [(.agg #[(I6 12), (I6 0), (I6 x90), (I6 0), (.slice none 0 0)])]) (xs := [(⟨12, 0, x90, 0, []⟩ : Ins)]) h 179 eT rfl rfl rfl ⟨⟨_, rfl, gB.nil⟩, trivial⟩ rfl fun w u96 h => ?_))
 obtain ⟨a97, hs⟩ := bg hs
 refine mo (R := jI) (m := [(⟨12, 0, x90, 0, []⟩ : Ins)]) h 13 rfl (h.dV 179 rfl) eT rfl rfl rfl a97.1 a97.2 fun w u98 h => aa (ag (v := u85) rfl) ?_
 obtain ⟨a99, hs⟩ := bg hs
 refine mo (R := jI) (m := RH) h 13 rfl (h.dV 177 rfl) eT rfl rfl rfl a99.1 a99.2 fun w u100 h => aa (ae (v := u100) rfl) (az (ax (au ?_)))
 exact bP (u100, ((((x32 ++ [(⟨13, c, (((((d + (x8.length : Int)) + (x32.length : Int)) + 1) + (BA.length : Int)) + 1), 0, []⟩ : Ins)]) ++ BA) ++ [(⟨12, 0, x90, 0, []⟩ : Ins)]) ++ RH)) ⟨h.cn _, hs⟩
 refine nG (aa (ah jX rfl) (aa (aB h 12 rfl aW rfl rfl) (aa (bz rfl rfl) (nN (aG hs rfl (fun c101 hs => ?_) (fun c101 hs => ?_))))))
 refine aC (aa (ag (v := (I6 ((d + (x8.length : Int))))) rfl) (aa (ae (v := (I6 ((d + (x8.length : Int))))) rfl) (az (au ?_))))
 exact bP (d + (x8.length : Int)) ⟨h.cn _, hs⟩
 refine aF (au ?_)
 exact bP ((((((d + (x8.length : Int)) + (x32.length : Int)) + 1) + (BA.length : Int)) + 1) + (RH.length : Int)) ⟨h.cn _, hs⟩
 refine aF (ax (au ?_))
 exact bP (v31, x32) ⟨h.cn _, hs⟩
 refine nG (aa (bz rfl rfl) (aa (ae (v := (.bool (decide ((eu.kind : Int) = 6)))) rfl) (nN (aG hs rfl (fun VZ hs => ?_) (fun VZ hs => ?_)))))
 refine aF (au ?_)
 exact bP (decide ((eu.kind : Int) = 6)) ⟨h.cn _, hs⟩
 refine aC (aa (bz rfl rfl) (aa (ae (v := (.bool (decide ((eu.kind : Int) = 7)))) rfl) (az (au ?_))))
 exact bP (decide ((eu.kind : Int) = 7)) ⟨h.cn _, hs⟩
 refine nG (aa (ah zo rfl) (aa (aB h 12 rfl xI rfl rfl) (aa (bS ku rfl (h.mM 8 rfl)) (aa (jT rfl rfl) (nN (aG hs rfl (fun c103 hs => ?_) (fun c103 hs => ?_)))))))
 refine aC (aa (ah zo rfl) (aa (aB h 12 rfl xI rfl rfl) (aa (ag (v := vb) rfl) (aa (ag (v := (I6 c)) rfl) ?_))))
 obtain ⟨y104, MB, hs⟩ := aJ hs
 refine aS Mg rfl rfl (wm N _ _ h.lt u21 eu.e (h.mM 8 rfl) vb b (h.gM 2 rfl) c _ MB) ?_
 rintro _ w ⟨k109, V3, rfl, g107, g108⟩
 refine ⟨_, rfl, ?_⟩
 replace h := h.jO 180 k109 g107 g108
 refine aa (ag (v := (.tuple #[V3, (I6 y104.2)])) rfl) (aa (aU rfl rfl) (aa (aU rfl rfl) (aa (ae (v := V3) rfl) (az (au ?_)))))
 replace h := h.zi 180 13 rfl rfl (by decide)
 exact bP (V3, y104.1) ⟨h.cn _, hs⟩
 refine aF (au ?_)
 replace h := h.xC (R := jI) (E := 93) 13
 exact bP ((.slice none 0 0), []) ⟨h.cn _, hs⟩
 rw [fZ (hik ▸ e14), gG] at hs
 refine nE (aa (ag (v := v7) rfl) (aa (ae (v := v7) rfl) (nR (bQ (v := v7) Tryz.results76 rfl ?_))))
 obtain rfl := fJ hs
 exact ⟨h.grown, _, rfl, (h.ng 6 rfl).1, (h.ng 6 rfl).2⟩
def uN (x8 : List bN) (eu : eU) (nZ : List bN → Option (List bN)) (Na : List Ins) : Option (List bN) :=
  gL (Room 40 x8 [(⟨eu.params, 30, Na⟩ : bN)]) (nZ (x8 ++ [(⟨eu.params, 30, Na⟩ : bN)]))
def pR (N : Nat) (a : List eU) (eu : eU) (x8 : List bN) (nZ : List bN → Option (List bN)) : Option (List bN) :=
  (lI N eu.body a eu.locals 0).bind fun BN => gL (Room 56 BN [(⟨1, eu.locals, 0, 0, []⟩ : Ins), (⟨8, eu.locals, 0, 0, []⟩ : Ins)]) (uN x8 eu nZ (BN ++ [(⟨1, eu.locals, 0, 0, []⟩ : Ins), (⟨8, eu.locals, 0, 0, []⟩ : Ins)]))
def pU (x8 : List bN) : Option (List bN) :=
  some x8
def yG (N : Nat) (a : List eU) : Option (List bN) :=
  each (pR N a) pU a []
theorem Dc (N : Nat) (w0 : World) (M : BS) (hM : ∀ b, M b → b < w0.heap.size) (va : Value) (a : List eU) (ha : gB iU w0 BE M va a) (r : List bN) (hs : yG N a = some r) :
    Calls Tryz.prog 39 #[va] w0 (fun e w' => Grow w0 w' ∧ ∃ u0, e = .returned (u0) ∧ dW jF 57 w' M u0 r ∧ (∀ b, ob u0 b → w0.heap.size ≤ b)) := by
 refine aN (args := [va]) Tryz.func39 rfl Tryz.ntmps39 (bD rfl) ?_
 have h := SH.init hM
 replace h := h.fw 1 ha bC
 have vR := ha.bV
 refine nG (aa (ae (v := (.slice none 0 0)) rfl) (nJ (aa (ae (v := (.slice none 0 0)) rfl) (nK (aa (ag (v := va) rfl) (aa (bS iH rfl (h.gM 1 rfl)) (aa (ag (v := (I6 0)) rfl) (nN (aO ?_)))))))))
 replace h := h.xC (R := jF) (E := 57) 5
 refine gF (σ := Nat × Int × Value × List bN) (inl ([3, 5, 6] ++ rg 9 27)) (fun ⟨k9, i10, v7, x8⟩ => [(3, v7), (9, (I6 i10))]) (fun ⟨k9, i10, v7, x8⟩ w => SH w0 M BE w (hset [(1, .sr iU va a), (5, .own jF 57 v7 x8)]) ∧ i10 = (k9 : Int) ∧ each (pR N a) pU (a.drop k9) x8 = some r) (fun ⟨k9, i10, v7, x8⟩ => a.length - k9) ⟨0, 0, (.slice none 0 0), []⟩ ⟨rfl, rfl, trivial⟩ ?_ ?_
 exact ⟨h.cn _, rfl, hs⟩
 rintro ⟨k9, i10, v7, x8⟩ w dx ⟨h, hik, hs⟩
 refine nG ?_
 refine aa (dP rfl rfl) (nN ?_)
 refine aP (iE rfl (fun e14 => ?_) (fun e14 => ?_))
 refine aF (ak ?_)
 obtain ⟨eu, PM, PN⟩ := fV (hik ▸ e14)
 rw [PN, dI] at hs
 generalize IJ : each (pR N a) pU (a.drop (k9 + 1)) = nZ at hs
 have PO := gp ((h.gM 1 rfl)).bV hik e14
 refine aP (aO (nG ?_))
 obtain ⟨b17, o18, Yn, h, VQ, i16⟩ := h.zg 1 6 rfl iH rfl (iO hik) (gm hik PM)
 obtain ⟨u21, rfl, g22⟩ := sG VQ
 replace h := h.bX 7 g22.up
 refine aa (i16 _ _ _ _ _ _ _ _ _ rfl rfl) (aa (jH (k := 0) (vs := [(I6 eu.params), (I6 eu.locals), u21]) h 6 rfl lS rfl rfl rfl (bD rfl)) (bU h 8 lS fun w Dn h => dm (vs := [(I6 eu.params), (I6 eu.locals), u21]) h 8 [(I6 eu.params), (I6 eu.locals), u21] rfl lS rfl rfl rfl rfl rfl (ai rfl (ai rfl (ai (h.fo 7 rfl).one aR))) fun w h => nJ (aa (ah vN rfl) (aa (aB h 8 rfl aW rfl rfl) (aa (dQ (pv := [(0, (I6 eu.params)), (1, (I6 30))]) (out := [(I6 eu.params), (I6 30), (.slice none 0 0)]) Vw rfl ⟨0, 1, [(I6 eu.params)], rfl, rfl, rfl, bD rfl, ⟨1, 1, [(I6 30)], rfl, rfl, rfl, bD rfl, rfl⟩⟩) (bU h 9 wK fun w b24 h => dm (vs := [(I6 eu.params), (I6 30), (.slice none 0 0)]) h 9 [(I6 eu.params), (I6 30), (.slice none 0 0)] rfl wK rfl rfl rfl rfl rfl (ai rfl (ai rfl (ai rfl aR))) fun w h => nN (bW (σ := Value × List Ins) (inl (rg 16 15)) (fun ⟨v25, Na⟩ => []) (fun ⟨v25, Na⟩ w => SH w0 M BE w (hset [(1, .sr iU va a), (5, .own jF 57 v7 x8), (9, .blk b24 [(I6 eu.params), (I6 30), v25]), (70, .own jI 93 v25 Na)]) ∧ uN x8 eu nZ Na = some r) ?_ ?_)))))))
 rintro ⟨v25, Na⟩ w dx ⟨h, hs⟩
 refine aC (aa (ag (v := v7) rfl) (aa (cK (vs := [(I6 eu.params), (I6 30), v25]) h 9 rfl wK rfl rfl rfl) ?_))
 replace h := h.freeze 70 rfl
 refine uQ (R := jF) (vs := [(.agg #[(I6 eu.params), (I6 30), v25])]) (xs := [(⟨eu.params, 30, Na⟩ : bN)]) h 71 NC rfl rfl rfl ⟨⟨_, rfl, (h.fo 70 rfl)⟩, trivial⟩ rfl fun w u27 h => ?_
 obtain ⟨a28, hs⟩ := bg hs
 refine mo (R := jF) (m := [(⟨eu.params, 30, Na⟩ : bN)]) h 5 rfl (h.dV 71 rfl) NC rfl rfl rfl a28.1 a28.2 fun w u29 h => aa (ae (v := u29) rfl) (az (ax (ak (aC (aa (dw rfl rfl PO) (aa (ag (v := (I6 ((i10 + 1)))) rfl) (az (au ?_))))))))
 subst IJ
 exact jV ⟨k9 + 1, i10 + 1, u29, (x8 ++ [(⟨eu.params, 30, Na⟩ : bN)])⟩ ⟨h.cn _, by omega, hs⟩ (by have := rq e14; dsimp only; omega)
 refine ky (L := (fun x => x = b24)) mixed h fun w h => bB 0 (aI.refl _ _) rfl aj (by kernel_rfl) (by kernel_rfl) (by kernel_rfl) (fun w hk => ah BK rfl) (bB 1 (aI.refl _ _) rfl aj (by kernel_rfl) (by kernel_rfl) (by kernel_rfl) (fun w hk => have h := h.rD 9 rfl hk; aB h 8 rfl pK rfl rfl) (bB 2 (aI.refl _ _) rfl aj (by kernel_rfl) (by kernel_rfl) (by kernel_rfl) (fun w hk => ag (v := va) rfl) (bB 3 (aI.refl _ _) rfl aj (by kernel_rfl) (by kernel_rfl) (by kernel_rfl) (fun w hk => ah zn rfl) (bB 4 (aI.refl _ _) rfl aj (by kernel_rfl) (by kernel_rfl) (by kernel_rfl) (fun w hk => have h := h.rD 9 rfl hk; aB h 8 rfl aW rfl rfl) (bB 6 (aI.refl _ _) rfl aj (by kernel_rfl) (by kernel_rfl) (by kernel_rfl) (fun w hk => ah zn rfl) (bB 7 (aI.refl _ _) rfl aj (by kernel_rfl) (by kernel_rfl) (by kernel_rfl) (fun w hk => have h := h.rD 9 rfl hk; aB h 8 rfl aW rfl rfl) (bB 8 (aI.refl _ _) rfl aj (by kernel_rfl) (by kernel_rfl) (by kernel_rfl) (fun w hk => dQ (pv := [(0, (I6 1)), (1, (I6 eu.locals))]) (out := [(I6 1), (I6 eu.locals), (I6 0), (I6 0), (.slice none 0 0)]) mq rfl ⟨0, 1, [(I6 1)], rfl, rfl, rfl, bD rfl, ⟨1, 1, [(I6 eu.locals)], rfl, rfl, rfl, bD rfl, rfl⟩⟩) (bB 9 (aI.refl _ _) rfl aj (by kernel_rfl) (by kernel_rfl) (by kernel_rfl) (fun w hk => ah zn rfl) (bB 10 (aI.refl _ _) rfl aj (by kernel_rfl) (by kernel_rfl) (by kernel_rfl) (fun w hk => have h := h.rD 9 rfl hk; aB h 8 rfl aW rfl rfl) (bB 11 (aI.refl _ _) rfl aj (by kernel_rfl) (by kernel_rfl) (by kernel_rfl) (fun w hk => dQ (pv := [(0, (I6 8)), (1, (I6 eu.locals))]) (out := [(I6 8), (I6 eu.locals), (I6 0), (I6 0), (.slice none 0 0)]) mq rfl ⟨0, 1, [(I6 8)], rfl, rfl, rfl, bD rfl, ⟨1, 1, [(I6 eu.locals)], rfl, rfl, rfl, bD rfl, rfl⟩⟩) ?_))))))))))
 obtain ⟨BN, NY, hs⟩ := aJ hs
 obtain ⟨CP, hs⟩ := bg hs
 obtain ⟨PL, NL⟩ : ∃ x, x = w := ⟨_, rfl⟩
 have mO : aI (fun x => x = b24) PL w := NL ▸ aI.refl (fun x => x = b24) w
 refine qX NL.symm (oZ 5 12 (by kernel_rfl) rfl aj rfl aj ?_ ?_)
 refine aS Mq rfl rfl (wu N _ _ h.lt u21 eu.body (h.mM 7 rfl) va a (h.gM 1 rfl) eu.locals 0 _ NY) ?_
 rintro _ w ⟨BO, IV, rfl, IW, BP⟩
 refine ⟨_, rfl, ?_⟩
 replace h := h.jO 132 BO IW BP
 have zG : ∀ b, ob IV b → PL.heap.size ≤ b := fun b hb => Nat.le_trans mO.size (BP b hb)
 replace mO := mO.grow BO
 refine az (aQ mO (bF 12 (by kernel_rfl) rfl aj (Bg (R := jI) (vs := [(.agg #[(I6 1), (I6 eu.locals), (I6 0), (I6 0), (.slice none 0 0)]), (.agg #[(I6 8), (I6 eu.locals), (I6 0), (I6 0), (.slice none 0 0)])]) (xs := [(⟨1, eu.locals, 0, 0, []⟩ : Ins), (⟨8, eu.locals, 0, 0, []⟩ : Ins)]) h 216 eT rfl rfl rfl ⟨⟨_, rfl, gB.nil⟩, ⟨⟨_, rfl, gB.nil⟩, trivial⟩⟩ rfl fun w FM h DK DL => ?_)))
 have Qg : ∀ b, ob FM b → PL.heap.size ≤ b := fun b hb => Nat.le_trans mO.size (DL b hb)
 replace mO := mO.grow DK
 refine az (aQ mO (bF 13 (by kernel_rfl) rfl aj ?_))
 have DN := mO.size
 refine mU (R := jI) (m := [(⟨1, eu.locals, 0, 0, []⟩ : Ins), (⟨8, eu.locals, 0, 0, []⟩ : Ins)]) h 132 rfl (h.dV 216 rfl) eT rfl rfl rfl CP.1 CP.2 fun w zH h DR DT => ?_
 replace mO := mO.UR DR zG
 have Qh := KJ DN zG DT
 refine az (aQ mO (cO 14 mO rfl (by kernel_rfl) (fun w hk => ah rU rfl) (bF 15 (by kernel_rfl) rfl aj (rX h 9 [(I6 eu.params), (I6 30), zH] rfl Bh rfl rfl rfl rfl (h.dD 132 rfl).one fun w h FN => ?_))))
 replace mO := mO.same FN
 refine az (aQ mO (fB (by kernel_rfl) (au ?_)))
 replace h := h.zi 132 70 rfl rfl (by decide)
 exact bP (zH, (BN ++ [(⟨1, eu.locals, 0, 0, []⟩ : Ins), (⟨8, eu.locals, 0, 0, []⟩ : Ins)])) ⟨h.cn _, hs⟩
 refine Bg (R := jI) (vs := [(.agg #[(I6 1), (I6 eu.locals), (I6 0), (I6 0), (.slice none 0 0)]), (.agg #[(I6 8), (I6 eu.locals), (I6 0), (I6 0), (.slice none 0 0)])]) (xs := [(⟨1, eu.locals, 0, 0, []⟩ : Ins), (⟨8, eu.locals, 0, 0, []⟩ : Ins)]) h 216 eT rfl rfl rfl ⟨⟨_, rfl, gB.nil⟩, ⟨⟨_, rfl, gB.nil⟩, trivial⟩⟩ rfl fun w FM h DK DL => ?_
 have Qg : ∀ b, ob FM b → PL.heap.size ≤ b := fun b hb => Nat.le_trans mO.size (DL b hb)
 replace mO := mO.grow DK
 refine az (aQ mO (bF 5 (by kernel_rfl) rfl aj (aS Mq rfl rfl (wu N _ _ h.lt u21 eu.body (h.mM 7 rfl) va a (h.gM 1 rfl) eu.locals 0 _ NY) ?_)))
 rintro _ w ⟨BO, IV, rfl, IW, BP⟩
 refine ⟨_, rfl, ?_⟩
 replace h := h.jO 132 BO IW BP
 have zG : ∀ b, ob IV b → PL.heap.size ≤ b := fun b hb => Nat.le_trans mO.size (BP b hb)
 replace mO := mO.grow BO
 refine az (aQ mO (bF 13 (by kernel_rfl) rfl aj ?_))
 have DN := mO.size
 refine mU (R := jI) (m := [(⟨1, eu.locals, 0, 0, []⟩ : Ins), (⟨8, eu.locals, 0, 0, []⟩ : Ins)]) h 132 rfl (h.dV 216 rfl) eT rfl rfl rfl CP.1 CP.2 fun w zH h DR DT => ?_
 replace mO := mO.UR DR zG
 have Qh := KJ DN zG DT
 refine az (aQ mO (cO 14 mO rfl (by kernel_rfl) (fun w hk => ah rU rfl) (bF 15 (by kernel_rfl) rfl aj (rX h 9 [(I6 eu.params), (I6 30), zH] rfl Bh rfl rfl rfl rfl (h.dD 132 rfl).one fun w h FN => ?_))))
 replace mO := mO.same FN
 refine az (aQ mO (fB (by kernel_rfl) (au ?_)))
 replace h := h.zi 132 70 rfl rfl (by decide)
 exact bP (zH, (BN ++ [(⟨1, eu.locals, 0, 0, []⟩ : Ins), (⟨8, eu.locals, 0, 0, []⟩ : Ins)])) ⟨h.cn _, hs⟩
 rw [fZ (hik ▸ e14), gG] at hs
 refine nE (aa (ag (v := v7) rfl) (aa (ae (v := v7) rfl) (nR (bQ (v := v7) Tryz.results39 rfl ?_))))
 obtain rfl := fJ hs
 exact ⟨h.grown, _, rfl, (h.ng 5 rfl).1, (h.ng 5 rfl).2⟩
def fI (x6 : Bool) : Bool × Bool × Bool × Bool :=
  bif x6 then (false, false, false, true) else (false, false, false, false)
def eZ (a : Int) (x3 : Bool) : Bool × Bool × Bool × Bool :=
  bif x3 then (true, true, false, true) else bif decide ((a : Int) = 3) then (true, true, true, true) else bif decide ((a : Int) = 10) then fI (decide ((a : Int) = 10)) else fI (decide ((a : Int) = 12))
def dN (a : Int) (x1 : Bool) : Bool × Bool × Bool × Bool :=
  bif x1 then (true, false, false, true) else bif decide ((a : Int) = 2) then eZ a (decide ((a : Int) = 2)) else bif decide ((a : Int) = 4) then eZ a (decide ((a : Int) = 4)) else eZ a (decide ((a : Int) = 6))
def bK (a : Int) : Bool × Bool × Bool × Bool :=
  bif decide ((a : Int) = 1) then dN a (decide ((a : Int) = 1)) else bif decide ((a : Int) = 5) then dN a (decide ((a : Int) = 5)) else bif decide ((a : Int) = 8) then dN a (decide ((a : Int) = 8)) else bif decide ((a : Int) = 9) then dN a (decide ((a : Int) = 9)) else bif decide ((a : Int) = 11) then dN a (decide ((a : Int) = 11)) else bif decide ((a : Int) = 13) then dN a (decide ((a : Int) = 13)) else dN a (decide ((a : Int) = 7))
theorem NZ (w0 : World) (M : BS) (hM : ∀ b, M b → b < w0.heap.size) (a : Int) (r : Bool × Bool × Bool × Bool) (hs : bK a = r) :
    Calls Tryz.prog 115 #[(I6 a)] w0 (fun e w' => Grow w0 w' ∧ e = .returned (.tuple #[.bool r.1, .bool r.2.1, .bool r.2.2.1, .bool r.2.2.2])) := by
 refine aN (args := [(I6 a)]) Tryz.func115 rfl Tryz.ntmps115 (bD rfl) ?_
 have h := SH.init hM
 refine nG (aa (ae (v := (.bool (false))) rfl) (aa (ae (v := (.bool (false))) rfl) (aa (ae (v := (.bool (false))) rfl) (aa (ae (v := (.bool (false))) rfl) (nK (aa (ag (v := (I6 a)) rfl) (nN (aO (bW (σ := Bool) (inl (rg 7 8)) (fun x1 => [(7, (.bool (x1)))]) (fun x1 w => SH w0 M BE w (hset []) ∧ dN a x1 = r) ?_ ?_)))))))))
 rintro x1 w dx ⟨h, hs⟩
 refine aG hs rfl (fun c2 hs => ?_) (fun c2 hs => ?_)
 refine nG (aa (ae (v := (.bool (true))) rfl) (aa (ae (v := (.bool (false))) rfl) (aa (ae (v := (.bool (false))) rfl) (aa (ae (v := (.bool (true))) rfl) (nR (aD (ay (U4 (v1 := (.bool (true))) (v2 := (.bool (false))) (v3 := (.bool (false))) (v4 := (.bool (true))) Tryz.results115 rfl rfl rfl rfl ?_))))))))
 obtain rfl := hs
 exact ⟨h.grown, rfl⟩
 refine bW (σ := Bool) (inl [15, 16, 17, 18]) (fun x3 => [(15, (.bool (x3)))]) (fun x3 w => SH w0 M BE w (hset []) ∧ eZ a x3 = r) ?_ ?_
 rintro x3 w dx ⟨h, hs⟩
 refine aG hs rfl (fun c4 hs => ?_) (fun c4 hs => ?_)
 refine nG (aa (ae (v := (.bool (true))) rfl) (aa (ae (v := (.bool (true))) rfl) (aa (ae (v := (.bool (false))) rfl) (aa (ae (v := (.bool (true))) rfl) (nR (aD (ay (U4 (v1 := (.bool (true))) (v2 := (.bool (true))) (v3 := (.bool (false))) (v4 := (.bool (true))) Tryz.results115 rfl rfl rfl rfl ?_))))))))
 obtain rfl := hs
 exact ⟨h.grown, rfl⟩
 refine nG (aa (bz rfl rfl) (aa (ae (v := (.bool (decide ((a : Int) = 3)))) rfl) (nN (aG hs rfl (fun c5 hs => ?_) (fun c5 hs => ?_)))))
 refine nG (aa (ae (v := (.bool (true))) rfl) (aa (ae (v := (.bool (true))) rfl) (aa (ae (v := (.bool (true))) rfl) (aa (ae (v := (.bool (true))) rfl) (nR (aD (ay (U4 (v1 := (.bool (true))) (v2 := (.bool (true))) (v3 := (.bool (true))) (v4 := (.bool (true))) Tryz.results115 rfl rfl rfl rfl ?_))))))))
 obtain rfl := hs
 exact ⟨h.grown, rfl⟩
 refine bW (σ := Bool) (inl [21, 22, 23]) (fun x6 => [(21, (.bool (x6)))]) (fun x6 w => SH w0 M BE w (hset []) ∧ fI x6 = r) ?_ ?_
 rintro x6 w dx ⟨h, hs⟩
 refine aG hs rfl (fun c7 hs => ?_) (fun c7 hs => ?_)
 refine nG (aa (ae (v := (.bool (false))) rfl) (aa (ae (v := (.bool (false))) rfl) (aa (ae (v := (.bool (false))) rfl) (aa (ae (v := (.bool (true))) rfl) (nR (aD (ay (U4 (v1 := (.bool (false))) (v2 := (.bool (false))) (v3 := (.bool (false))) (v4 := (.bool (true))) Tryz.results115 rfl rfl rfl rfl ?_))))))))
 obtain rfl := hs
 exact ⟨h.grown, rfl⟩
 refine aF (ax (ak (nG (aa (ae (v := (.bool (false))) rfl) (aa (ae (v := (.bool (false))) rfl) (aa (ae (v := (.bool (false))) rfl) (aa (ae (v := (.bool (false))) rfl) (nR (U4 (v1 := (.bool (false))) (v2 := (.bool (false))) (v3 := (.bool (false))) (v4 := (.bool (false))) Tryz.results115 rfl rfl rfl rfl ?_)))))))))
 obtain rfl := hs
 exact ⟨h.grown, rfl⟩
 refine nG (aa (bz rfl rfl) (aa (ae (v := (.bool (decide ((a : Int) = 10)))) rfl) (nN (aG hs rfl (fun c8 hs => ?_) (fun c8 hs => ?_)))))
 refine aF (au ?_)
 exact bP (decide ((a : Int) = 10)) ⟨h.cn _, hs⟩
 refine aC (aa (bz rfl rfl) (aa (ae (v := (.bool (decide ((a : Int) = 12)))) rfl) (az (au ?_))))
 exact bP (decide ((a : Int) = 12)) ⟨h.cn _, hs⟩
 refine nG (aa (bz rfl rfl) (aa (ae (v := (.bool (decide ((a : Int) = 2)))) rfl) (nN (aG hs rfl (fun c9 hs => ?_) (fun c9 hs => ?_)))))
 refine aF (au ?_)
 exact bP (decide ((a : Int) = 2)) ⟨h.cn _, hs⟩
 refine nG (aa (bz rfl rfl) (aa (ae (v := (.bool (decide ((a : Int) = 4)))) rfl) (nN (aG hs rfl (fun c10 hs => ?_) (fun c10 hs => ?_)))))
 refine aF (au ?_)
 exact bP (decide ((a : Int) = 4)) ⟨h.cn _, hs⟩
 refine aC (aa (bz rfl rfl) (aa (ae (v := (.bool (decide ((a : Int) = 6)))) rfl) (az (au ?_))))
 exact bP (decide ((a : Int) = 6)) ⟨h.cn _, hs⟩
 refine nG (aa (bz rfl rfl) (aa (ae (v := (.bool (decide ((a : Int) = 1)))) rfl) (nN (aG hs rfl (fun c11 hs => ?_) (fun c11 hs => ?_)))))
 refine aF (au ?_)
 exact bP (decide ((a : Int) = 1)) ⟨h.cn _, hs⟩
 refine nG (aa (bz rfl rfl) (aa (ae (v := (.bool (decide ((a : Int) = 5)))) rfl) (nN (aG hs rfl (fun c12 hs => ?_) (fun c12 hs => ?_)))))
 refine aF (au ?_)
 exact bP (decide ((a : Int) = 5)) ⟨h.cn _, hs⟩
 refine nG (aa (bz rfl rfl) (aa (ae (v := (.bool (decide ((a : Int) = 8)))) rfl) (nN (aG hs rfl (fun c13 hs => ?_) (fun c13 hs => ?_)))))
 refine aF (au ?_)
 exact bP (decide ((a : Int) = 8)) ⟨h.cn _, hs⟩
 refine nG (aa (bz rfl rfl) (aa (ae (v := (.bool (decide ((a : Int) = 9)))) rfl) (nN (aG hs rfl (fun c14 hs => ?_) (fun c14 hs => ?_)))))
 refine aF (au ?_)
 exact bP (decide ((a : Int) = 9)) ⟨h.cn _, hs⟩
 refine nG (aa (bz rfl rfl) (aa (ae (v := (.bool (decide ((a : Int) = 11)))) rfl) (nN (aG hs rfl (fun c15 hs => ?_) (fun c15 hs => ?_)))))
 refine aF (au ?_)
 exact bP (decide ((a : Int) = 11)) ⟨h.cn _, hs⟩
 refine nG (aa (bz rfl rfl) (aa (ae (v := (.bool (decide ((a : Int) = 13)))) rfl) (nN (aG hs rfl (fun c16 hs => ?_) (fun c16 hs => ?_)))))
 refine aF (au ?_)
 exact bP (decide ((a : Int) = 13)) ⟨h.cn _, hs⟩
 refine aC (aa (bz rfl rfl) (aa (ae (v := (.bool (decide ((a : Int) = 7)))) rfl) (az (au ?_))))
 exact bP (decide ((a : Int) = 7)) ⟨h.cn _, hs⟩
def eB (a : Bool) (b : Int) (j3 : Int) : Bool :=
  ((!a) || (decide ((0 : Int) ≤ b) && decide ((b : Int) < j3)))
theorem Bi (w0 : World) (M : BS) (hM : ∀ b, M b → b < w0.heap.size) (a : Bool) (b : Int) (j3 : Int) (q0 : Nat) (hq0 : ∃ E, w0.heap[q0]? = some (.cells #[(I6 j3)] E (0, 0))) (r : Bool) (hs : eB a b j3 = r) :
    Calls Tryz.prog 116 #[(.bool (a)), (I6 b), (.pointer (some ⟨q0, 0, none⟩))] w0 (fun e w' => Grow w0 w' ∧ e = .returned (.bool r)) := by
 refine aN (args := [(.bool (a)), (I6 b), (.pointer (some ⟨q0, 0, none⟩))]) Tryz.func116 rfl Tryz.ntmps116 (bD rfl) ?_
 have h := SH.init hM
 replace h := h.KF 1 (cs := [(I6 j3)]) hq0 bC
 refine nG (aa (ae (v := (.bool (false))) rfl) (nJ (aa (ag (v := (.bool (a))) rfl) (aa (ic rfl) (aa (ag (v := (.bool ((!a)))) rfl) (aA rfl rfl (fun q => ag (v := (I6 b)) rfl) (aA rfl rfl (fun q => pX (dz q) rfl) (aA rfl rfl (fun q => ag (v := (.bool (decide ((0 : Int) ≤ b)))) (dz q)) (mi ((!a) == false) rfl rfl (fun q => ag (v := (I6 b)) rfl) (mi ((!a) == false) rfl rfl (fun q => dZ (k := 0) h 1 rfl aW rfl rfl) (mi ((!a) == false) rfl rfl (fun q => dP (dz q) (dz q)) (aA rfl rfl (fun q => fD (dz q) (Uy q) lX) (aa (gW rfl rfl lX) (aa (ae (v := (.bool (((!a) || (decide ((0 : Int) ≤ b) && decide ((b : Int) < j3)))))) rfl) (nR (bQ (v := (.bool (((!a) || (decide ((0 : Int) ≤ b) && decide ((b : Int) < j3)))))) Tryz.results116 rfl ?_))))))))))))))))
 obtain rfl := hs
 exact ⟨h.grown, rfl⟩
def mK (d : Int) (x20 : Int) (s : Unit) (Yw : Unit → Option Int) : Option Int :=
  bif (!(decide ((0 : Int) ≤ x20) && decide ((x20 : Int) < d))) then some 3 else Yw ()
def rH (s : Unit) : Option Int :=
  some 0
def dS (x9 : Bool) (a : Ins) (b : Int) (Ib : Int) (c : List bN) (y13 : Int) (yu : Int) (d : Int) (Hf : Int) : Option Int :=
  bif (!x9) then some 3 else bif (((decide ((a.a : Int) ≠ Hf) || decide ((a.b : Int) ≠ Ib)) || decide ((a.c : Int) ≠ y13)) || decide (((a.args.length : Int) : Int) ≠ yu)) then some 4 else bif decide ((a.op : Int) = 7) then each (mK d) rH a.args () else some 0
def bZ (a : Ins) (b : Int) (c : List bN) (d : Int) (x9 : Bool) (yu : Int) (Tn : Int) (Ib : Int) (y13 : Int) : Option Int :=
  bif decide ((a.op : Int) = 12) then dS x9 a b Ib c y13 yu d 0 else dS x9 a b Ib c y13 yu d Tn
def dG (a : Ins) (b : Int) (c : List bN) (d : Int) (qp : Bool) : Option Int :=
  bif qp then bZ a b c d ((bK a.op).2.2.2) 0 a.a 0 0 else bif decide ((a.op : Int) = 10) then bZ a b c d ((bK a.op).2.2.2) 0 0 0 0 else bZ a b c d ((bK a.op).2.2.2) 0 a.a a.b 0
def dK (a : Ins) (b : Int) (c : List bN) (d : Int) (e : Int) (x50 : Bool) : Option Int :=
  bif x50 then bZ a b c d (decide ((0 : Int) ≤ a.b) && decide ((a.b : Int) < e)) 0 a.a a.b 0 else bif decide ((a.op : Int) = 7) then bif (decide ((a.b : Int) < 0) || decide (((c.length : Int) : Int) ≤ a.b)) then some 5 else (idx c a.b).bind fun x54 => bZ a b c d ((bK a.op).2.2.2) x54.params a.a a.b 0 else bif decide ((a.op : Int) = 8) then dG a b c d (decide ((a.op : Int) = 8)) else bif decide ((a.op : Int) = 9) then dG a b c d (decide ((a.op : Int) = 9)) else dG a b c d (decide ((a.op : Int) = 11))
def dL (a : Ins) (b : Int) (c : List bN) (d : Int) (e : Int) (x34 : Bool) : Option Int :=
  bif x34 then bZ a b c d (decide ((0 : Int) ≤ a.c) && decide ((a.c : Int) < 4)) 0 a.a a.b a.c else bif decide ((a.op : Int) = 3) then bif decide (((a.args.length : Int) : Int) = 1) then (idx a.args 0).bind fun x38 => bZ a b c d (decide ((1 : Int) ≤ x38) && decide ((x38 : Int) ≤ 5)) 1 a.a a.b a.c else bZ a b c d false 1 a.a a.b a.c else bif decide ((a.op : Int) = 12) then dK a b c d e (decide ((a.op : Int) = 12)) else dK a b c d e (decide ((a.op : Int) = 13))
def gU (a : Ins) (b : Int) (c : List bN) (d : Int) (e : Int) : Option Int :=
  bif (!(bK a.op).2.2.2) then some 4 else bif (((!((!(bK a.op).1) || (decide ((0 : Int) ≤ a.a) && decide ((a.a : Int) < d)))) || (!(eB ((bK a.op).2.1) a.b d))) || (!(eB ((bK a.op).2.2.1) a.c d))) then some 3 else bif decide ((a.op : Int) = 1) then bZ a b c d (decide ((-1000000000 : Int) ≤ a.b) && decide ((a.b : Int) ≤ 1000000000)) 0 a.a a.b 0 else bif decide ((a.op : Int) = 5) then bZ a b c d (decide ((1 : Int) ≤ a.b) && decide ((a.b : Int) ≤ 4)) 0 a.a a.b 0 else bif decide ((a.op : Int) = 4) then dL a b c d e (decide ((a.op : Int) = 4)) else dL a b c d e (decide ((a.op : Int) = 6))
theorem MG (w0 : World) (M : BS) (hM : ∀ b, M b → b < w0.heap.size) (a : Ins) (DU : Value) (ha4 : gB dU w0 BE M DU a.args) (b : Int) (vc : Value) (c : List bN) (hc : gB jF w0 BE M vc c) (d : Int) (e : Int) (r : Int) (hs : gU a b c d e = some r) :
    Calls Tryz.prog 86 #[(.agg #[(I6 a.op), (I6 a.a), (I6 a.b), (I6 a.c), DU]), (I6 b), vc, (I6 d), (I6 e)] w0 (fun e w' => Grow w0 w' ∧ e = .returned (.int .i64 r)) := by
 refine aN (args := [(.agg #[(I6 a.op), (I6 a.a), (I6 a.b), (I6 a.c), DU]), (I6 b), vc, (I6 d), (I6 e)]) Tryz.func86 rfl Tryz.ntmps86 (bD rfl) ?_
 have h := SH.init hM
 replace h := h.fw 1 ha4 bC
 replace h := h.fw 2 hc (cZ bC)
 have hl_c := hc.bV
 refine nG (oW (cs := [(I6 a.op), (I6 a.a), (I6 a.b), (I6 a.c), DU]) h 3 rfl rfl fun w b1 h => oW (cs := [(I6 d)]) h 4 rfl rfl fun w b2 h => aa (ae (v := (I6 0)) rfl) (nJ (aa (ah qa rfl) (aa (aB h 3 rfl aW rfl rfl) (aS Ye rfl rfl (NZ _ _ h.lt a.op _ rfl) ?_)))))
 rintro _ w ⟨k3, rfl⟩
 refine ⟨_, rfl, ?_⟩
 replace h := h.grow k3
 refine aa (ag (v := (.tuple #[(.bool ((bK a.op).1)), (.bool ((bK a.op).2.1)), (.bool ((bK a.op).2.2.1)), (.bool ((bK a.op).2.2.2))])) rfl) (aa (aU rfl rfl) (aa (aU rfl rfl) (aa (aU rfl rfl) (aa (aU rfl rfl) (aa (ae (v := (.bool ((bK a.op).1))) rfl) (aa (ae (v := (.bool ((bK a.op).2.1))) rfl) (aa (ae (v := (.bool ((bK a.op).2.2.1))) rfl) (aa (ae (v := (.bool ((bK a.op).2.2.2))) rfl) (nK (aa (ag (v := (.bool ((bK a.op).2.2.2))) rfl) (aa (ic rfl) (nN (aG hs rfl (fun c4 hs => ?_) (fun c4 hs => ?_))))))))))))))
 refine nG (aa (ae (v := (I6 4)) rfl) (nR (ay (bQ (v := (I6 4)) Tryz.results86 rfl ?_))))
 obtain rfl := fJ hs
 exact ⟨h.grown, rfl⟩
 refine nS (aa (rV (c1 := []) (c2 := [(.pointer (some ⟨b2, 0, none⟩))]) rfl rfl) (aa (ae (v := (.func (.func 116) #[] #[(.pointer (some ⟨b2, 0, none⟩))])) rfl) (nK (aa (ag (v := (.func (.func 116) #[] #[(.pointer (some ⟨b2, 0, none⟩))])) rfl) (aa (ag (v := (.bool ((bK a.op).1))) rfl) (aa (ah kE rfl) (aa (aB h 3 rfl aW rfl rfl) (jK (args := [(.bool ((bK a.op).1)), (I6 a.a), (.pointer (some ⟨b2, 0, none⟩))]) HZ rfl rfl (aN (args := [(.bool ((bK a.op).1)), (I6 a.a), (.pointer (some ⟨b2, 0, none⟩))]) Tryz.func116 rfl Tryz.ntmps116 (bD rfl) (nG (aa (ae (v := (.bool (false))) rfl) (nJ ?_))))))))))))
 refine aa (ag (v := (.bool ((bK a.op).1))) rfl) (aa (ic rfl) (aa (ag (v := (.bool ((!(bK a.op).1)))) rfl) (aA rfl rfl (fun q => ag (v := (I6 a.a)) rfl) (aA rfl rfl (fun q => pX (dz q) rfl) (aA rfl rfl (fun q => ag (v := (.bool (decide ((0 : Int) ≤ a.a)))) (dz q)) (mi ((!(bK a.op).1) == false) rfl rfl (fun q => ag (v := (I6 a.a)) rfl) (mi ((!(bK a.op).1) == false) rfl rfl (fun q => aB h 4 rfl aW rfl rfl) (mi ((!(bK a.op).1) == false) rfl rfl (fun q => dP (dz q) (dz q)) (aA rfl rfl (fun q => fD (dz q) (Uy q) lX) (aa (gW rfl rfl lX) (aa (ae (v := (.bool (((!(bK a.op).1) || (decide ((0 : Int) ≤ a.a) && decide ((a.a : Int) < d)))))) rfl) (nR (bQ (v := (.bool (((!(bK a.op).1) || (decide ((0 : Int) ≤ a.a) && decide ((a.a : Int) < d)))))) Tryz.results116 rfl (⟨_, rfl, ?_⟩))))))))))))))
 refine aa (ic rfl) (aa (ag (v := (.bool ((!((!(bK a.op).1) || (decide ((0 : Int) ≤ a.a) && decide ((a.a : Int) < d))))))) rfl) (aA rfl rfl (fun q => ag (v := (.func (.func 116) #[] #[(.pointer (some ⟨b2, 0, none⟩))])) rfl) (aA rfl rfl (fun q => ag (v := (.bool ((bK a.op).2.1))) rfl) (aA rfl rfl (fun q => ah iR rfl) (aA rfl rfl (fun q => aB h 3 rfl aW (dz q) rfl) (Ii [(.pointer (some ⟨b2, 0, none⟩))] rfl rfl HZ (fun q => (dz q)) (fun q => lN (dz q) (lN (dz q) rfl)) (Bi _ _ h.lt ((bK a.op).2.1) a.b d b2 (h.qV 4 rfl) _ rfl) fun w k5 => ?_))))))
 replace h := h.grow k5
 refine aA rfl rfl (fun q => ic (dz q)) (aa (gW rfl rfl lX) (aa (ag (v := (.bool (((!((!(bK a.op).1) || (decide ((0 : Int) ≤ a.a) && decide ((a.a : Int) < d)))) || (!(eB ((bK a.op).2.1) a.b d)))))) rfl) (aA rfl rfl (fun q => ag (v := (.func (.func 116) #[] #[(.pointer (some ⟨b2, 0, none⟩))])) rfl) (aA rfl rfl (fun q => ag (v := (.bool ((bK a.op).2.2.1))) rfl) (aA rfl rfl (fun q => ah qJ rfl) (aA rfl rfl (fun q => aB h 3 rfl aW (dz q) rfl) (Ii [(.pointer (some ⟨b2, 0, none⟩))] rfl rfl HZ (fun q => (dz q)) (fun q => lN (dz q) (lN (dz q) rfl)) (Bi _ _ h.lt ((bK a.op).2.2.1) a.c d b2 (h.qV 4 rfl) _ rfl) fun w k6 => ?_)))))))
 replace h := h.grow k6
 refine aA rfl rfl (fun q => ic (dz q)) (aa (gW rfl rfl lX) (nN (aG hs rfl (fun c7 hs => ?_) (fun c7 hs => ?_))))
 refine nG (aa (ae (v := (I6 3)) rfl) (nR (ay (bQ (v := (I6 3)) Tryz.results86 rfl ?_))))
 obtain rfl := fJ hs
 exact ⟨h.grown, rfl⟩
 refine nS (aa (ah qJ rfl) (aa (aB h 3 rfl aW rfl rfl) (aa (pX rfl rfl) (aa (ag (v := (.bool (decide ((0 : Int) ≤ a.c)))) rfl) (aA rfl rfl (fun q => ah qJ rfl) (aA rfl rfl (fun q => aB h 3 rfl aW (dz q) rfl) (aA rfl rfl (fun q => dP (dz q) rfl) (aa (fD rfl rfl lX) (aa (ae (v := (.bool ((decide ((0 : Int) ≤ a.c) && decide ((a.c : Int) < 4))))) rfl) (nJ (aa (ae (v := (I6 0)) rfl) (nJ (aa (ah qa rfl) (aa (aB h 3 rfl aW rfl rfl) ?_))))))))))))))
 refine aa (ah kE rfl) (aa (aB h 3 rfl aW rfl rfl) (aa (ah iR rfl) (aa (aB h 3 rfl aW rfl rfl) (aa (dQ (pv := [(0, (I6 a.op)), (1, (I6 a.a)), (2, (I6 a.b))]) (out := [(I6 a.op), (I6 a.a), (I6 a.b), (I6 0), (.slice none 0 0)]) mq rfl ⟨0, 1, [(I6 a.op)], rfl, rfl, rfl, bD rfl, ⟨1, 1, [(I6 a.a)], rfl, rfl, rfl, bD rfl, ⟨2, 1, [(I6 a.b)], rfl, rfl, rfl, bD rfl, rfl⟩⟩⟩) (bU h 5 qh fun w b8 h => dm (vs := [(I6 a.op), (I6 a.a), (I6 a.b), (I6 0), (.slice none 0 0)]) h 5 [(I6 a.op), (I6 a.a), (I6 a.b), (I6 0), (.slice none 0 0)] rfl qh rfl rfl rfl rfl rfl (ai rfl (ai rfl (ai rfl (ai rfl (ai rfl aR))))) fun w h => nN (bW (σ := Bool × Int × Int × Int × Int) (inl ([10, 14, 17] ++ rg 69 91)) (fun ⟨x9, yu, Tn, Ib, y13⟩ => [(14, (.bool (x9))), (17, (I6 yu))]) (fun ⟨x9, yu, Tn, Ib, y13⟩ w => SH w0 M BE w (hset [(1, .sr dU DU a.args), (3, .blk b1 [(I6 a.op), (I6 a.a), (I6 a.b), (I6 a.c), DU]), (4, .blk b2 [(I6 d)]), (5, .blk b8 [(I6 a.op), (I6 Tn), (I6 Ib), (I6 y13), (.slice none 0 0)])]) ∧ bZ a b c d x9 yu Tn Ib y13 = some r) ?_ ?_))))))
 rintro ⟨x9, yu, Tn, Ib, y13⟩ w dx ⟨h, hs⟩
 refine bW (σ := Int) (inl [160, 161, 162, 163]) (fun Hf => []) (fun Hf w => SH w0 M BE w (hset [(1, .sr dU DU a.args), (3, .blk b1 [(I6 a.op), (I6 a.a), (I6 a.b), (I6 a.c), DU]), (4, .blk b2 [(I6 d)]), (5, .blk b8 [(I6 a.op), (I6 Hf), (I6 Ib), (I6 y13), (.slice none 0 0)])]) ∧ dS x9 a b Ib c y13 yu d Hf = some r) ?_ ?_
 rintro Hf w dx ⟨h, hs⟩
 refine aP (nG (aa (ag (v := (.bool (x9))) rfl) (aa (ic rfl) (nN (aG hs rfl (fun c15 hs => ?_) (fun c15 hs => ?_))))))
 refine nG (aa (ae (v := (I6 3)) rfl) (nR (ay (bQ (v := (I6 3)) Tryz.results86 rfl ?_))))
 obtain rfl := fJ hs
 exact ⟨h.grown, rfl⟩
 refine aF (ak (aP (nG (aa (ah kE rfl) (aa (aB h 3 rfl aW rfl rfl) (aa (ah kE rfl) (aa (aB h 5 rfl aW rfl rfl) (aa (gN rfl rfl) (aa (ag (v := (.bool (decide ((a.a : Int) ≠ Hf)))) rfl) (aA rfl rfl (fun q => ah iR rfl) (aA rfl rfl (fun q => aB h 3 rfl aW (dz q) rfl) (aA rfl rfl (fun q => ah iR rfl) (aA rfl rfl (fun q => aB h 5 rfl aW (dz q) rfl) (aA rfl rfl (fun q => gN (dz q) (dz q)) (aa (gW rfl rfl lX) (aa (ag (v := (.bool ((decide ((a.a : Int) ≠ Hf) || decide ((a.b : Int) ≠ Ib))))) rfl) (aA rfl rfl (fun q => ah qJ rfl) (aA rfl rfl (fun q => aB h 3 rfl aW (dz q) rfl) (aA rfl rfl (fun q => ah qJ rfl) (aA rfl rfl (fun q => aB h 5 rfl aW (dz q) rfl) (aA rfl rfl (fun q => gN (dz q) (dz q)) (aa (gW rfl rfl lX) ?_))))))))))))))))))))))
 refine aa (ag (v := (.bool (((decide ((a.a : Int) ≠ Hf) || decide ((a.b : Int) ≠ Ib)) || decide ((a.c : Int) ≠ y13))))) rfl) (aA rfl rfl (fun q => ah xe rfl) (aA rfl rfl (fun q => aB h 3 rfl vP (dz q) rfl) (aA rfl rfl (fun q => bS bY (dz q) (h.gM 1 rfl)) (aA rfl rfl (fun q => ag (v := (I6 yu)) rfl) (aA rfl rfl (fun q => gN (dz q) (dz q)) (aa (gW rfl rfl lX) (nN (aG hs rfl (fun c16 hs => ?_) (fun c16 hs => ?_)))))))))
 refine nG (aa (ae (v := (I6 4)) rfl) (nR (ay (bQ (v := (I6 4)) Tryz.results86 rfl ?_))))
 obtain rfl := fJ hs
 exact ⟨h.grown, rfl⟩
 refine aF (ak (aP (nG (aa (ah qa rfl) (aa (aB h 3 rfl aW rfl rfl) (aa (bz rfl rfl) (nN (aG hs rfl (fun c17 hs => ?_) (fun c17 hs => ?_)))))))))
 refine nG (aa (ah xe rfl) (aa (aB h 3 rfl vP rfl rfl) (aa (bS bY rfl (h.gM 1 rfl)) (aa (ag (v := (I6 0)) rfl) (nN (aO (gF (σ := Nat × Int) (inl ([10, 20] ++ rg 198 9)) (fun ⟨k18, i19⟩ => [(198, (I6 i19))]) (fun ⟨k18, i19⟩ w => SH w0 M BE w (hset [(1, .sr dU DU a.args), (4, .blk b2 [(I6 d)])]) ∧ i19 = (k18 : Int) ∧ each (mK d) rH (a.args.drop k18) () = some r) (fun ⟨k18, i19⟩ => a.args.length - k18) ⟨0, 0⟩ ⟨rfl, trivial⟩ ?_ ?_)))))))
 exact ⟨h.cn _, rfl, hs⟩
 rintro ⟨k18, i19⟩ w dx ⟨h, hik, hs⟩
 refine nG ?_
 refine aa (dP rfl rfl) (nN ?_)
 refine aP (iE rfl (fun e23 => ?_) (fun e23 => ?_))
 refine aF (ak ?_)
 obtain ⟨x20, e24a, e24b⟩ := fV (hik ▸ e23)
 rw [e24b, dI] at hs
 generalize hnx22 : each (mK d) rH (a.args.drop (k18 + 1)) = Yw at hs
 have e24r := gp ((h.gM 1 rfl)).bV hik e23
 refine aP (aO (nG ?_))
 obtain ⟨b26, o27, Yv, h, r29, i25⟩ := h.zg 1 6 rfl bY rfl (iO hik) (gm hik e24a)
 obtain rfl := r29
 refine aa (i25 _ _ _ _ _ _ _ _ _ rfl rfl) (aa (dZ (k := 0) h 6 rfl aW rfl rfl) (aa (ae (v := (I6 x20)) rfl) (nJ (aa (ag (v := (.func (.func 116) #[] #[(.pointer (some ⟨b2, 0, none⟩))])) rfl) (aa (ag (v := (I6 x20)) rfl) (jK (args := [(.bool (true)), (I6 x20), (.pointer (some ⟨b2, 0, none⟩))]) HZ rfl rfl (aN (args := [(.bool (true)), (I6 x20), (.pointer (some ⟨b2, 0, none⟩))]) Tryz.func116 rfl Tryz.ntmps116 (bD rfl) (nG (aa (ae (v := (.bool (false))) rfl) (nJ (aa (ag (v := (.bool (true))) rfl) (aa (ic rfl) (aa (ag (v := (.bool (false))) rfl) (dH rfl rfl (aa (ag (v := (I6 x20)) rfl) (dH rfl rfl ?_))))))))))))))))
 refine aa (pX rfl rfl) (dH rfl rfl (aa (ag (v := (.bool (decide ((0 : Int) ≤ x20)))) rfl) (aA rfl rfl (fun q => ag (v := (I6 x20)) rfl) (aA rfl rfl (fun q => aB h 4 rfl aW rfl rfl) (aA rfl rfl (fun q => dP (dz q) (dz q)) (dH rfl rfl (aa (fD rfl rfl lX) (aa (dn (b := false) (v := (.bool ((decide ((0 : Int) ≤ x20) && decide ((x20 : Int) < d))))) rfl rfl) (aa (ae (v := (.bool ((decide ((0 : Int) ≤ x20) && decide ((x20 : Int) < d))))) rfl) (nR (bQ (v := (.bool ((decide ((0 : Int) ≤ x20) && decide ((x20 : Int) < d))))) Tryz.results116 rfl (⟨_, rfl, ?_⟩))))))))))))
 refine aa (ic rfl) (nN (aG hs rfl (fun c30 hs => ?_) (fun c30 hs => ?_)))
 refine nG (aa (ae (v := (I6 3)) rfl) (nR (aD (ay (ay (aD (ay (bQ (v := (I6 3)) Tryz.results86 rfl ?_))))))))
 obtain rfl := fJ hs
 exact ⟨h.grown, rfl⟩
 refine aF (ax (ak (aC (aa (dw rfl rfl e24r) (aa (ag (v := (I6 ((i19 + 1)))) rfl) (az (au ?_)))))))
 subst hnx22
 exact jV ⟨k18 + 1, i19 + 1⟩ ⟨h.cn _, by omega, hs⟩ (by have := rq e23; dsimp only; omega)
 rw [fZ (hik ▸ e23), gG] at hs
 refine nE (aa (ae (v := (I6 0)) rfl) (nR (bQ (v := (I6 0)) Tryz.results86 rfl ?_)))
 obtain rfl := fJ hs
 exact ⟨h.grown, rfl⟩
 refine nS (aa (ae (v := (I6 0)) rfl) (nR (bQ (v := (I6 0)) Tryz.results86 rfl ?_)))
 obtain rfl := fJ hs
 exact ⟨h.grown, rfl⟩
 refine nG (aa (ah qa rfl) (aa (aB h 3 rfl aW rfl rfl) (aa (bz rfl rfl) (nN (aG hs rfl (fun c31 hs => ?_) (fun c31 hs => ?_))))))
 refine aC (aa (ah kE rfl) (fA h 5 [(I6 a.op), (I6 0), (I6 Ib), (I6 y13), (.slice none 0 0)] rfl aW rfl rfl rfl rfl rfl fun w h => az (au ?_)))
 exact bP 0 ⟨h.cn _, hs⟩
 refine aF (au ?_)
 exact bP Tn ⟨h.cn _, hs⟩
 refine nG (aa (ah qa rfl) (aa (aB h 3 rfl aW rfl rfl) (nN (aO (nG (aa (bz rfl rfl) (aa (ae (v := (.bool (decide ((a.op : Int) = 1)))) rfl) (nN (aG hs rfl (fun c32 hs => ?_) (fun c32 hs => ?_))))))))))
 refine aC (aa (ah iR rfl) (aa (aB h 3 rfl aW rfl rfl) (aa (pX rfl rfl) (aa (ag (v := (.bool (decide ((-1000000000 : Int) ≤ a.b)))) rfl) (aA rfl rfl (fun q => ah iR rfl) (aA rfl rfl (fun q => aB h 3 rfl aW (dz q) rfl) (aA rfl rfl (fun q => Eh (dz q) rfl) (aa (fD rfl rfl lX) (aa (ae (v := (.bool ((decide ((-1000000000 : Int) ≤ a.b) && decide ((a.b : Int) ≤ 1000000000))))) rfl) (az (ax (au ?_))))))))))))
 exact bP ((decide ((-1000000000 : Int) ≤ a.b) && decide ((a.b : Int) ≤ 1000000000)), 0, a.a, a.b, 0) ⟨h.cn _, hs⟩
 refine nG (aa (bz rfl rfl) (aa (ae (v := (.bool (decide ((a.op : Int) = 5)))) rfl) (nN (aG hs rfl (fun c33 hs => ?_) (fun c33 hs => ?_)))))
 refine aC (aa (ah iR rfl) (aa (aB h 3 rfl aW rfl rfl) (aa (pX rfl rfl) (aa (ag (v := (.bool (decide ((1 : Int) ≤ a.b)))) rfl) (aA rfl rfl (fun q => ah iR rfl) (aA rfl rfl (fun q => aB h 3 rfl aW (dz q) rfl) (aA rfl rfl (fun q => Eh (dz q) rfl) (aa (fD rfl rfl lX) (aa (ae (v := (.bool ((decide ((1 : Int) ≤ a.b) && decide ((a.b : Int) ≤ 4))))) rfl) (az (ax (au ?_))))))))))))
 exact bP ((decide ((1 : Int) ≤ a.b) && decide ((a.b : Int) ≤ 4)), 0, a.a, a.b, 0) ⟨h.cn _, hs⟩
 refine bW (σ := Bool) (inl [91, 92, 93]) (fun x34 => [(91, (.bool (x34)))]) (fun x34 w => SH w0 M BE w (hset [(1, .sr dU DU a.args), (2, .sr jF vc c), (3, .blk b1 [(I6 a.op), (I6 a.a), (I6 a.b), (I6 a.c), DU]), (4, .blk b2 [(I6 d)]), (5, .blk b8 [(I6 a.op), (I6 a.a), (I6 a.b), (I6 0), (.slice none 0 0)])]) ∧ dL a b c d e x34 = some r) ?_ ?_
 rintro x34 w dx ⟨h, hs⟩
 refine aG hs rfl (fun c35 hs => ?_) (fun c35 hs => ?_)
 refine rP 5 mixed (by kernel_rfl) h fun w h => aM (ag (v := (.bool ((decide ((0 : Int) ≤ a.c) && decide ((a.c : Int) < 4))))) rfl) (aM (ah qJ rfl) (aM (aB h 3 rfl aW rfl rfl) (aM (ae (v := (.bool ((decide ((0 : Int) ≤ a.c) && decide ((a.c : Int) < 4))))) rfl) (aM (ah qJ rfl) (Be (fA h 5 [(I6 a.op), (I6 a.a), (I6 a.b), (I6 a.c), (.slice none 0 0)] rfl aW rfl rfl rfl rfl rfl fun w h => az (ax (au ?_))))))))
 exact bP ((decide ((0 : Int) ≤ a.c) && decide ((a.c : Int) < 4)), 0, a.a, a.b, a.c) ⟨h.cn _, hs⟩
 refine nG (aa (bz rfl rfl) (aa (ae (v := (.bool (decide ((a.op : Int) = 3)))) rfl) (nN (aG hs rfl (fun c36 hs => ?_) (fun c36 hs => ?_)))))
 refine aP (rP 4 mixed (by kernel_rfl) h fun w h => aM (ah qJ rfl) (aM (aB h 3 rfl aW rfl rfl) (aM (ae (v := (I6 1)) rfl) (aM (ah qJ rfl) (Be (fA h 5 [(I6 a.op), (I6 a.a), (I6 a.b), (I6 a.c), (.slice none 0 0)] rfl aW rfl rfl rfl rfl rfl fun w h => nN (aC (aa (ah xe rfl) (aa (aB h 3 rfl vP rfl rfl) (aa (bS bY rfl (h.gM 1 rfl)) (aa (bz rfl rfl) (aa (ag (v := (.bool (decide (((a.args.length : Int) : Int) = 1)))) rfl) (jf (b := decide (((a.args.length : Int) : Int) = 1)) hs (fun c37 hs => ?_) (fun c37 hs => ?_))))))))))))))
 refine dH rfl (cB c37) (aa (ah xe rfl) (dH rfl (cB c37) (aa (aB h 3 rfl vP rfl rfl) (dH rfl (cB c37) ?_))))
 obtain ⟨x38, e39, hs⟩ := aJ hs
 obtain ⟨b41, o42, cs43, h, r44, i40⟩ := h.zg 1 7 rfl bY rfl (aH e39).1 (aH e39).2
 obtain rfl := r44
 refine aa (i40 _ _ _ _ _ _ _ _ _ rfl rfl) (dH rfl (cB c37) (aa (dZ (k := 0) h 7 rfl aW rfl rfl) (dH rfl (cB c37) (aa (pX rfl rfl) (aa (dn (b := true) (v := (.bool (decide ((1 : Int) ≤ x38)))) (cB c37) rfl) (aa (ag (v := (.bool (decide ((1 : Int) ≤ x38)))) rfl) (aA rfl rfl (fun q => ah xe rfl) (aA rfl rfl (fun q => aB h 3 rfl vP (dz q) rfl) ?_))))))))
 obtain ⟨b46, o47, cs48, h, r49, i45⟩ := h.zg 1 8 rfl bY rfl (aH e39).1 (aH e39).2
 obtain rfl := r49
 refine aA rfl rfl (fun q => i45 _ _ _ _ _ _ _ _ _ (dz q) rfl) (aA rfl rfl (fun q => dZ (k := 0) h 8 rfl aW (dz q) rfl) (aA rfl rfl (fun q => Eh (dz q) rfl) (aa (fD rfl rfl lX) (aa (ae (v := (.bool ((decide ((1 : Int) ≤ x38) && decide ((x38 : Int) ≤ 5))))) rfl) (az (ax (au ?_)))))))
 exact bP ((decide ((1 : Int) ≤ x38) && decide ((x38 : Int) ≤ 5)), 1, a.a, a.b, a.c) ⟨h.cn _, hs⟩
 refine vB rfl (cB c37) rfl (vB rfl (cB c37) rfl (vB rfl (cB c37) rfl (vB rfl (cB c37) rfl (vB rfl (cB c37) rfl (aa (dn (b := false) (v := (.bool (false))) (cB c37) rfl) (aa (ag (v := (.bool (false))) rfl) (gy (b' := false) rfl rfl rfl (gy (b' := false) rfl rfl rfl (gy (b' := false) rfl rfl rfl (gy (b' := false) rfl rfl rfl (gy (b' := false) rfl rfl rfl (aa (dn (b := false) (v := (.bool (false))) rfl rfl) (aa (ae (v := (.bool (false))) rfl) (az (ax (au ?_))))))))))))))))
 exact bP (false, 1, a.a, a.b, a.c) ⟨h.cn _, hs⟩
 refine bW (σ := Bool) (inl [121, 122, 123]) (fun x50 => [(121, (.bool (x50)))]) (fun x50 w => SH w0 M BE w (hset [(1, .sr dU DU a.args), (2, .sr jF vc c), (3, .blk b1 [(I6 a.op), (I6 a.a), (I6 a.b), (I6 a.c), DU]), (4, .blk b2 [(I6 d)]), (5, .blk b8 [(I6 a.op), (I6 a.a), (I6 a.b), (I6 0), (.slice none 0 0)])]) ∧ dK a b c d e x50 = some r) ?_ ?_
 rintro x50 w dx ⟨h, hs⟩
 refine aG hs rfl (fun c51 hs => ?_) (fun c51 hs => ?_)
 refine aC (aa (ah iR rfl) (aa (aB h 3 rfl aW rfl rfl) (aa (pX rfl rfl) (aa (ag (v := (.bool (decide ((0 : Int) ≤ a.b)))) rfl) (aA rfl rfl (fun q => ah iR rfl) (aA rfl rfl (fun q => aB h 3 rfl aW (dz q) rfl) (aA rfl rfl (fun q => ag (v := (I6 e)) rfl) (aA rfl rfl (fun q => dP (dz q) (dz q)) (aa (fD rfl rfl lX) (aa (ae (v := (.bool ((decide ((0 : Int) ≤ a.b) && decide ((a.b : Int) < e))))) rfl) (az (ax (au ?_)))))))))))))
 exact bP ((decide ((0 : Int) ≤ a.b) && decide ((a.b : Int) < e)), 0, a.a, a.b, 0) ⟨h.cn _, hs⟩
 refine nG (aa (bz rfl rfl) (aa (ae (v := (.bool (decide ((a.op : Int) = 7)))) rfl) (nN (aG hs rfl (fun DC hs => ?_) (fun DC hs => ?_)))))
 refine aP (nG (aa (ah iR rfl) (aa (aB h 3 rfl aW rfl rfl) (aa (dP rfl rfl) (aa (ag (v := (.bool (decide ((a.b : Int) < 0)))) rfl) (aA rfl rfl (fun q => ah iR rfl) (aA rfl rfl (fun q => aB h 3 rfl aW (dz q) rfl) (aA rfl rfl (fun q => ag (v := vc) rfl) (aA rfl rfl (fun q => bS jP (dz q) (h.gM 2 rfl)) (aA rfl rfl (fun q => pX (dz q) (dz q)) (aa (gW rfl rfl lX) (nN (aG hs rfl (fun c53 hs => ?_) (fun c53 hs => ?_))))))))))))))
 refine nG (aa (ae (v := (I6 5)) rfl) (nR (ay (aD (ay (bQ (v := (I6 5)) Tryz.results86 rfl ?_))))))
 obtain rfl := fJ hs
 exact ⟨h.grown, rfl⟩
 refine aF (ak (aC (aa (ag (v := vc) rfl) (aa (ah iR rfl) (aa (aB h 3 rfl aW rfl rfl) ?_)))))
 obtain ⟨x54, e55, hs⟩ := aJ hs
 obtain ⟨b57, o58, cs59, h, r60, i56⟩ := h.zg 2 9 rfl jP rfl (aH e55).1 (aH e55).2
 obtain ⟨u61, rfl, g62⟩ := om r60
 replace h := h.bX 10 g62.up
 refine aa (i56 _ _ _ _ _ _ _ _ _ rfl rfl) (aa (ah Ew rfl) (aa (dZ (k := 0) h 9 rfl aW rfl rfl) (aa (ae (v := (I6 x54.params)) rfl) (az (ax (au ?_))))))
 exact bP ((bK a.op).2.2.2, x54.params, a.a, a.b, 0) ⟨h.cn _, hs⟩
 refine bW (σ := Bool) (inl [151, 152, 153, 154]) (fun qp => [(151, (.bool (qp)))]) (fun qp w => SH w0 M BE w (hset [(1, .sr dU DU a.args), (3, .blk b1 [(I6 a.op), (I6 a.a), (I6 a.b), (I6 a.c), DU]), (4, .blk b2 [(I6 d)]), (5, .blk b8 [(I6 a.op), (I6 a.a), (I6 a.b), (I6 0), (.slice none 0 0)])]) ∧ dG a b c d qp = some r) ?_ ?_
 rintro qp w dx ⟨h, hs⟩
 refine aG hs rfl (fun c64 hs => ?_) (fun c64 hs => ?_)
 refine aC (aa (ah iR rfl) (fA h 5 [(I6 a.op), (I6 a.a), (I6 0), (I6 0), (.slice none 0 0)] rfl aW rfl rfl rfl rfl rfl fun w h => az (ax (au ?_))))
 exact bP ((bK a.op).2.2.2, 0, a.a, 0, 0) ⟨h.cn _, hs⟩
 refine nG (aa (bz rfl rfl) (aa (ae (v := (.bool (decide ((a.op : Int) = 10)))) rfl) (nN (aG hs rfl (fun Db hs => ?_) (fun Db hs => ?_)))))
 refine aC (aa (ah kE rfl) (fA h 5 [(I6 a.op), (I6 0), (I6 a.b), (I6 0), (.slice none 0 0)] rfl aW rfl rfl rfl rfl rfl fun w h => aa (ah iR rfl) (fA h 5 [(I6 a.op), (I6 0), (I6 0), (I6 0), (.slice none 0 0)] rfl aW rfl rfl rfl rfl rfl fun w h => az (ax (au ?_)))))
 exact bP ((bK a.op).2.2.2, 0, 0, 0, 0) ⟨h.cn _, hs⟩
 refine aF (ax (au ?_))
 exact bP ((bK a.op).2.2.2, 0, a.a, a.b, 0) ⟨h.cn _, hs⟩
 refine nG (aa (bz rfl rfl) (aa (ae (v := (.bool (decide ((a.op : Int) = 8)))) rfl) (nN (aG hs rfl (fun c66 hs => ?_) (fun c66 hs => ?_)))))
 refine aF (au ?_)
 exact bP (decide ((a.op : Int) = 8)) ⟨h.cn _, hs⟩
 refine nG (aa (bz rfl rfl) (aa (ae (v := (.bool (decide ((a.op : Int) = 9)))) rfl) (nN (aG hs rfl (fun c67 hs => ?_) (fun c67 hs => ?_)))))
 refine aF (au ?_)
 exact bP (decide ((a.op : Int) = 9)) ⟨h.cn _, hs⟩
 refine aC (aa (bz rfl rfl) (aa (ae (v := (.bool (decide ((a.op : Int) = 11)))) rfl) (az (au ?_))))
 exact bP (decide ((a.op : Int) = 11)) ⟨h.cn _, hs⟩
 refine nG (aa (bz rfl rfl) (aa (ae (v := (.bool (decide ((a.op : Int) = 12)))) rfl) (nN (aG hs rfl (fun c68 hs => ?_) (fun c68 hs => ?_)))))
 refine aF (au ?_)
 exact bP (decide ((a.op : Int) = 12)) ⟨h.cn _, hs⟩
 refine aC (aa (bz rfl rfl) (aa (ae (v := (.bool (decide ((a.op : Int) = 13)))) rfl) (az (au ?_))))
 exact bP (decide ((a.op : Int) = 13)) ⟨h.cn _, hs⟩
 refine nG (aa (bz rfl rfl) (aa (ae (v := (.bool (decide ((a.op : Int) = 4)))) rfl) (nN (aG hs rfl (fun Tp hs => ?_) (fun Tp hs => ?_)))))
 refine aF (au ?_)
 exact bP (decide ((a.op : Int) = 4)) ⟨h.cn _, hs⟩
 refine aC (aa (bz rfl rfl) (aa (ae (v := (.bool (decide ((a.op : Int) = 6)))) rfl) (az (au ?_))))
 exact bP (decide ((a.op : Int) = 6)) ⟨h.cn _, hs⟩
def fO (a : List bN) (DV : bN) (i35 : Int) (tX : Ins) (s : Unit) (MH : Unit → Option Int) : Option Int :=
  (gU tX i35 a DV.regs (DV.code.length : Int)).bind fun Kg => bif decide ((Kg : Int) ≠ 0) then some Kg else MH ()
def nH (DV : bN) (lF : Unit → Option Int) (s : Unit) : Option Int :=
  gL (jN ((DV.code.length : Int) - 1)) ((idx DV.code ((DV.code.length : Int) - 1)).bind fun x54 => bif (decide ((x54.op : Int) ≠ 8) && decide ((x54.op : Int) ≠ 12)) then some 4 else lF ())
def jY (a : List bN) (DV : bN) (s : Unit) (lF : Unit → Option Int) : Option Int :=
  eO (fO a DV) (nH DV lF) 0 DV.code ()
def nI (s : Unit) : Option Int :=
  some 0
def iP (i3 : Int) (x4 : bN) (s : Unit) (G7 : Unit → Option Int) : Option Int :=
  bif (((((decide ((x4.params : Int) < 0) || decide ((3 : Int) < x4.params)) || decide ((x4.regs : Int) < 1)) || decide ((x4.regs : Int) < x4.params)) || decide ((40 : Int) < x4.regs)) || (decide ((i3 : Int) = 0) && decide ((0 : Int) < x4.params))) then some 3 else bif (decide (((x4.code.length : Int) : Int) = 0) || decide ((2000 : Int) < (x4.code.length : Int))) then some 2 else G7 ()
def lJ (a : List bN) (s : Unit) : Option Int :=
  each (jY a) nI a ()
def qw (a : List bN) : Option Int :=
  bif (decide (((a.length : Int) : Int) = 0) || decide ((4 : Int) < (a.length : Int))) then some 2 else eO iP (lJ a) 0 a ()
theorem EE (w0 : World) (M : BS) (hM : ∀ b, M b → b < w0.heap.size) (va : Value) (a : List bN) (ha : gB jF w0 BE M va a) (r : Int) (hs : qw a = some r) :
    Calls Tryz.prog 63 #[va] w0 (fun e w' => Grow w0 w' ∧ e = .returned (.int .i64 r)) := by
 refine aN (args := [va]) Tryz.func63 rfl Tryz.ntmps63 (bD rfl) ?_
 have h := SH.init hM
 replace h := h.fw 1 ha bC
 have vR := ha.bV
 refine nG (aa (ae (v := (I6 0)) rfl) (nK (aa (ag (v := va) rfl) (aa (bS jP rfl (h.gM 1 rfl)) (aa (bz rfl rfl) (aa (ag (v := (.bool (decide (((a.length : Int) : Int) = 0)))) rfl) (aA rfl rfl (fun q => ag (v := va) rfl) (aA rfl rfl (fun q => bS jP (dz q) (h.gM 1 rfl)) (aA rfl rfl (fun q => jT (dz q) rfl) (aa (gW rfl rfl lX) (nN (aG hs rfl (fun c1 hs => ?_) (fun c1 hs => ?_)))))))))))))
 refine nG (aa (ae (v := (I6 2)) rfl) (nR (ay (bQ (v := (I6 2)) Tryz.results63 rfl ?_))))
 obtain rfl := fJ hs
 exact ⟨h.grown, rfl⟩
 refine aF (ak (aP (nG (aa (ag (v := va) rfl) (aa (bS jP rfl (h.gM 1 rfl)) (aa (ag (v := (I6 0)) rfl) (nN (aO (gF (σ := Nat × Int) (inl ([2, 3, 4] ++ rg 21 50)) (fun ⟨k2, i3⟩ => [(21, (I6 i3))]) (fun ⟨k2, i3⟩ w => SH w0 M BE w (hset [(1, .sr jF va a)]) ∧ i3 = (k2 : Int) ∧ eO iP (lJ a) i3 (a.drop k2) () = some r) (fun ⟨k2, i3⟩ => a.length - k2) ⟨0, 0⟩ ⟨rfl, trivial⟩ ?_ ?_)))))))))
 exact ⟨h.cn _, rfl, hs⟩
 rintro ⟨k2, i3⟩ w dx ⟨h, hik, hs⟩
 refine nG ?_
 refine aa (dP rfl rfl) (nN ?_)
 refine aP (iE rfl (fun e7 => ?_) (fun e7 => ?_))
 refine aF (ak ?_)
 obtain ⟨x4, e8a, e8b⟩ := fV (hik ▸ e7)
 rw [e8b, iT] at hs
 generalize IE : eO iP (lJ a) (i3 + 1) (a.drop (k2 + 1)) = G7 at hs
 have Vz := gp ((h.gM 1 rfl)).bV hik e7
 refine aP (aO (nG (aa (ag (v := (I6 i3)) rfl) ?_)))
 obtain ⟨b10, o11, cs12, h, r13, i9⟩ := h.zg 1 2 rfl jP rfl (iO hik) (gm hik e8a)
 obtain ⟨KR, rfl, g15⟩ := om r13
 replace h := h.bX 3 g15.up
 refine aa (i9 _ _ _ _ _ _ _ _ _ rfl rfl) (aa (jH (k := 0) (vs := [(I6 x4.params), (I6 x4.regs), KR]) h 2 rfl wK rfl rfl rfl (bD rfl)) (bU h 4 wK fun w b16 h => aa (ae (v := (I6 i3)) rfl) (dm (vs := [(I6 x4.params), (I6 x4.regs), KR]) h 4 [(I6 x4.params), (I6 x4.regs), KR] rfl wK rfl rfl rfl rfl rfl (ai rfl (ai rfl (ai (h.fo 3 rfl).one aR))) fun w h => nK (aa (ah Ew rfl) (aa (aB h 4 rfl aW rfl rfl) (aa (dP rfl rfl) (aa (ag (v := (.bool (decide ((x4.params : Int) < 0)))) rfl) (aA rfl rfl (fun q => ah Ew rfl) (aA rfl rfl (fun q => aB h 4 rfl aW (dz q) rfl) (aA rfl rfl (fun q => jT (dz q) rfl) (aa (gW rfl rfl lX) (aa (ag (v := (.bool ((decide ((x4.params : Int) < 0) || decide ((3 : Int) < x4.params))))) rfl) (aA rfl rfl (fun q => ah Ay rfl) (aA rfl rfl (fun q => aB h 4 rfl aW (dz q) rfl) (aA rfl rfl (fun q => dP (dz q) rfl) (aa (gW rfl rfl lX) (aa (ag (v := (.bool (((decide ((x4.params : Int) < 0) || decide ((3 : Int) < x4.params)) || decide ((x4.regs : Int) < 1))))) rfl) ?_)))))))))))))))))
 refine aA rfl rfl (fun q => ah Ay rfl) (aA rfl rfl (fun q => aB h 4 rfl aW (dz q) rfl) (aA rfl rfl (fun q => ah Ew rfl) (aA rfl rfl (fun q => aB h 4 rfl aW (dz q) rfl) (aA rfl rfl (fun q => dP (dz q) (dz q)) (aa (gW rfl rfl lX) (aa (ag (v := (.bool ((((decide ((x4.params : Int) < 0) || decide ((3 : Int) < x4.params)) || decide ((x4.regs : Int) < 1)) || decide ((x4.regs : Int) < x4.params))))) rfl) (aA rfl rfl (fun q => ah Ay rfl) (aA rfl rfl (fun q => aB h 4 rfl aW (dz q) rfl) (aA rfl rfl (fun q => jT (dz q) rfl) (aa (gW rfl rfl lX) (aa (ag (v := (.bool (((((decide ((x4.params : Int) < 0) || decide ((3 : Int) < x4.params)) || decide ((x4.regs : Int) < 1)) || decide ((x4.regs : Int) < x4.params)) || decide ((40 : Int) < x4.regs))))) rfl) (aA rfl rfl (fun q => ag (v := (I6 i3)) rfl) (aA rfl rfl (fun q => bz (dz q) rfl) (aA rfl rfl (fun q => ag (v := (.bool (decide ((i3 : Int) = 0)))) (dz q)) (mi (((((decide ((x4.params : Int) < 0) || decide ((3 : Int) < x4.params)) || decide ((x4.regs : Int) < 1)) || decide ((x4.regs : Int) < x4.params)) || decide ((40 : Int) < x4.regs)) == false) rfl rfl (fun q => ah Ew rfl) (mi (((((decide ((x4.params : Int) < 0) || decide ((3 : Int) < x4.params)) || decide ((x4.regs : Int) < 1)) || decide ((x4.regs : Int) < x4.params)) || decide ((40 : Int) < x4.regs)) == false) rfl rfl (fun q => aB h 4 rfl aW (dz q) rfl) (mi (((((decide ((x4.params : Int) < 0) || decide ((3 : Int) < x4.params)) || decide ((x4.regs : Int) < 1)) || decide ((x4.regs : Int) < x4.params)) || decide ((40 : Int) < x4.regs)) == false) rfl rfl (fun q => jT (dz q) rfl) (aA rfl rfl (fun q => fD (dz q) (Uy q) lX) (aa (gW rfl rfl lX) (nN (aG hs rfl (fun c17 hs => ?_) (fun c17 hs => ?_))))))))))))))))))))))
 refine nG (aa (ae (v := (I6 3)) rfl) (nR (ay (aD (ay (ay (aD (ay (bQ (v := (I6 3)) Tryz.results63 rfl ?_)))))))))
 obtain rfl := fJ hs
 exact ⟨h.grown, rfl⟩
 refine nS (aa (ah rU rfl) (aa (aB h 4 rfl Bh rfl rfl) (aa (bS jC rfl (h.mM 3 rfl)) (aa (bz rfl rfl) (aa (ag (v := (.bool (decide (((x4.code.length : Int) : Int) = 0)))) rfl) (aA rfl rfl (fun q => ah rU rfl) (aA rfl rfl (fun q => aB h 4 rfl Bh (dz q) rfl) (aA rfl rfl (fun q => bS jC (dz q) (h.mM 3 rfl)) (aA rfl rfl (fun q => jT (dz q) rfl) (aa (gW rfl rfl lX) (nN (aG hs rfl (fun c18 hs => ?_) (fun c18 hs => ?_)))))))))))))
 refine nG (aa (ae (v := (I6 2)) rfl) (nR (aD (ay (ay (aD (ay (bQ (v := (I6 2)) Tryz.results63 rfl ?_))))))))
 obtain rfl := fJ hs
 exact ⟨h.grown, rfl⟩
 refine aF (ax (ak (aC (aa (dw rfl rfl Vz) (aa (ag (v := (I6 ((i3 + 1)))) rfl) (az (au ?_)))))))
 subst IE
 exact jV ⟨k2 + 1, i3 + 1⟩ ⟨h.cn _, by omega, hs⟩ (by have := rq e7; dsimp only; omega)
 rw [fZ (hik ▸ e7), ni] at hs
 refine gV (bA (bA (dE (ak (aP (nG (aa (ag (v := va) rfl) (aa (bS jP rfl (h.gM 1 rfl)) (aa (ag (v := (I6 0)) rfl) (nN (aO (gF (σ := Nat × Int) (inl ([2, 6, 7, 8, 9, 10] ++ rg 73 41)) (fun ⟨k19, i20⟩ => [(73, (I6 i20))]) (fun ⟨k19, i20⟩ w => SH w0 M BE w (hset [(1, .sr jF va a)]) ∧ i20 = (k19 : Int) ∧ each (jY a) nI (a.drop k19) () = some r) (fun ⟨k19, i20⟩ => a.length - k19) ⟨0, 0⟩ ⟨rfl, trivial⟩ ?_ ?_))))))))))))
 exact ⟨h.cn _, rfl, hs⟩
 rintro ⟨k19, i20⟩ w dx ⟨h, hik, hs⟩
 refine nG ?_
 refine aa (dP rfl rfl) (nN ?_)
 refine aP (iE rfl (fun e24 => ?_) (fun e24 => ?_))
 refine aF (ak ?_)
 obtain ⟨DV, e25a, e25b⟩ := fV (hik ▸ e24)
 rw [e25b, dI] at hs
 generalize VY : each (jY a) nI (a.drop (k19 + 1)) = lF at hs
 have e25r := gp ((h.gM 1 rfl)).bV hik e24
 refine aP (aO (nG ?_))
 obtain ⟨b27, o28, cs29, h, r30, i26⟩ := h.zg 1 5 rfl jP rfl (iO hik) (gm hik e25a)
 obtain ⟨u31, rfl, g32⟩ := om r30
 replace h := h.bX 6 g32.up
 refine aa (i26 _ _ _ _ _ _ _ _ _ rfl rfl) (aa (jH (k := 0) (vs := [(I6 DV.params), (I6 DV.regs), u31]) h 5 rfl wK rfl rfl rfl (bD rfl)) (bU h 7 wK fun w b33 h => dm (vs := [(I6 DV.params), (I6 DV.regs), u31]) h 7 [(I6 DV.params), (I6 DV.regs), u31] rfl wK rfl rfl rfl rfl rfl (ai rfl (ai rfl (ai (h.fo 6 rfl).one aR))) fun w h => nK (aa (ah rU rfl) (aa (aB h 7 rfl Bh rfl rfl) (aa (bS jC rfl (h.mM 6 rfl)) (aa (ag (v := (I6 0)) rfl) (nN (aO (gF (σ := Nat × Int) (inl ([2, 7, 8, 9] ++ rg 80 18)) (fun ⟨N7, i35⟩ => [(80, (I6 i35))]) (fun ⟨N7, i35⟩ w => SH w0 M BE w (hset [(1, .sr jF va a), (6, .rd jI u31 DV.code), (7, .blk b33 [(I6 DV.params), (I6 DV.regs), u31])]) ∧ i35 = (N7 : Int) ∧ eO (fO a DV) (nH DV lF) i35 (DV.code.drop N7) () = some r) (fun ⟨N7, i35⟩ => DV.code.length - N7) ⟨0, 0⟩ ⟨rfl, trivial⟩ ?_ ?_)))))))))
 exact ⟨h.cn _, rfl, hs⟩
 rintro ⟨N7, i35⟩ w dx ⟨h, hik, hs⟩
 refine nG ?_
 refine aa (dP rfl rfl) (nN ?_)
 refine aP (iE rfl (fun e39 => ?_) (fun e39 => ?_))
 refine aF (ak ?_)
 obtain ⟨tX, e40a, e40b⟩ := fV (hik ▸ e39)
 rw [e40b, iT] at hs
 generalize We : eO (fO a DV) (nH DV lF) (i35 + 1) (DV.code.drop (N7 + 1)) = MH at hs
 have e40r := gp ((h.mM 6 rfl)).bV hik e39
 refine aP (aO (nG (aa (ag (v := (I6 i35)) rfl) ?_)))
 obtain ⟨b42, o43, cs44, h, r45, i41⟩ := h.Fj 6 8 rfl jC rfl (iO hik) (gm hik e40a)
 obtain ⟨u46, rfl, g47⟩ := CB r45
 replace h := h.bX 9 g47.up
 refine aa (i41 _ _ _ _ _ _ _ _ _ rfl rfl) (aa (jH (k := 0) (vs := [(I6 tX.op), (I6 tX.a), (I6 tX.b), (I6 tX.c), u46]) h 8 rfl qh rfl rfl rfl (bD rfl)) (bU h 10 qh fun w b48 h => aa (ae (v := (I6 i35)) rfl) (dm (vs := [(I6 tX.op), (I6 tX.a), (I6 tX.b), (I6 tX.c), u46]) h 10 [(I6 tX.op), (I6 tX.a), (I6 tX.b), (I6 tX.c), u46] rfl qh rfl rfl rfl rfl rfl (ai rfl (ai rfl (ai rfl (ai rfl (ai (h.fo 9 rfl).one aR))))) fun w h => nJ (aa (cK (vs := [(I6 tX.op), (I6 tX.a), (I6 tX.b), (I6 tX.c), u46]) h 10 rfl qh rfl rfl rfl) (aa (ag (v := (I6 i35)) rfl) (aa (ag (v := va) rfl) (aa (ah Ay rfl) (aa (aB h 7 rfl aW rfl rfl) (aa (ah rU rfl) (aa (aB h 7 rfl Bh rfl rfl) (aa (bS jC rfl (h.mM 6 rfl)) ?_)))))))))))
 obtain ⟨Kg, e50, hs⟩ := aJ hs
 refine aS aaw rfl rfl (MG _ _ h.lt tX u46 (h.mM 9 rfl) i35 va a (h.gM 1 rfl) DV.regs (DV.code.length : Int) _ e50) ?_
 rintro _ w ⟨k51, rfl⟩
 refine ⟨_, rfl, ?_⟩
 replace h := h.grow k51
 refine aa (ae (v := (I6 Kg)) rfl) (nJ (aa (ag (v := (I6 Kg)) rfl) (aa (gN rfl rfl) (nN (aG hs rfl (fun DC hs => ?_) (fun DC hs => ?_))))))
 refine nG (aa (ag (v := (I6 Kg)) rfl) (aa (ae (v := (I6 Kg)) rfl) (nR (aD (ay (ay (aD (ay (aD (ay (ay (aD (ay (bQ (v := (I6 Kg)) Tryz.results63 rfl ?_))))))))))))))
 obtain rfl := fJ hs
 exact ⟨h.grown, rfl⟩
 refine aF (ax (ak (aC (aa (dw rfl rfl e40r) (aa (ag (v := (I6 ((i35 + 1)))) rfl) (az (au ?_)))))))
 subst We
 exact jV ⟨N7 + 1, i35 + 1⟩ ⟨h.cn _, by omega, hs⟩ (by have := rq e39; dsimp only; omega)
 rw [fZ (hik ▸ e39), ni] at hs
 refine nE (aa (ah rU rfl) (aa (aB h 7 rfl Bh rfl rfl) (aa (ah rU rfl) (aa (aB h 7 rfl Bh rfl rfl) (aa (bS jC rfl (h.mM 6 rfl)) ?_)))))
 obtain ⟨a53, hs⟩ := bg hs
 refine aa (mZ rfl rfl a53) ?_
 obtain ⟨x54, e55, hs⟩ := aJ hs
 obtain ⟨b57, o58, cs59, h, r60, i56⟩ := h.Fj 6 11 rfl jC rfl (aH e55).1 (aH e55).2
 obtain ⟨u61, rfl, g62⟩ := CB r60
 replace h := h.bX 12 g62.up
 refine aa (i56 _ _ _ _ _ _ _ _ _ rfl rfl) (aa (ah qa rfl) (aa (dZ (k := 0) h 11 rfl aW rfl rfl) (aa (ae (v := (I6 x54.op)) rfl) (nJ (aa (ag (v := (I6 x54.op)) rfl) (aa (gN rfl rfl) (aa (ag (v := (.bool (decide ((x54.op : Int) ≠ 8)))) rfl) (aA rfl rfl (fun q => ag (v := (I6 x54.op)) rfl) (aA rfl rfl (fun q => gN (dz q) rfl) (aa (fD rfl rfl lX) (nN (aG hs rfl (fun c63 hs => ?_) (fun c63 hs => ?_)))))))))))))
 refine nG (aa (ae (v := (I6 4)) rfl) (nR (aD (ay (ay (aD (ay (bQ (v := (I6 4)) Tryz.results63 rfl ?_))))))))
 obtain rfl := fJ hs
 exact ⟨h.grown, rfl⟩
 refine aF (ax (ak (aC (aa (dw rfl rfl e25r) (aa (ag (v := (I6 ((i20 + 1)))) rfl) (az (au ?_)))))))
 subst VY
 exact jV ⟨k19 + 1, i20 + 1⟩ ⟨h.cn _, by omega, hs⟩ (by have := rq e24; dsimp only; omega)
 rw [fZ (hik ▸ e24), gG] at hs
 refine nE (aa (ae (v := (I6 0)) rfl) (nR (bQ (v := (I6 0)) Tryz.results63 rfl ?_)))
 obtain rfl := fJ hs
 exact ⟨h.grown, rfl⟩
def Wh (a : List bN) : Option (LX.State × Int) :=
  (qw a).bind fun y2 => bif decide ((y2 : Int) ≠ 0) then some ((⟨[], [], 0, 0⟩ : LX.State), y2) else (idx a 0).bind fun x6 => gL (0 ≤ x6.regs ∧ x6.regs * 16 ≤ 140737488355328) (some ((⟨[(⟨0, 0, (List.replicate x6.regs.toNat (⟨0, 0⟩ : Val)), 0⟩ : LX.Frame)], [], 0, 0⟩ : LX.State), 0))
theorem Wi (w0 : World) (M : BS) (hM : ∀ b, M b → b < w0.heap.size) (va : Value) (a : List bN) (ha : gB jF w0 BE M va a) (r : LX.State × Int) (hs : Wh a = some r) :
    Calls Tryz.prog 29 #[va] w0 (fun e w' => Grow w0 w' ∧ ∃ xM, ∃ Bq, e = .returned (.tuple #[.agg #[xM, Bq, .int .i64 r.1.status, .int .i64 r.1.aK], .int .i64 r.2]) ∧ fu dB w' M xM r.1.frames ∧ fu (mP bM) w' M Bq r.1.cells) := by
 refine aN (args := [va]) Tryz.func29 rfl Tryz.ntmps29 (bD rfl) ?_
 have h := SH.init hM
 replace h := h.fw 1 ha bC
 have vR := ha.bV
 refine nG (bU h 2 bE fun w b1 h => aa (ae (v := (I6 0)) rfl) (nK (aa (ag (v := va) rfl) ?_)))
 obtain ⟨y2, e3, hs⟩ := aJ hs
 refine aS Vo rfl rfl (EE _ _ h.lt va a (h.gM 1 rfl) _ e3) ?_
 rintro _ w ⟨k4, rfl⟩
 refine ⟨_, rfl, ?_⟩
 replace h := h.grow k4
 refine aa (ae (v := (I6 y2)) rfl) (nJ (aa (ag (v := (I6 y2)) rfl) (aa (gN rfl rfl) (nN (aG hs rfl (fun c5 hs => ?_) (fun c5 hs => ?_))))))
 refine nG (aa (dQ (pv := []) (out := [(.slice none 0 0), (.slice none 0 0), (I6 0), (I6 0)]) xJ rfl rfl) (aa (ag (v := (I6 y2)) rfl) (dm (vs := [(.slice none 0 0), (.slice none 0 0), (I6 0), (I6 0)]) h 2 [(.slice none 0 0), (.slice none 0 0), (I6 0), (I6 0)] rfl bE rfl rfl rfl rfl rfl (ai rfl (ai rfl (ai rfl (ai rfl aR)))) fun w h => aa (ae (v := (I6 y2)) rfl) (nR (ay (ko (vs := [(.slice none 0 0), (.slice none 0 0), (I6 0), (I6 0)]) (v2 := (I6 y2)) Tryz.results29 rfl rfl h 2 rfl bE rfl ?_))))))
 obtain rfl := fJ hs
 exact ⟨h.grown, _, _, rfl, gB.nil, gB.nil⟩
 refine nS (aa (ag (v := va) rfl) ?_)
 obtain ⟨x6, e7, hs⟩ := aJ hs
 obtain ⟨b9, o10, cs11, h, r12, i8⟩ := h.zg 1 3 rfl jP rfl (aH e7).1 (aH e7).2
 obtain ⟨Pj, rfl, g14⟩ := om r12
 replace h := h.bX 4 g14.up
 refine aa (i8 _ _ _ _ _ _ _ _ _ rfl rfl) (aa (ah Ay rfl) (aa (dZ (k := 1) h 3 rfl aW rfl rfl) ?_))
 obtain ⟨a16, hs⟩ := bg hs
 refine zl (R := bM) (zs := [(I6 0), (I6 0)]) (a := (⟨0, 0⟩ : Val)) h 5 vM bT rfl (by decide) rfl rfl a16 rfl (fun _ _ => rfl) fun w G8 h u15k u15f => aa (dQ (pv := [(2, G8)]) (out := [(I6 0), (I6 0), G8, (I6 0)]) IC rfl ⟨2, 1, [G8], rfl, (je (h.dD 5 rfl).one), rfl, bD rfl, rfl⟩) ?_
 replace h := h.freeze 5 rfl
 refine uQ (R := dB) (vs := [(.agg #[(I6 0), (I6 0), G8, (I6 0)])]) (xs := [(⟨0, 0, (List.replicate x6.regs.toNat (⟨0, 0⟩ : Val)), 0⟩ : LX.Frame)]) h 6 qg rfl rfl rfl ⟨⟨_, rfl, (h.fo 5 rfl)⟩, trivial⟩ rfl fun w H6 h => aa (dQ (pv := [(0, H6)]) (out := [H6, (.slice none 0 0), (I6 0), (I6 0)]) xJ rfl ⟨0, 1, [H6], rfl, (je (h.dD 6 rfl).one), rfl, bD rfl, rfl⟩) (dm (vs := [H6, (.slice none 0 0), (I6 0), (I6 0)]) h 2 [H6, (.slice none 0 0), (I6 0), (I6 0)] rfl bE rfl rfl rfl rfl rfl (ai (h.dD 6 rfl).one (ai rfl (ai rfl (ai rfl aR)))) fun w h => aa (ae (v := (I6 0)) rfl) (nR (ko (vs := [H6, (.slice none 0 0), (I6 0), (I6 0)]) (v2 := (I6 0)) Tryz.results29 rfl rfl h 2 rfl bE rfl ?_)))
 replace h := h.freeze 6 rfl
 obtain rfl := fJ hs
 exact ⟨h.grown, _, _, rfl, h.UO 6 rfl, gB.nil⟩
def cz (a : Val) (b : Int) : Int :=
  bif decide ((a.kind : Int) = 0) then bif decide ((a.n : Int) ≠ 0) then 4 else 0 else bif decide ((a.kind : Int) = 1) then bif (decide ((a.n : Int) < -1000000000) || decide ((1000000000 : Int) < a.n)) then 3 else 0 else bif decide ((a.kind : Int) = 2) then bif (decide ((a.n : Int) < 0) || decide ((b : Int) ≤ a.n)) then 5 else 0 else 4
theorem AU (w0 : World) (M : BS) (hM : ∀ b, M b → b < w0.heap.size) (a : Val) (b : Int) (r : Int) (hs : cz a b = r) :
    Calls Tryz.prog 81 #[(.agg #[(I6 a.kind), (I6 a.n)]), (I6 b)] w0 (fun e w' => Grow w0 w' ∧ e = .returned (.int .i64 r)) := by
 refine aN (args := [(.agg #[(I6 a.kind), (I6 a.n)]), (I6 b)]) Tryz.func81 rfl Tryz.ntmps81 (bD rfl) ?_
 have h := SH.init hM
 refine nG (oW (cs := [(I6 a.kind), (I6 a.n)]) h 1 rfl rfl fun w b1 h => aa (ae (v := (I6 0)) rfl) (nK (aa (ah tQ rfl) (aa (aB h 1 rfl aW rfl rfl) (nN (aO (nG (aa (bz rfl rfl) (aa (ae (v := (.bool (decide ((a.kind : Int) = 0)))) rfl) (nN (aG hs rfl (fun c2 hs => ?_) (fun c2 hs => ?_))))))))))))
 refine nG (aa (ah iG rfl) (aa (aB h 1 rfl aW rfl rfl) (aa (gN rfl rfl) (nN (aG hs rfl (fun c3 hs => ?_) (fun c3 hs => ?_))))))
 refine nG (aa (ae (v := (I6 4)) rfl) (nR (aD (ay (bQ (v := (I6 4)) Tryz.results81 rfl ?_)))))
 obtain rfl := hs
 exact ⟨h.grown, rfl⟩
 refine aF (ax (ak (nG (aa (ae (v := (I6 0)) rfl) (nR (bQ (v := (I6 0)) Tryz.results81 rfl ?_))))))
 obtain rfl := hs
 exact ⟨h.grown, rfl⟩
 refine nG (aa (bz rfl rfl) (aa (ae (v := (.bool (decide ((a.kind : Int) = 1)))) rfl) (nN (aG hs rfl (fun c4 hs => ?_) (fun c4 hs => ?_)))))
 refine nG (aa (ah iG rfl) (aa (aB h 1 rfl aW rfl rfl) (aa (dP rfl rfl) (aa (ag (v := (.bool (decide ((a.n : Int) < -1000000000)))) rfl) (aA rfl rfl (fun q => ah iG rfl) (aA rfl rfl (fun q => aB h 1 rfl aW (dz q) rfl) (aA rfl rfl (fun q => jT (dz q) rfl) (aa (gW rfl rfl lX) (nN (aG hs rfl (fun c5 hs => ?_) (fun c5 hs => ?_)))))))))))
 refine nG (aa (ae (v := (I6 3)) rfl) (nR (aD (ay (bQ (v := (I6 3)) Tryz.results81 rfl ?_)))))
 obtain rfl := hs
 exact ⟨h.grown, rfl⟩
 refine aF (ax (ak (nG (aa (ae (v := (I6 0)) rfl) (nR (bQ (v := (I6 0)) Tryz.results81 rfl ?_))))))
 obtain rfl := hs
 exact ⟨h.grown, rfl⟩
 refine nG (aa (bz rfl rfl) (aa (ae (v := (.bool (decide ((a.kind : Int) = 2)))) rfl) (nN (aG hs rfl (fun c6 hs => ?_) (fun c6 hs => ?_)))))
 refine nG (aa (ah iG rfl) (aa (aB h 1 rfl aW rfl rfl) (aa (dP rfl rfl) (aa (ag (v := (.bool (decide ((a.n : Int) < 0)))) rfl) (aA rfl rfl (fun q => ah iG rfl) (aA rfl rfl (fun q => aB h 1 rfl aW (dz q) rfl) (aA rfl rfl (fun q => ag (v := (I6 b)) rfl) (aA rfl rfl (fun q => pX (dz q) (dz q)) (aa (gW rfl rfl lX) (nN (aG hs rfl (fun c7 hs => ?_) (fun c7 hs => ?_))))))))))))
 refine nG (aa (ae (v := (I6 5)) rfl) (nR (aD (ay (bQ (v := (I6 5)) Tryz.results81 rfl ?_)))))
 obtain rfl := hs
 exact ⟨h.grown, rfl⟩
 refine aF (ax (ak (nG (aa (ae (v := (I6 0)) rfl) (nR (bQ (v := (I6 0)) Tryz.results81 rfl ?_))))))
 obtain rfl := hs
 exact ⟨h.grown, rfl⟩
 refine nG (aa (ae (v := (I6 4)) rfl) (nR (aD (ay (bQ (v := (I6 4)) Tryz.results81 rfl ?_)))))
 obtain rfl := hs
 exact ⟨h.grown, rfl⟩
def gX (a : List (List Val)) (AV : Val) (s : Unit) (Vx : Unit → Int) : Int :=
  bif decide (((cz AV (a.length : Int)) : Int) ≠ 0) then (cz AV (a.length : Int)) else Vx ()
def gu (G7 : Unit → Int) (s : Unit) : Int :=
  G7 ()
def iN (a : List (List Val)) (x4 : List Val) (s : Unit) (G7 : Unit → Int) : Int :=
  bif (decide (((x4.length : Int) : Int) = 0) || decide ((4 : Int) < (x4.length : Int))) then 2 else each (gX a) (gu G7) x4 ()
def gY (s : Unit) : Int :=
  0
def dJ (a : List (List Val)) : Int :=
  bif decide ((24 : Int) < (a.length : Int)) then 2 else each (iN a) gY a ()
theorem Bj (w0 : World) (M : BS) (hM : ∀ b, M b → b < w0.heap.size) (va : Value) (a : List (List Val)) (ha : gB (mP bM) w0 BE M va a) (r : Int) (hs : dJ a = r) :
    Calls Tryz.prog 80 #[va] w0 (fun e w' => Grow w0 w' ∧ e = .returned (.int .i64 r)) := by
 refine aN (args := [va]) Tryz.func80 rfl Tryz.ntmps80 (bD rfl) ?_
 have h := SH.init hM
 replace h := h.fw 1 ha bC
 have vR := ha.bV
 refine nG (aa (ae (v := (I6 0)) rfl) (nK (aa (ag (v := va) rfl) (aa (bS eX rfl (h.gM 1 rfl)) (aa (jT rfl rfl) (nN (aG hs rfl (fun c1 hs => ?_) (fun c1 hs => ?_))))))))
 refine nG (aa (ae (v := (I6 2)) rfl) (nR (ay (bQ (v := (I6 2)) Tryz.results80 rfl ?_))))
 obtain rfl := hs
 exact ⟨h.grown, rfl⟩
 refine aF (ak (aP (nG (aa (ag (v := va) rfl) (aa (bS eX rfl (h.gM 1 rfl)) (aa (ag (v := (I6 0)) rfl) (nN (aO (gF (σ := Nat × Int) (inl ([2, 4, 6, 7] ++ rg 13 27)) (fun ⟨k2, i3⟩ => [(13, (I6 i3))]) (fun ⟨k2, i3⟩ w => SH w0 M BE w (hset [(1, .sr (mP bM) va a)]) ∧ i3 = (k2 : Int) ∧ each (iN a) gY (a.drop k2) () = r) (fun ⟨k2, i3⟩ => a.length - k2) ⟨0, 0⟩ ⟨rfl, trivial⟩ ?_ ?_)))))))))
 exact ⟨h.cn _, rfl, hs⟩
 rintro ⟨k2, i3⟩ w dx ⟨h, hik, hs⟩
 refine nG ?_
 refine aa (dP rfl rfl) (nN ?_)
 refine aP (iE rfl (fun e7 => ?_) (fun e7 => ?_))
 refine aF (ak ?_)
 obtain ⟨x4, e8a, e8b⟩ := fV (hik ▸ e7)
 rw [e8b, dI] at hs
 generalize IE : each (iN a) gY (a.drop (k2 + 1)) = G7 at hs
 have Vz := gp ((h.gM 1 rfl)).bV hik e7
 refine aP (aO (nG ?_))
 obtain ⟨b10, o11, cs12, h, r13, i9⟩ := h.zg 1 2 rfl eX rfl (iO hik) (gm hik e8a)
 obtain ⟨KR, rfl, g15⟩ := r13
 replace h := h.bX 3 g15.up
 refine aa (i9 _ _ _ _ _ _ _ _ _ rfl rfl) (aa (dZ (k := 0) h 2 rfl nA rfl rfl) (aa (ae (v := KR) rfl) (nK (aa (ag (v := KR) rfl) (aa (bS bO rfl (h.mM 3 rfl)) (aa (bz rfl rfl) (aa (ag (v := (.bool (decide (((x4.length : Int) : Int) = 0)))) rfl) (aA rfl rfl (fun q => ag (v := KR) rfl) (aA rfl rfl (fun q => bS bO (dz q) (h.mM 3 rfl)) (aA rfl rfl (fun q => jT (dz q) rfl) (aa (gW rfl rfl lX) (nN (aG hs rfl (fun c16 hs => ?_) (fun c16 hs => ?_))))))))))))))
 refine nG (aa (ae (v := (I6 2)) rfl) (nR (ay (aD (ay (ay (aD (ay (bQ (v := (I6 2)) Tryz.results80 rfl ?_)))))))))
 obtain rfl := hs
 exact ⟨h.grown, rfl⟩
 refine nS (aa (ag (v := KR) rfl) (aa (bS bO rfl (h.mM 3 rfl)) (aa (ag (v := (I6 0)) rfl) (nN (aO (gF (σ := Nat × Int) (inl ([2, 6, 7] ++ rg 27 12)) (fun ⟨k17, i18⟩ => [(27, (I6 i18))]) (fun ⟨k17, i18⟩ w => SH w0 M BE w (hset [(1, .sr (mP bM) va a), (3, .rd bM KR x4)]) ∧ i18 = (k17 : Int) ∧ each (gX a) (gu G7) (x4.drop k17) () = r) (fun ⟨k17, i18⟩ => x4.length - k17) ⟨0, 0⟩ ⟨rfl, trivial⟩ ?_ ?_))))))
 exact ⟨h.cn _, rfl, hs⟩
 rintro ⟨k17, i18⟩ w dx ⟨h, hik, hs⟩
 refine nG ?_
 refine aa (dP rfl rfl) (nN ?_)
 refine aP (iE rfl (fun e22 => ?_) (fun e22 => ?_))
 refine aF (ak ?_)
 obtain ⟨AV, e23a, e23b⟩ := fV (hik ▸ e22)
 rw [e23b, dI] at hs
 generalize Vy : each (gX a) (gu G7) (x4.drop (k17 + 1)) = Vx at hs
 have e23r := gp ((h.mM 3 rfl)).bV hik e22
 refine aP (aO (nG ?_))
 obtain ⟨b25, o26, cs27, h, r28, i24⟩ := h.Fj 3 4 rfl bO rfl (iO hik) (gm hik e23a)
 obtain rfl := r28
 refine aa (i24 _ _ _ _ _ _ _ _ _ rfl rfl) (aa (jH (k := 0) (vs := [(I6 AV.kind), (I6 AV.n)]) h 4 rfl bT rfl rfl rfl (bD rfl)) (bU h 5 bT fun w b29 h => dm (vs := [(I6 AV.kind), (I6 AV.n)]) h 5 [(I6 AV.kind), (I6 AV.n)] rfl bT rfl rfl rfl rfl rfl (ai rfl (ai rfl aR)) fun w h => nJ (aa (cK (vs := [(I6 AV.kind), (I6 AV.n)]) h 5 rfl bT rfl rfl rfl) (aa (ag (v := va) rfl) (aa (bS eX rfl (h.gM 1 rfl)) (aS PG rfl rfl (AU _ _ h.lt AV (a.length : Int) _ rfl) ?_))))))
 rintro _ w ⟨k30, rfl⟩
 refine ⟨_, rfl, ?_⟩
 replace h := h.grow k30
 refine aa (ae (v := (I6 ((cz AV (a.length : Int))))) rfl) (nJ (aa (ag (v := (I6 ((cz AV (a.length : Int))))) rfl) (aa (gN rfl rfl) (nN (aG hs rfl (fun c31 hs => ?_) (fun c31 hs => ?_))))))
 refine nG (aa (ag (v := (I6 ((cz AV (a.length : Int))))) rfl) (aa (ae (v := (I6 ((cz AV (a.length : Int))))) rfl) (nR (aD (ay (ay (aD (aD (ay (ay (aD (ay (bQ (v := (I6 ((cz AV (a.length : Int))))) Tryz.results80 rfl ?_)))))))))))))
 obtain rfl := hs
 exact ⟨h.grown, rfl⟩
 refine aF (ax (ak (aC (aa (dw rfl rfl e23r) (aa (ag (v := (I6 ((i18 + 1)))) rfl) (az (au ?_)))))))
 subst Vy
 exact jV ⟨k17 + 1, i18 + 1⟩ ⟨h.cn _, by omega, hs⟩ (by have := rq e22; dsimp only; omega)
 rw [fZ (hik ▸ e22), gG] at hs
 refine gV (bA (bA (dE (ax (ak (aC (aa (dw rfl rfl Vz) (aa (ag (v := (I6 ((i3 + 1)))) rfl) (az (au ?_))))))))))
 subst IE
 exact jV ⟨k2 + 1, i3 + 1⟩ ⟨h.cn _, by omega, hs⟩ (by have := rq e7; dsimp only; omega)
 rw [fZ (hik ▸ e7), gG] at hs
 refine nE (aa (ae (v := (I6 0)) rfl) (nR (bQ (v := (I6 0)) Tryz.results80 rfl ?_)))
 obtain rfl := hs
 exact ⟨h.grown, rfl⟩
def mD (b : LX.State) (x38 : Val) (s : Unit) (V8 : Unit → Option Int) : Option Int :=
  bif decide (((cz x38 (b.cells.length : Int)) : Int) ≠ 0) then some (cz x38 (b.cells.length : Int)) else V8 ()
def mE (IX : Unit → Option Int) (s : Unit) : Option Int :=
  IX ()
def qM (x9 : LX.Frame) (yF : bN) (b : LX.State) (IX : Unit → Option Int) (zy : Bool) : Option Int :=
  bif zy then some 3 else bif decide (((x9.regs.length : Int) : Int) ≠ yF.regs) then some 4 else each (mD b) (mE IX) x9.regs ()
def qN (a : List bN) (b : LX.State) (i8 : Int) (x9 : LX.Frame) (s : Unit) (IX : Unit → Option Int) : Option Int :=
  bif (decide ((x9.proc : Int) < 0) || decide (((a.length : Int) : Int) ≤ x9.proc)) then some 5 else (idx a x9.proc).bind fun yF => bif (((decide ((x9.at_ : Int) < 0) || decide (((yF.code.length : Int) : Int) ≤ x9.at_)) || decide ((x9.mH : Int) < 0)) || (decide ((i8 : Int) = 0) && decide ((x9.mH : Int) ≠ 0))) then qM x9 yF b IX true else bif decide ((0 : Int) < i8) then gL (jN (i8 - 1)) ((idx b.frames (i8 - 1)).bind fun x54 => qM x9 yF b IX (decide (((x54.regs.length : Int) : Int) ≤ x9.mH))) else qM x9 yF b IX false
def uw (s : Unit) : Option Int :=
  some 0
def xN (a : List bN) (b : LX.State) : Option Int :=
  bif (((decide ((b.status : Int) < 0) || decide ((3 : Int) < b.status)) || decide ((b.aK : Int) < -1000000000)) || decide ((1000000000 : Int) < b.aK)) then some 3 else bif ((decide ((b.status : Int) ≠ 3) && decide ((b.aK : Int) ≠ 0)) || (decide ((b.status : Int) = 1) != decide (((b.frames.length : Int) : Int) = 0))) then some 4 else bif decide ((10 : Int) < (b.frames.length : Int)) then some 2 else bif decide (((dJ b.cells) : Int) ≠ 0) then some (dJ b.cells) else eO (qN a b) uw 0 b.frames ()
theorem Qi (w0 : World) (M : BS) (hM : ∀ b, M b → b < w0.heap.size) (va : Value) (a : List bN) (ha : gB jF w0 BE M va a) (b : LX.State) (vb0 vb1 : Value) (hb0 : gB dB w0 BE M vb0 b.frames) (hb1 : gB (mP bM) w0 BE M vb1 b.cells) (r : Int) (hs : xN a b = some r) :
    Calls Tryz.prog 64 #[va, (.agg #[vb0, vb1, (I6 b.status), (I6 b.aK)])] w0 (fun e w' => Grow w0 w' ∧ e = .returned (.int .i64 r)) := by
 refine aN (args := [va, (.agg #[vb0, vb1, (I6 b.status), (I6 b.aK)])]) Tryz.func64 rfl Tryz.ntmps64 (bD rfl) ?_
 have h := SH.init hM
 replace h := h.fw 1 ha bC
 replace h := h.fw 2 hb0 (cZ bC)
 replace h := h.fw 3 hb1 (cZ (cZ bC))
 have vR := ha.bV
 refine nG (oW (cs := [vb0, vb1, (I6 b.status), (I6 b.aK)]) h 4 rfl rfl fun w b1 h => aa (ae (v := (I6 0)) rfl) (nK (aa (ah lQ rfl) (aa (aB h 4 rfl aW rfl rfl) (aa (dP rfl rfl) (aa (ag (v := (.bool (decide ((b.status : Int) < 0)))) rfl) (aA rfl rfl (fun q => ah lQ rfl) (aA rfl rfl (fun q => aB h 4 rfl aW (dz q) rfl) (aA rfl rfl (fun q => jT (dz q) rfl) (aa (gW rfl rfl lX) (aa (ag (v := (.bool ((decide ((b.status : Int) < 0) || decide ((3 : Int) < b.status))))) rfl) (aA rfl rfl (fun q => ah Aw rfl) (aA rfl rfl (fun q => aB h 4 rfl aW (dz q) rfl) (aA rfl rfl (fun q => dP (dz q) rfl) (aa (gW rfl rfl lX) (aa (ag (v := (.bool (((decide ((b.status : Int) < 0) || decide ((3 : Int) < b.status)) || decide ((b.aK : Int) < -1000000000))))) rfl) (aA rfl rfl (fun q => ah Aw rfl) ?_)))))))))))))))))
 refine aA rfl rfl (fun q => aB h 4 rfl aW (dz q) rfl) (aA rfl rfl (fun q => jT (dz q) rfl) (aa (gW rfl rfl lX) (nN (aG hs rfl (fun c2 hs => ?_) (fun c2 hs => ?_)))))
 refine nG (aa (ae (v := (I6 3)) rfl) (nR (ay (bQ (v := (I6 3)) Tryz.results64 rfl ?_))))
 obtain rfl := fJ hs
 exact ⟨h.grown, rfl⟩
 refine aF (ak (aP (nG (aa (ah lQ rfl) (aa (aB h 4 rfl aW rfl rfl) (aa (gN rfl rfl) (aa (ag (v := (.bool (decide ((b.status : Int) ≠ 3)))) rfl) (aA rfl rfl (fun q => ah Aw rfl) (aA rfl rfl (fun q => aB h 4 rfl aW (dz q) rfl) (aA rfl rfl (fun q => gN (dz q) rfl) (aa (fD rfl rfl lX) (aa (ag (v := (.bool ((decide ((b.status : Int) ≠ 3) && decide ((b.aK : Int) ≠ 0))))) rfl) (aA rfl rfl (fun q => ah lQ rfl) (aA rfl rfl (fun q => aB h 4 rfl aW (dz q) rfl) (aA rfl rfl (fun q => bz (dz q) rfl) (aA rfl rfl (fun q => ah eH rfl) (aA rfl rfl (fun q => aB h 4 rfl jd (dz q) rfl) (aA rfl rfl (fun q => bS dA (dz q) (h.gM 2 rfl)) (aA rfl rfl (fun q => bz (dz q) rfl) (aA rfl rfl (fun q => ZP Tryz.underlying4 (dz q) (dz q)) (aa (gW rfl rfl lX) (az ?_))))))))))))))))))))))
 refine ak (aG hs rfl (fun c3 hs => ?_) (fun c3 hs => ?_))
 refine nG (aa (ae (v := (I6 4)) rfl) (nR (ay (bQ (v := (I6 4)) Tryz.results64 rfl ?_))))
 obtain rfl := fJ hs
 exact ⟨h.grown, rfl⟩
 refine aF (ak (aP (nG (aa (ah eH rfl) (aa (aB h 4 rfl jd rfl rfl) (aa (bS dA rfl (h.gM 2 rfl)) (aa (jT rfl rfl) (nN (aG hs rfl (fun c4 hs => ?_) (fun c4 hs => ?_))))))))))
 refine nG (aa (ae (v := (I6 2)) rfl) (nR (ay (bQ (v := (I6 2)) Tryz.results64 rfl ?_))))
 obtain rfl := fJ hs
 exact ⟨h.grown, rfl⟩
 refine aF (ak (aP (nG (aa (ah jW rfl) (aa (aB h 4 rfl o8 rfl rfl) (aS Vp rfl rfl (Bj _ _ h.lt vb1 b.cells (h.gM 3 rfl) _ rfl) ?_))))))
 rintro _ w ⟨k5, rfl⟩
 refine ⟨_, rfl, ?_⟩
 replace h := h.grow k5
 refine aa (ae (v := (I6 ((dJ b.cells)))) rfl) (nJ (aa (ag (v := (I6 ((dJ b.cells)))) rfl) (aa (gN rfl rfl) (nN (aG hs rfl (fun c6 hs => ?_) (fun c6 hs => ?_))))))
 refine nG (aa (ag (v := (I6 ((dJ b.cells)))) rfl) (aa (ae (v := (I6 ((dJ b.cells)))) rfl) (nR (ay (bQ (v := (I6 ((dJ b.cells)))) Tryz.results64 rfl ?_)))))
 obtain rfl := fJ hs
 exact ⟨h.grown, rfl⟩
 refine aF (ak (aP (nG (aa (ah eH rfl) (aa (aB h 4 rfl jd rfl rfl) (aa (bS dA rfl (h.gM 2 rfl)) (aa (ag (v := (I6 0)) rfl) (nN (aO (gF (σ := Nat × Int) (inl ([4, 6, 7, 8, 10, 11] ++ rg 61 85)) (fun ⟨k7, i8⟩ => [(61, (I6 i8))]) (fun ⟨k7, i8⟩ w => SH w0 M BE w (hset [(1, .sr jF va a), (2, .sr dB vb0 b.frames), (3, .sr (mP bM) vb1 b.cells), (4, .blk b1 [vb0, vb1, (I6 b.status), (I6 b.aK)])]) ∧ i8 = (k7 : Int) ∧ eO (qN a b) uw i8 (b.frames.drop k7) () = some r) (fun ⟨k7, i8⟩ => b.frames.length - k7) ⟨0, 0⟩ ⟨rfl, trivial⟩ ?_ ?_))))))))))
 exact ⟨h.cn _, rfl, hs⟩
 rintro ⟨k7, i8⟩ w dx ⟨h, hik, hs⟩
 refine nG ?_
 refine aa (dP rfl rfl) (nN ?_)
 refine aP (iE rfl (fun e12 => ?_) (fun e12 => ?_))
 refine aF (ak ?_)
 obtain ⟨x9, e13a, e13b⟩ := fV (hik ▸ e12)
 rw [e13b, iT] at hs
 generalize hnx11 : eO (qN a b) uw (i8 + 1) (b.frames.drop (k7 + 1)) = IX at hs
 have e13r := gp ((h.gM 2 rfl)).bV hik e12
 refine aP (aO (nG (aa (ag (v := (I6 i8)) rfl) ?_)))
 obtain ⟨b15, o16, cs17, h, r18, i14⟩ := h.zg 2 5 rfl dA rfl (iO hik) (gm hik e13a)
 obtain ⟨NF, rfl, g20⟩ := vL r18
 replace h := h.bX 6 g20.up
 refine aa (i14 _ _ _ _ _ _ _ _ _ rfl rfl) (aa (jH (k := 0) (vs := [(I6 x9.proc), (I6 x9.at_), NF, (I6 x9.mH)]) h 5 rfl jh rfl rfl rfl (bD rfl)) (bU h 7 jh fun w Ke h => aa (ae (v := (I6 i8)) rfl) (dm (vs := [(I6 x9.proc), (I6 x9.at_), NF, (I6 x9.mH)]) h 7 [(I6 x9.proc), (I6 x9.at_), NF, (I6 x9.mH)] rfl jh rfl rfl rfl rfl rfl (ai rfl (ai rfl (ai (h.fo 6 rfl).one (ai rfl aR)))) fun w h => nK (aa (ah yE rfl) (aa (aB h 7 rfl aW rfl rfl) (aa (dP rfl rfl) (aa (ag (v := (.bool (decide ((x9.proc : Int) < 0)))) rfl) (aA rfl rfl (fun q => ah yE rfl) (aA rfl rfl (fun q => aB h 7 rfl aW (dz q) rfl) (aA rfl rfl (fun q => ag (v := va) rfl) (aA rfl rfl (fun q => bS jP (dz q) (h.gM 1 rfl)) (aA rfl rfl (fun q => pX (dz q) (dz q)) (aa (gW rfl rfl lX) (nN (aG hs rfl (fun c22 hs => ?_) (fun c22 hs => ?_))))))))))))))))
 refine nG (aa (ae (v := (I6 5)) rfl) (nR (ay (aD (ay (ay (aD (ay (bQ (v := (I6 5)) Tryz.results64 rfl ?_)))))))))
 obtain rfl := fJ hs
 exact ⟨h.grown, rfl⟩
 refine nS (aa (ag (v := va) rfl) (aa (ah yE rfl) (aa (aB h 7 rfl aW rfl rfl) ?_)))
 obtain ⟨yF, e24, hs⟩ := aJ hs
 obtain ⟨b26, o27, Yv, h, r29, i25⟩ := h.zg 1 8 rfl jP rfl (aH e24).1 (aH e24).2
 obtain ⟨u30, rfl, g31⟩ := om r29
 replace h := h.bX 9 g31.up
 refine aa (i25 _ _ _ _ _ _ _ _ _ rfl rfl) (aa (jH (k := 0) (vs := [(I6 yF.params), (I6 yF.regs), u30]) h 8 rfl wK rfl rfl rfl (bD rfl)) (bU h 10 wK fun w b32 h => dm (vs := [(I6 yF.params), (I6 yF.regs), u30]) h 10 [(I6 yF.params), (I6 yF.regs), u30] rfl wK rfl rfl rfl rfl rfl (ai rfl (ai rfl (ai (h.fo 9 rfl).one aR))) fun w h => nN (aP (bW (σ := Bool) (inl (rg 81 42)) (fun zy => [(98, (gv (((decide ((x9.at_ : Int) < 0) || decide (((yF.code.length : Int) : Int) ≤ x9.at_)) || decide ((x9.mH : Int) < 0)) == false) (I6 i8))), (100, (gv (((decide ((x9.at_ : Int) < 0) || decide (((yF.code.length : Int) : Int) ≤ x9.at_)) || decide ((x9.mH : Int) < 0)) == false) (.bool (decide ((i8 : Int) = 0))))), (122, (.bool (zy)))]) (fun zy w => SH w0 M BE w (hset [(1, .sr jF va a), (2, .sr dB vb0 b.frames), (3, .sr (mP bM) vb1 b.cells), (4, .blk b1 [vb0, vb1, (I6 b.status), (I6 b.aK)]), (6, .rd bM NF x9.regs), (7, .blk Ke [(I6 x9.proc), (I6 x9.at_), NF, (I6 x9.mH)]), (9, .rd jI u30 yF.code), (10, .blk b32 [(I6 yF.params), (I6 yF.regs), u30])]) ∧ qM x9 yF b IX zy = some r) ?_ ?_))))
 rintro zy w dx ⟨h, hs⟩
 refine aG hs rfl (fun c34 hs => ?_) (fun c34 hs => ?_)
 refine nG (aa (ae (v := (I6 3)) rfl) (nR (ay (aD (ay (ay (aD (ay (bQ (v := (I6 3)) Tryz.results64 rfl ?_)))))))))
 obtain rfl := fJ hs
 exact ⟨h.grown, rfl⟩
 refine aF (ak (aP (nG (aa (ah mV rfl) (aa (aB h 7 rfl nA rfl rfl) (aa (bS bO rfl (h.mM 6 rfl)) (aa (ah Ay rfl) (aa (aB h 10 rfl aW rfl rfl) (aa (gN rfl rfl) (nN (aG hs rfl (fun c35 hs => ?_) (fun c35 hs => ?_))))))))))))
 refine nG (aa (ae (v := (I6 4)) rfl) (nR (ay (aD (ay (ay (aD (ay (bQ (v := (I6 4)) Tryz.results64 rfl ?_)))))))))
 obtain rfl := fJ hs
 exact ⟨h.grown, rfl⟩
 refine nS (aa (ah mV rfl) (aa (aB h 7 rfl nA rfl rfl) (aa (bS bO rfl (h.mM 6 rfl)) (aa (ag (v := (I6 0)) rfl) (nN (aO (gF (σ := Nat × Int) (inl ([4, 10, 11] ++ rg 132 13)) (fun ⟨Zn, i37⟩ => [(132, (I6 i37))]) (fun ⟨Zn, i37⟩ w => SH w0 M BE w (hset [(1, .sr jF va a), (2, .sr dB vb0 b.frames), (3, .sr (mP bM) vb1 b.cells), (4, .blk b1 [vb0, vb1, (I6 b.status), (I6 b.aK)]), (6, .rd bM NF x9.regs)]) ∧ i37 = (Zn : Int) ∧ each (mD b) (mE IX) (x9.regs.drop Zn) () = some r) (fun ⟨Zn, i37⟩ => x9.regs.length - Zn) ⟨0, 0⟩ ⟨rfl, trivial⟩ ?_ ?_)))))))
 exact ⟨h.cn _, rfl, hs⟩
 rintro ⟨Zn, i37⟩ w dx ⟨h, hik, hs⟩
 refine nG ?_
 refine aa (dP rfl rfl) (nN ?_)
 refine aP (iE rfl (fun e41 => ?_) (fun e41 => ?_))
 refine aF (ak ?_)
 obtain ⟨x38, e42a, e42b⟩ := fV (hik ▸ e41)
 rw [e42b, dI] at hs
 generalize V9 : each (mD b) (mE IX) (x9.regs.drop (Zn + 1)) = V8 at hs
 have e42r := gp ((h.mM 6 rfl)).bV hik e41
 refine aP (aO (nG ?_))
 obtain ⟨Tq, o45, cs46, h, r47, i43⟩ := h.Fj 6 11 rfl bO rfl (iO hik) (gm hik e42a)
 obtain rfl := r47
 refine aa (i43 _ _ _ _ _ _ _ _ _ rfl rfl) (aa (jH (k := 0) (vs := [(I6 x38.kind), (I6 x38.n)]) h 11 rfl bT rfl rfl rfl (bD rfl)) (bU h 12 bT fun w b48 h => dm (vs := [(I6 x38.kind), (I6 x38.n)]) h 12 [(I6 x38.kind), (I6 x38.n)] rfl bT rfl rfl rfl rfl rfl (ai rfl (ai rfl aR)) fun w h => nJ (aa (cK (vs := [(I6 x38.kind), (I6 x38.n)]) h 12 rfl bT rfl rfl rfl) (aa (ah jW rfl) (aa (aB h 4 rfl o8 rfl rfl) (aa (bS eX rfl (h.gM 3 rfl)) (aS PG rfl rfl (AU _ _ h.lt x38 (b.cells.length : Int) _ rfl) ?_)))))))
 rintro _ w ⟨k49, rfl⟩
 refine ⟨_, rfl, ?_⟩
 replace h := h.grow k49
 refine aa (ae (v := (I6 ((cz x38 (b.cells.length : Int))))) rfl) (nJ (aa (ag (v := (I6 ((cz x38 (b.cells.length : Int))))) rfl) (aa (gN rfl rfl) (nN (aG hs rfl (fun c50 hs => ?_) (fun c50 hs => ?_))))))
 refine nG (aa (ag (v := (I6 ((cz x38 (b.cells.length : Int))))) rfl) (aa (ae (v := (I6 ((cz x38 (b.cells.length : Int))))) rfl) (nR (aD (ay (ay (aD (aD (ay (ay (aD (ay (bQ (v := (I6 ((cz x38 (b.cells.length : Int))))) Tryz.results64 rfl ?_)))))))))))))
 obtain rfl := fJ hs
 exact ⟨h.grown, rfl⟩
 refine aF (ax (ak (aC (aa (dw rfl rfl e42r) (aa (ag (v := (I6 ((i37 + 1)))) rfl) (az (au ?_)))))))
 subst V9
 exact jV ⟨Zn + 1, i37 + 1⟩ ⟨h.cn _, by omega, hs⟩ (by have := rq e41; dsimp only; omega)
 rw [fZ (hik ▸ e41), gG] at hs
 refine gV (bA (bA (dE (ax (ak (aC (aa (dw rfl rfl e13r) (aa (ag (v := (I6 ((i8 + 1)))) rfl) (az (au ?_))))))))))
 subst hnx11
 exact jV ⟨k7 + 1, i8 + 1⟩ ⟨h.cn _, by omega, hs⟩ (by have := rq e12; dsimp only; omega)
 refine BC mixed (by kernel_rfl) h fun w h => aM (ah vC rfl) (aM (aB h 7 rfl aW rfl rfl) (aM (dP rfl rfl) (aM (ag (v := (.bool (decide ((x9.at_ : Int) < 0)))) rfl) (uR rfl rfl (fun q => ah vC rfl) (uR rfl rfl (fun q => aB h 7 rfl aW (dz q) rfl) (uR rfl rfl (fun q => ah rU rfl) (uR rfl rfl (fun q => aB h 10 rfl Bh (dz q) rfl) (uR rfl rfl (fun q => bS jC (dz q) (h.mM 9 rfl)) (uR rfl rfl (fun q => pX (dz q) (dz q)) (aM (gW rfl rfl lX) (aM (ag (v := (.bool ((decide ((x9.at_ : Int) < 0) || decide (((yF.code.length : Int) : Int) ≤ x9.at_))))) rfl) (uR rfl rfl (fun q => ah CG rfl) (uR rfl rfl (fun q => aB h 7 rfl aW (dz q) rfl) (uR rfl rfl (fun q => dP (dz q) rfl) (aM (gW rfl rfl lX) (aM (ag (v := (.bool (((decide ((x9.at_ : Int) < 0) || decide (((yF.code.length : Int) : Int) ≤ x9.at_)) || decide ((x9.mH : Int) < 0))))) rfl) (uR rfl rfl (fun q => ag (v := (I6 i8)) rfl) (uR rfl rfl (fun q => bz (dz q) rfl) (uR rfl rfl (fun q => ag (v := (.bool (decide ((i8 : Int) = 0)))) (dz q)) (Rf (((decide ((x9.at_ : Int) < 0) || decide (((yF.code.length : Int) : Int) ≤ x9.at_)) || decide ((x9.mH : Int) < 0)) == false) rfl rfl (fun q => ah CG rfl) (Rf (((decide ((x9.at_ : Int) < 0) || decide (((yF.code.length : Int) : Int) ≤ x9.at_)) || decide ((x9.mH : Int) < 0)) == false) rfl rfl (fun q => aB h 7 rfl aW (dz q) rfl) (Rf (((decide ((x9.at_ : Int) < 0) || decide (((yF.code.length : Int) : Int) ≤ x9.at_)) || decide ((x9.mH : Int) < 0)) == false) rfl rfl (fun q => gN (dz q) rfl) ?_))))))))))))))))))))))
 refine uR rfl rfl (fun q => fD (dz q) (Uy q) lX) (aM (gW rfl rfl lX) (aM (ag (v := (.bool ((((decide ((x9.at_ : Int) < 0) || decide (((yF.code.length : Int) : Int) ≤ x9.at_)) || decide ((x9.mH : Int) < 0)) || (decide ((i8 : Int) = 0) && decide ((x9.mH : Int) ≠ 0)))))) rfl) (jf (b := (((decide ((x9.at_ : Int) < 0) || decide (((yF.code.length : Int) : Int) ≤ x9.at_)) || decide ((x9.mH : Int) < 0)) || (decide ((i8 : Int) = 0) && decide ((x9.mH : Int) ≠ 0)))) hs (fun c51 hs => ?_) (fun c51 hs => ?_))))
 refine gz (b' := true) rfl (cB c51) rfl (gz (b' := true) rfl (cB c51) rfl (gz (b' := true) rfl (cB c51) rfl (rO rfl rfl (rO rfl rfl (rO rfl rfl (rO rfl rfl (rO rfl rfl (rO rfl rfl (rO rfl rfl (rO rfl rfl (rO rfl rfl (rO rfl rfl (rO rfl rfl (gz (b' := true) rfl (cB c51) rfl (aM (dn (b := true) (v := (.bool (true))) (cB c51) rfl) (Am (au ?_)))))))))))))))))
 exact bP true ⟨h.cn _, hs⟩
 refine iX rfl (cB c51) (aM (ag (v := (I6 i8)) rfl) (iX rfl (cB c51) (aM (jT rfl rfl) (iX rfl (cB c51) (aM (ag (v := (.bool (decide ((0 : Int) < i8)))) rfl) (jf (b := decide ((0 : Int) < i8)) hs (fun DC hs => ?_) (fun DC hs => ?_)))))))
 refine iX rfl (cB DC) (aM (ah CG rfl) (iX rfl (cB DC) (aM (aB h 7 rfl aW rfl rfl) (iX rfl (cB DC) (aM (ah eH rfl) (iX rfl (cB DC) (aM (aB h 4 rfl jd rfl rfl) (iX rfl (cB DC) (aM (ag (v := (I6 i8)) rfl) (iX rfl (cB DC) ?_))))))))))
 obtain ⟨a53, hs⟩ := bg hs
 refine aM (mZ rfl rfl a53) (iX rfl (cB DC) ?_)
 obtain ⟨x54, e55, hs⟩ := aJ hs
 obtain ⟨b57, o58, cs59, h, r60, i56⟩ := h.zg 2 13 rfl dA rfl (aH e55).1 (aH e55).2
 obtain ⟨u61, rfl, g62⟩ := vL r60
 replace h := h.bX 14 g62.up
 refine aM (i56 _ _ _ _ _ _ _ _ _ rfl rfl) (iX rfl (cB DC) (aM (ah mV rfl) (iX rfl (cB DC) (aM (dZ (k := 2) h 13 rfl nA rfl rfl) (iX rfl (cB DC) (aM (bS bO rfl (h.mM 14 rfl)) (iX rfl (cB DC) (aM (pX rfl rfl) (iX rfl (cB c51) (aM (dn (b := true) (v := (.bool (decide (((x54.regs.length : Int) : Int) ≤ x9.mH)))) (cB DC) rfl) (aM (dn (b := false) (v := (.bool (decide (((x54.regs.length : Int) : Int) ≤ x9.mH)))) (cB c51) rfl) (Am (au ?_)))))))))))))
 exact bP (decide (((x54.regs.length : Int) : Int) ≤ x9.mH)) ⟨h.cn _, hs⟩
 refine gz (b' := false) rfl (cB DC) rfl (gz (b' := false) rfl (cB DC) rfl (gz (b' := false) rfl (cB DC) rfl (gz (b' := false) rfl (cB DC) rfl (gz (b' := false) rfl (cB DC) rfl (gz (b' := false) rfl (cB DC) rfl (gz (b' := false) rfl (cB DC) rfl (gz (b' := false) rfl (cB DC) rfl (gz (b' := false) rfl (cB DC) rfl (gz (b' := false) rfl (cB DC) rfl (gz (b' := false) rfl (cB DC) rfl (iX rfl (cB c51) (aM (dn (b := false) (v := (.bool (false))) (cB DC) rfl) (aM (dn (b := false) (v := (.bool (false))) (cB c51) rfl) (Am (au ?_)))))))))))))))
 exact bP false ⟨h.cn _, hs⟩
 rw [fZ (hik ▸ e12), ni] at hs
 refine nE (aa (ae (v := (I6 0)) rfl) (nR (bQ (v := (I6 0)) Tryz.results64 rfl ?_)))
 obtain rfl := fJ hs
 exact ⟨h.grown, rfl⟩
def uy (a : List bN) (b : LX.State) : Option Int :=
  (qw a).bind fun y2 => bif decide ((y2 : Int) ≠ 0) then some y2 else (xN a b).bind fun y6 => some y6
theorem uU (w0 : World) (M : BS) (hM : ∀ b, M b → b < w0.heap.size) (va : Value) (a : List bN) (ha : gB jF w0 BE M va a) (b : LX.State) (vb0 vb1 : Value) (hb0 : gB dB w0 BE M vb0 b.frames) (hb1 : gB (mP bM) w0 BE M vb1 b.cells) (r : Int) (hs : uy a b = some r) :
    Calls Tryz.prog 27 #[va, (.agg #[vb0, vb1, (I6 b.status), (I6 b.aK)])] w0 (fun e w' => Grow w0 w' ∧ e = .returned (.int .i64 r)) := by
 refine aN (args := [va, (.agg #[vb0, vb1, (I6 b.status), (I6 b.aK)])]) Tryz.func27 rfl Tryz.ntmps27 (bD rfl) ?_
 have h := SH.init hM
 replace h := h.fw 1 ha bC
 replace h := h.fw 2 hb0 (cZ bC)
 replace h := h.fw 3 hb1 (cZ (cZ bC))
 have vR := ha.bV
 refine nG (oW (cs := [vb0, vb1, (I6 b.status), (I6 b.aK)]) h 4 rfl rfl fun w b1 h => aa (ae (v := (I6 0)) rfl) (nK (aa (ag (v := va) rfl) ?_)))
 obtain ⟨y2, e3, hs⟩ := aJ hs
 refine aS Vo rfl rfl (EE _ _ h.lt va a (h.gM 1 rfl) _ e3) ?_
 rintro _ w ⟨k4, rfl⟩
 refine ⟨_, rfl, ?_⟩
 replace h := h.grow k4
 refine aa (ae (v := (I6 y2)) rfl) (nJ (aa (ag (v := (I6 y2)) rfl) (aa (gN rfl rfl) (nN (aG hs rfl (fun c5 hs => ?_) (fun c5 hs => ?_))))))
 refine nG (aa (ag (v := (I6 y2)) rfl) (aa (ae (v := (I6 y2)) rfl) (nR (ay (bQ (v := (I6 y2)) Tryz.results27 rfl ?_)))))
 obtain rfl := fJ hs
 exact ⟨h.grown, rfl⟩
 refine nS (aa (ag (v := va) rfl) (aa (cK (vs := [vb0, vb1, (I6 b.status), (I6 b.aK)]) h 4 rfl bE rfl rfl rfl) ?_))
 obtain ⟨y6, e7, hs⟩ := aJ hs
 refine aS aar rfl rfl (Qi _ _ h.lt va a (h.gM 1 rfl) b vb0 vb1 (h.gM 2 rfl) (h.gM 3 rfl) _ e7) ?_
 rintro _ w ⟨k8, rfl⟩
 refine ⟨_, rfl, ?_⟩
 replace h := h.grow k8
 refine aa (ae (v := (I6 y6)) rfl) (nR (bQ (v := (I6 y6)) Tryz.results27 rfl ?_))
 obtain rfl := fJ hs
 exact ⟨h.grown, rfl⟩
theorem qx (w0 : World) (M : BS) (hM : ∀ b, M b → b < w0.heap.size) (va : Value) (a : List LX.Frame) (ha : gB dB w0 BE M va a) (r : List LX.Frame) (hs : clone 48 a = some r) :
    Calls Tryz.prog 83 #[va] w0 (fun e w' => Grow w0 w' ∧ ∃ u0, e = .returned u0 ∧ dW dB 49 w' M u0 r ∧ (∀ b, ob u0 b → w0.heap.size ≤ b)) := by
  obtain ⟨hr, hs⟩ := bg hs
  cases hs
  refine aN (args := [va]) Tryz.func83 rfl Tryz.ntmps83 (bD rfl) ?_
  have h := (SH.init hM).fw 1 ha bC
  refine nG (aa (ae rfl) (nN ?_))
  refine aP (nG (aa (ag rfl) (aa (LQ dA rfl (h.gM 1 rfl) rfl) (nN ?_))))
  refine iE rfl (fun c => ?_) (fun c => ?_)
  · obtain ⟨c1, c2⟩ := Al (h.gM 1 rfl) c
    refine nG (aa (ae rfl) (nR (ay ?_)))
    refine bQ (v := .slice none 0 0) Tryz.results83 rfl ?_
    rw [c2]
    exact ⟨h.grown, _, rfl, dW.nil, mh⟩
  · refine aF (ak ?_)
    refine nG ?_
    refine uQ (R := dB) (vs := []) (xs := []) h 2 qg rfl rfl rfl trivial rfl fun w u h => ?_
    refine aa (ag rfl) ?_
    refine mo (R := dB) (m := a) h 2 rfl (h.gM 1 rfl) qg rfl rfl rfl hr.1 hr.2 fun w u h => ?_
    refine aa (ae rfl) (nR ?_)
    refine bQ (v := u) Tryz.results83 rfl ?_
    exact ⟨h.grown, _, rfl, (h.ng 2 rfl).1, (h.ng 2 rfl).2⟩
theorem Br (w0 : World) (M : BS) (hM : ∀ b, M b → b < w0.heap.size) (va : Value) (a : List (List Val)) (ha : gB (mP bM) w0 BE M va a) (r : List (List Val)) (hs : clone 24 a = some r) :
    Calls Tryz.prog 114 #[va] w0 (fun e w' => Grow w0 w' ∧ ∃ u0, e = .returned u0 ∧ dW (mP bM) 47 w' M u0 r ∧ (∀ b, ob u0 b → w0.heap.size ≤ b)) := by
  obtain ⟨hr, hs⟩ := bg hs
  cases hs
  refine aN (args := [va]) Tryz.func114 rfl Tryz.ntmps114 (bD rfl) ?_
  have h := (SH.init hM).fw 1 ha bC
  refine nG (aa (ae rfl) (nN ?_))
  refine aP (nG (aa (ag rfl) (aa (LQ eX rfl (h.gM 1 rfl) rfl) (nN ?_))))
  refine iE rfl (fun c => ?_) (fun c => ?_)
  · obtain ⟨c1, c2⟩ := Al (h.gM 1 rfl) c
    refine nG (aa (ae rfl) (nR (ay ?_)))
    refine bQ (v := .slice none 0 0) Tryz.results114 rfl ?_
    rw [c2]
    exact ⟨h.grown, _, rfl, dW.nil, mh⟩
  · refine aF (ak ?_)
    refine nG ?_
    refine uQ (R := (mP bM)) (vs := []) (xs := []) h 2 rE rfl rfl rfl trivial rfl fun w u h => ?_
    refine aa (ag rfl) ?_
    refine mo (R := (mP bM)) (m := a) h 2 rfl (h.gM 1 rfl) rE rfl rfl rfl hr.1 hr.2 fun w u h => ?_
    refine aa (ae rfl) (nR ?_)
    refine bQ (v := u) Tryz.results114 rfl ?_
    exact ⟨h.grown, _, rfl, (h.ng 2 rfl).1, (h.ng 2 rfl).2⟩
theorem wy (w0 : World) (M : BS) (hM : ∀ b, M b → b < w0.heap.size) (va : Value) (a : List Val) (ha : gB bM w0 BE M va a) (r : List Val) (hs : clone 16 a = some r) :
    Calls Tryz.prog 85 #[va] w0 (fun e w' => Grow w0 w' ∧ ∃ u0, e = .returned u0 ∧ dW bM 51 w' M u0 r ∧ (∀ b, ob u0 b → w0.heap.size ≤ b)) := by
  obtain ⟨hr, hs⟩ := bg hs
  cases hs
  refine aN (args := [va]) Tryz.func85 rfl Tryz.ntmps85 (bD rfl) ?_
  have h := (SH.init hM).fw 1 ha bC
  refine nG (aa (ae rfl) (nN ?_))
  refine aP (nG (aa (ag rfl) (aa (LQ bO rfl (h.gM 1 rfl) rfl) (nN ?_))))
  refine iE rfl (fun c => ?_) (fun c => ?_)
  · obtain ⟨c1, c2⟩ := Al (h.gM 1 rfl) c
    refine nG (aa (ae rfl) (nR (ay ?_)))
    refine bQ (v := .slice none 0 0) Tryz.results85 rfl ?_
    rw [c2]
    exact ⟨h.grown, _, rfl, dW.nil, mh⟩
  · refine aF (ak ?_)
    refine nG ?_
    refine uQ (R := bM) (vs := []) (xs := []) h 2 vM rfl rfl rfl trivial rfl fun w u h => ?_
    refine aa (ag rfl) ?_
    refine mo (R := bM) (m := a) h 2 rfl (h.gM 1 rfl) vM rfl rfl rfl hr.1 hr.2 fun w u h => ?_
    refine aa (ae rfl) (nR ?_)
    refine bQ (v := u) Tryz.results85 rfl ?_
    exact ⟨h.grown, _, rfl, (h.ng 2 rfl).1, (h.ng 2 rfl).2⟩
def xh (a : List (List Val)) (i14 : Int) (s : Unit) (MI : Unit → Option (List (List Val))) : Option (List (List Val)) :=
  (idx a i14).bind fun x20 => (clone 16 x20).bind fun y31 => MI ()
def xk (a : List (List Val)) (s : Unit) : Option (List (List Val)) :=
  some a
def CQ (a : List (List Val)) : Option (List (List Val)) :=
  (clone 24 a).bind fun y1 => upto (xh a) (xk a) 0 ((a.length : Int)).toNat ()
theorem BQ (w0 : World) (M : BS) (hM : ∀ b, M b → b < w0.heap.size) (va : Value) (a : List (List Val)) (ha : gB (mP bM) w0 BE M va a) (r : List (List Val)) (hs : CQ a = some r) :
    Calls Tryz.prog 84 #[va] w0 (fun e w' => Grow w0 w' ∧ ∃ xM, ∃ EF, e = .returned (xM) ∧ Chunk.holds w' M (Chunk.own' ((.two (.own (ed Val).raw 47 xM (List.zip r EF)) (.gZ (dC bM 51 hn EF (List.map (ed Val).sub r)))) : Chunk)) ((.two (.own (ed Val).raw 47 xM (List.zip r EF)) (.gZ (dC bM 51 hn EF (List.map (ed Val).sub r)))) : Chunk) ∧ (∀ b, Chunk.own' ((.two (.own (ed Val).raw 47 xM (List.zip r EF)) (.gZ (dC bM 51 hn EF (List.map (ed Val).sub r)))) : Chunk) b → w0.heap.size ≤ b)) := by
 refine aN (args := [va]) Tryz.func84 rfl Tryz.ntmps84 (bD rfl) ?_
 have h := SH.init hM
 replace h := h.fw 1 ha bC
 have vR := ha.bV
 refine nG (aa (ae (v := (.slice none 0 0)) rfl) (nJ (aa (ag (v := va) rfl) ?_)))
 obtain ⟨y1, e2, hs⟩ := aJ hs
 have z3 := zm e2
 subst z3
 refine aS Yd rfl rfl (Br _ _ h.lt va a (h.gM 1 rfl) _ e2) ?_
 rintro _ w ⟨k7, u4, rfl, g5, g6⟩
 refine ⟨_, rfl, ?_⟩
 replace h := h.jO 2 k7 g5 g6
 obtain ⟨us8, -, h⟩ := h.thaw (N := (ed Val)) (R := bM) (Es := 51) 2 3 4 rfl (by decide) (by decide) (by decide) rfl X4
 refine aa (ae (v := u4) rfl) (nK (aa (ag (v := u4) rfl) (aa (qZ (N := (ed Val)) eX rfl (h.dV 2 rfl) (h.iM 3 rfl)) (aa (ag (v := (I6 0)) rfl) (nN (aO ?_))))))
 have hli14 := (h.gM 1 rfl).bV
 refine gF (σ := Nat × Int × List Value) (inl ([3, 4] ++ rg 9 11)) (fun ⟨k13, i14, FO⟩ => [(9, (I6 i14))]) (fun ⟨k13, i14, FO⟩ w => SH w0 M BE w (hset [(2, .own (ed Val).raw 47 u4 (List.zip a FO)), (3, .gZ (dC bM 51 (hge (k13)) FO (List.map (ed Val).sub a))), (4, .gZ (Et bM (k13) FO (List.map (ed Val).sub a)))]) ∧ i14 = (k13 : Int) ∧ upto (xh a) (xk a) i14 (((a.length : Int)).toNat - k13) () = some r) (fun ⟨k13, i14, FO⟩ => ((a.length : Int)).toNat - k13) ⟨0, 0, us8⟩ ⟨rfl, trivial⟩ ?_ ?_
 exact ⟨h.cn _, rfl, hs⟩
 rintro ⟨k13, i14, FO⟩ w dx ⟨h, hik, hs⟩
 refine nG ?_
 refine aa (dP rfl rfl) (nN ?_)
 refine aP (iE rfl (fun e18 => ?_) (fun e18 => ?_))
 refine aF (ak ?_)
 rw [vw (by have := rq e18; omega)] at hs
 generalize hnx17 : upto (xh a) (xk a) (i14 + 1) (((a.length : Int)).toNat - (k13 + 1)) = MI at hs
 have e19r : jN (i14 + 1) := (by have := rq e18; have := hli14; exact jN.mk (by omega) (by omega))
 refine aP (aO (nG (aa (ag (v := (I6 i14)) rfl) ?_)))
 obtain ⟨x20, e21, hs⟩ := aJ hs
 obtain ⟨u25, e260, r27⟩ := h.Vf 4 x20 rfl (h.iM 3 rfl) (KN hik (aH e21).2) rfl
 have e26 := Zh hik e260
 replace h := h.bX 5 r27
 obtain ⟨Dn, q24, i22⟩ := h.xy 2 rfl eX rfl (aH e21).1 (fE (aH e21).2 e26)
 refine aa (i22 _ _ _ _ _ _ _ _ _ rfl rfl) ?_
 obtain ⟨Yv, m29, r30⟩ := h.Af 2 rfl q24 (fE (aH e21).2 e26)
 obtain ⟨rfl, -⟩ := r30
 refine aa (pY (k := 0) m29 nA rfl rfl) (aa (ae (v := (I6 i14)) rfl) (aa (ae (v := u25) rfl) (nN (aC (aa (ag (v := u4) rfl) (aa (ag (v := (I6 i14)) rfl) (aa (ag (v := u25) rfl) ?_)))))))
 obtain ⟨y31, e32, hs⟩ := aJ hs
 have z33 := zm e32
 subst z33
 refine aS Vr rfl rfl (wy _ _ h.lt u25 x20 (h.mM 5 rfl) _ e32) ?_
 rintro _ w ⟨k37, u34, rfl, g35, g36⟩
 refine ⟨_, rfl, ?_⟩
 replace h := h.jO 6 k37 g35 g36
 obtain ⟨b39, q40, i38⟩ := h.xy 2 rfl eX rfl (aH e21).1 (fE (aH e21).2 e26)
 refine aa (i38 _ _ _ _ _ _ _ _ _ rfl rfl) ?_
 have o41 : (Value.oneCell' u34) = true := (h.dD 6 rfl).one
 refine KD (off := 0) (a' := (x20, u34)) h 2 rfl q40 rfl (fE (aH e21).2 e26) nA rfl rfl o41 rfl (by rintro _ ⟨rfl, _⟩; exact ⟨rfl, o41⟩) fun w h => ?_
 rw [Nv (aH e21).2, Vb hik] at h
 replace h := h.Nz 3 4 6 rfl rfl rfl (by decide) (by decide) (by decide) (KN hik (aH e21).2) (KN hik e26) rfl
 generalize List.set FO k13 u34 = Yx at h
 refine az (ax (ak (aC (aa (dw rfl rfl e19r) (aa (ag (v := (I6 ((i14 + 1)))) rfl) (az (au ?_)))))))
 subst hnx17
 exact jV ⟨k13 + 1, i14 + 1, Yx⟩ ⟨h.cn _, by omega, hs⟩ (by have := rq e18; dsimp only; omega)
 rw [vz (by have := of_decide_eq_false e18; omega)] at hs
 replace h := h.Va 3 rfl (by have := of_decide_eq_false e18; omega)
 replace h := h.fC 4
 refine nE (aa (ag (v := u4) rfl) (aa (ae (v := u4) rfl) (nR (bQ (v := u4) Tryz.results84 rfl ?_))))
 replace h := h.pair 2 3 (by decide)
 obtain rfl := fJ hs
 obtain ⟨o1, o2, o3⟩ := h.q8 2 (C := (.two (.own (ed Val).raw 47 u4 (List.zip a FO)) (.gZ (dC bM 51 hn FO (List.map (ed Val).sub a))) : Chunk)) rfl ⟨trivial, trivial⟩
 exact ⟨o2, u4, FO, rfl, o1, Md o3⟩
def AX (a : LX.State) (i13 : Int) (s : Unit) (nx16 : Unit → Option LX.State) : Option LX.State :=
  (idx a.frames i13).bind fun AV => (clone 16 AV.regs).bind fun Wj => nx16 ()
def AY (a : LX.State) (y7 : List (List Val)) (s : Unit) : Option LX.State :=
  some (⟨a.frames, y7, a.status, a.aK⟩ : LX.State)
def DW (a : LX.State) (y7 : List (List Val)) : Option LX.State :=
  upto (AX a) (AY a y7) 0 ((a.frames.length : Int)).toNat ()
def AZ (a : LX.State) : Option LX.State :=
  (clone 48 a.frames).bind fun Wl => (CQ a.cells).bind fun qy => DW a qy
theorem CR (w0 : World) (M : BS) (hM : ∀ b, M b → b < w0.heap.size) (a : LX.State) (Ef EG : Value) (ha0 : gB dB w0 BE M Ef a.frames) (ha1 : gB (mP bM) w0 BE M EG a.cells) (r : LX.State) (hs : AZ a = some r) :
    Calls Tryz.prog 49 #[(.agg #[Ef, EG, (I6 a.status), (I6 a.aK)])] w0 (fun e w' => Grow w0 w' ∧ ∃ xM, ∃ Bq, ∃ EF, ∃ Qj, e = .returned (.agg #[xM, Bq, .int .i64 r.status, .int .i64 r.aK]) ∧ Chunk.holds w' M (Chunk.own' ((cU xM Bq r.frames EF r.cells Qj) : Chunk)) ((cU xM Bq r.frames EF r.cells Qj) : Chunk) ∧ (∀ b, Chunk.own' ((cU xM Bq r.frames EF r.cells Qj) : Chunk) b → w0.heap.size ≤ b)) := by
 refine aN (args := [(.agg #[Ef, EG, (I6 a.status), (I6 a.aK)])]) Tryz.func49 rfl Tryz.ntmps49 (bD rfl) ?_
 have h := SH.init hM
 replace h := h.fw 1 ha0 bC
 replace h := h.fw 2 ha1 (cZ bC)
 refine nG (oW (cs := [Ef, EG, (I6 a.status), (I6 a.aK)]) h 3 rfl rfl fun w b1 h => bU h 4 bE fun w b2 h => nN (bW (σ := Value × List Value × Value × List Value × List (List Val)) (inl (rg 5 8)) (fun ⟨v3, us4, v5, Nb, y7⟩ => []) (fun ⟨v3, us4, v5, Nb, y7⟩ w => SH w0 M BE w (hset [(3, .blk b1 [v3, v5, (I6 a.status), (I6 a.aK)]), (4, .blk b2 [(.slice none 0 0), (.slice none 0 0), (I6 0), (I6 0)]), (29, .own bR.raw 49 v3 (List.zip a.frames us4)), (30, .gZ (dC bM 51 (hge (0)) us4 (List.map bR.sub a.frames))), (31, .gZ (Et bM (0) us4 (List.map bR.sub a.frames))), (65, .own (ed Val).raw 47 v5 (List.zip y7 Nb)), (66, .gZ (dC bM 51 hn Nb (List.map (ed Val).sub y7)))]) ∧ DW a y7 = some r) ?_ ?_))
 rintro ⟨v3, us4, v5, Nb, y7⟩ w dx ⟨h, hs⟩
 refine aP (nG (aa (ah eH rfl) (aa (aB h 3 rfl jd rfl rfl) (aa (qZ (N := bR) dA rfl (h.dV 29 rfl) (h.iM 30 rfl)) (aa (ag (v := (I6 0)) rfl) (nN (aO ?_)))))))
 have hli13 := PD (h.dV 29 rfl) (h.iM 30 rfl)
 refine gF (σ := Nat × Int × List Value) (inl ([3, 4] ++ rg 16 14)) (fun ⟨k12, i13, IY⟩ => [(16, (I6 i13))]) (fun ⟨k12, i13, IY⟩ w => SH w0 M BE w (hset [(3, .blk b1 [v3, v5, (I6 a.status), (I6 a.aK)]), (4, .blk b2 [(.slice none 0 0), (.slice none 0 0), (I6 0), (I6 0)]), (29, .own bR.raw 49 v3 (List.zip a.frames IY)), (30, .gZ (dC bM 51 (hge (k12)) IY (List.map bR.sub a.frames))), (31, .gZ (Et bM (k12) IY (List.map bR.sub a.frames))), (65, .own (ed Val).raw 47 v5 (List.zip y7 Nb)), (66, .gZ (dC bM 51 hn Nb (List.map (ed Val).sub y7)))]) ∧ i13 = (k12 : Int) ∧ upto (AX a) (AY a y7) i13 (((a.frames.length : Int)).toNat - k12) () = some r) (fun ⟨k12, i13, IY⟩ => ((a.frames.length : Int)).toNat - k12) ⟨0, 0, us4⟩ ⟨rfl, trivial⟩ ?_ ?_
 exact ⟨h.cn _, rfl, hs⟩
 rintro ⟨k12, i13, IY⟩ w dx ⟨h, hik, hs⟩
 refine nG ?_
 refine aa (dP rfl rfl) (nN ?_)
 refine aP (iE rfl (fun e17 => ?_) (fun e17 => ?_))
 refine aF (ak ?_)
 rw [vw (by have := rq e17; omega)] at hs
 generalize hnx16 : upto (AX a) (AY a y7) (i13 + 1) (((a.frames.length : Int)).toNat - (k12 + 1)) = nx16 at hs
 have e18r : jN (i13 + 1) := (by have := rq e17; have := hli13; exact jN.mk (by omega) (by omega))
 refine aP (aO (nG (aa (ag (v := (I6 i13)) rfl) ?_)))
 obtain ⟨AV, e20, hs⟩ := aJ hs
 obtain ⟨u24, e250, r26⟩ := h.Vf 31 AV.regs rfl (h.iM 30 rfl) (KN hik (aH e20).2) rfl
 have e25 := Zh hik e250
 replace h := h.bX 67 r26
 obtain ⟨b22, q23, i21⟩ := h.xy 29 rfl dA rfl (aH e20).1 (fE (aH e20).2 e25)
 refine aa (i21 _ _ _ _ _ _ _ _ _ rfl rfl) ?_
 obtain ⟨cs27, m28, r29⟩ := h.Af 29 rfl q23 (fE (aH e20).2 e25)
 obtain ⟨rfl, -⟩ := r29
 refine aa (pI (k := 0) (vs := [(I6 AV.proc), (I6 AV.at_), u24, (I6 AV.mH)]) m28 jh rfl rfl rfl (bD rfl)) (bU h 68 jh fun w b30 h => aa (ae (v := (I6 i13)) rfl) (dm (vs := [(I6 AV.proc), (I6 AV.at_), u24, (I6 AV.mH)]) h 68 [(I6 AV.proc), (I6 AV.at_), u24, (I6 AV.mH)] rfl jh rfl rfl rfl rfl rfl (ai rfl (ai rfl (ai (h.fo 67 rfl).one (ai rfl aR)))) fun w h => nN (ky (L := (ob v3)) mixed h fun w h => bB 0 (aI.refl _ _) rfl aj (by kernel_rfl) (by kernel_rfl) (by kernel_rfl) (fun w hk => ah eH rfl) (bB 1 (aI.refl _ _) rfl aj (by kernel_rfl) (by kernel_rfl) (by kernel_rfl) (fun w hk => have h := h.rD 29 rfl hk; aB h 3 rfl jd rfl rfl) (bB 2 (aI.refl _ _) rfl aj (by kernel_rfl) (by kernel_rfl) (by kernel_rfl) (fun w hk => ag (v := (I6 i13)) rfl) (bB 3 (aI.refl _ _) rfl aj (by kernel_rfl) (by kernel_rfl) (by kernel_rfl) (fun w hk => ah mV rfl) (bB 4 (aI.refl _ _) rfl aj (by kernel_rfl) (by kernel_rfl) (by kernel_rfl) (fun w hk => have h := h.rD 29 rfl hk; aB h 68 rfl nA rfl rfl) ?_)))))))
 obtain ⟨ws35, Zo⟩ : ∃ x, x = w := ⟨_, rfl⟩
 have MJ : aI (ob v3) ws35 w := Zo ▸ aI.refl (ob v3) w
 refine qX Zo.symm (bF 5 (by kernel_rfl) rfl aj ?_)
 obtain ⟨Wj, N8, hs⟩ := aJ hs
 have Wm := zm N8
 subst Wm
 refine aS Vr rfl rfl (wy _ _ h.lt u24 AV.regs (h.mM 67 rfl) _ N8) ?_
 rintro _ w ⟨N9, EH, rfl, Wn, Oa⟩
 refine ⟨_, rfl, ?_⟩
 replace h := h.jO 129 N9 Wn Oa
 have uq34x5_4q : ∀ b, ob EH b → ws35.heap.size ≤ b := fun b hb => Nat.le_trans MJ.size (Oa b hb)
 replace MJ := MJ.grow N9
 refine az (aQ MJ ?_)
 obtain ⟨bq34x6_2, Wo, Wp⟩ := h.xy 29 rfl dA rfl (aH e20).1 (fE (aH e20).2 e25)
 refine cO 6 MJ rfl (by kernel_rfl) (fun w hk => Wp _ _ _ _ _ _ _ _ _ rfl rfl) (cO 7 MJ rfl (by kernel_rfl) (fun w hk => ah mV rfl) (bF 8 (by kernel_rfl) rfl aj ?_))
 have Ob : (Value.oneCell' EH) = true := (h.dD 129 rfl).one
 refine UT (a' := (AV, EH)) h 29 rfl Wo rfl (fE (aH e20).2 e25) nA rfl rfl Ob rfl (by rintro _ ⟨rfl, _⟩; exact ⟨rfl, Ob⟩) fun w h Wq => ?_
 replace MJ := MJ.same Wq
 rw [Nv (aH e20).2, Vb hik] at h
 replace h := h.Nz 30 31 129 rfl rfl rfl (by decide) (by decide) (by decide) (KN hik (aH e20).2) (KN hik e25) rfl
 generalize List.set IY k12 EH = Tt at h
 refine az (aQ MJ (fB (by kernel_rfl) (ax (ak (aC (aa (dw rfl rfl e18r) (aa (ag (v := (I6 ((i13 + 1)))) rfl) (az (au ?_)))))))))
 subst hnx16
 exact jV ⟨k12 + 1, i13 + 1, Tt⟩ ⟨h.cn _, by omega, hs⟩ (by have := rq e17; dsimp only; omega)
 rw [vz (by have := of_decide_eq_false e17; omega)] at hs
 replace h := h.Va 30 rfl (by have := of_decide_eq_false e17; omega)
 replace h := h.fC 31
 refine nE (aa (cK (vs := [v3, v5, (I6 a.status), (I6 a.aK)]) h 3 rfl bE rfl rfl rfl) (dm (vs := [v3, v5, (I6 a.status), (I6 a.aK)]) h 4 [v3, v5, (I6 a.status), (I6 a.aK)] rfl bE rfl rfl rfl rfl rfl (ai (h.dD 29 rfl).one (ai (h.dD 65 rfl).one (ai rfl (ai rfl aR)))) fun w h => nR (Zg (vs := [v3, v5, (I6 a.status), (I6 a.aK)]) Tryz.results49 rfl h 4 rfl bE rfl ?_)))
 replace h := h.pair 29 30 (by decide)
 replace h := h.pair 29 65 (by decide)
 replace h := h.pair 29 66 (by decide)
 obtain rfl := fJ hs
 obtain ⟨o1, o2, o3⟩ := h.q8 29 (C := (cU v3 v5 a.frames IY y7 Nb)) rfl ⟨⟨⟨trivial, trivial⟩, trivial⟩, trivial⟩
 exact ⟨o2, v3, v5, IY, Nb, rfl, o1, Md o3⟩
 refine ky (L := (fun x => x = b1)) mixed h fun w h => bB 0 (aI.refl _ _) rfl aj (by kernel_rfl) (by kernel_rfl) (by kernel_rfl) (fun w hk => ah eH rfl) (bB 3 (aI.refl _ _) rfl aj (by kernel_rfl) (by kernel_rfl) (by kernel_rfl) (fun w hk => ah jW rfl) ?_)
 obtain ⟨Wl, zI, hs⟩ := aJ hs
 obtain ⟨qy, IZ, hs⟩ := aJ hs
 obtain ⟨Yy, Zp⟩ : ∃ x, x = w := ⟨_, rfl⟩
 have kC : aI (fun x => x = b1) Yy w := Zp ▸ aI.refl (fun x => x = b1) w
 refine qX Zp.symm (oZ 1 4 (by kernel_rfl) rfl aj rfl aj ?_ ?_)
 refine aa (aB h 3 rfl jd rfl rfl) (az (aQ kC (oZ 2 4 (by kernel_rfl) rfl aj rfl aj ?_ ?_)))
 have BR := zm zI
 subst BR
 refine aS PH rfl rfl (qx _ _ h.lt Ef a.frames (h.gM 1 rfl) _ zI) ?_
 rintro _ w ⟨wz, mF, rfl, BU, wB⟩
 refine ⟨_, rfl, ?_⟩
 replace h := h.jO 213 wz BU wB
 have KW : ∀ b, ob mF b → Yy.heap.size ≤ b := fun b hb => Nat.le_trans kC.size (wB b hb)
 replace kC := kC.grow wz
 obtain ⟨zJ, -, h⟩ := h.thaw (N := bR) (R := bM) (Es := 51) 213 214 215 rfl (by decide) (by decide) (by decide) rfl Fy
 refine az (aQ kC (bF 4 (by kernel_rfl) rfl aj (aa (aB h 3 rfl o8 rfl rfl) (az (aQ kC (cO 6 kC rfl (by kernel_rfl) (fun w hk => ah eH rfl) (bF 5 (by kernel_rfl) rfl aj (aS PI rfl rfl (BQ _ _ h.lt EG a.cells (h.gM 2 rfl) _ IZ) ?_))))))))
 rintro _ w ⟨wC, qz, nL, rfl, BV, BX⟩
 refine ⟨_, rfl, ?_⟩
 replace h := h.Fx 249 (C := (.two (.own (ed Val).raw 47 qz (List.zip qy nL)) (.gZ (dC bM 51 hn nL (List.map (ed Val).sub qy))) : Chunk)) wC ⟨trivial, trivial⟩ BV BX
 replace h := h.bG 249 250 (by decide) rfl rfl
 replace kC := kC.grow wC
 refine az (aQ kC (bF 7 (by kernel_rfl) rfl aj (rX h 3 [mF, EG, (I6 a.status), (I6 a.aK)] rfl jd rfl rfl rfl rfl (h.dD 213 rfl).one fun w h BZ => ?_)))
 replace kC := kC.same BZ
 refine az (aQ kC (cO 8 kC rfl (by kernel_rfl) (fun w hk => ah jW rfl) (bF 9 (by kernel_rfl) rfl aj (rX h 3 [mF, qz, (I6 a.status), (I6 a.aK)] rfl o8 rfl rfl rfl rfl (h.dD 249 rfl).one fun w h Ca => ?_))))
 replace kC := kC.same Ca
 refine az (aQ kC (fB (by kernel_rfl) (au ?_)))
 replace h := (h.fC 29).moveC 213 29 rfl rfl (by decide)
 replace h := (h.fC 30).moveC 214 30 rfl rfl (by decide)
 replace h := (h.fC 31).moveC 215 31 rfl rfl (by decide)
 replace h := (h.fC 65).moveC 249 65 rfl rfl (by decide)
 replace h := (h.fC 66).moveC 250 66 rfl rfl (by decide)
 exact bP (mF, zJ, qz, nL, qy) ⟨h.cn _, hs⟩
 refine aa (aB h 3 rfl o8 rfl rfl) (az (aQ kC (bF 2 (by kernel_rfl) rfl aj ?_)))
 have BR := zm zI
 subst BR
 refine aS PH rfl rfl (qx _ _ h.lt Ef a.frames (h.gM 1 rfl) _ zI) ?_
 rintro _ w ⟨wz, mF, rfl, BU, wB⟩
 refine ⟨_, rfl, ?_⟩
 replace h := h.jO 213 wz BU wB
 have KW : ∀ b, ob mF b → Yy.heap.size ≤ b := fun b hb => Nat.le_trans kC.size (wB b hb)
 replace kC := kC.grow wz
 obtain ⟨zJ, -, h⟩ := h.thaw (N := bR) (R := bM) (Es := 51) 213 214 215 rfl (by decide) (by decide) (by decide) rfl Fy
 refine az (aQ kC (cO 6 kC rfl (by kernel_rfl) (fun w hk => ah eH rfl) (bF 5 (by kernel_rfl) rfl aj (aS PI rfl rfl (BQ _ _ h.lt EG a.cells (h.gM 2 rfl) _ IZ) ?_))))
 rintro _ w ⟨wC, qz, nL, rfl, BV, BX⟩
 refine ⟨_, rfl, ?_⟩
 replace h := h.Fx 249 (C := (.two (.own (ed Val).raw 47 qz (List.zip qy nL)) (.gZ (dC bM 51 hn nL (List.map (ed Val).sub qy))) : Chunk)) wC ⟨trivial, trivial⟩ BV BX
 replace h := h.bG 249 250 (by decide) rfl rfl
 replace kC := kC.grow wC
 refine az (aQ kC (bF 7 (by kernel_rfl) rfl aj (rX h 3 [mF, EG, (I6 a.status), (I6 a.aK)] rfl jd rfl rfl rfl rfl (h.dD 213 rfl).one fun w h BZ => ?_)))
 replace kC := kC.same BZ
 refine az (aQ kC (cO 8 kC rfl (by kernel_rfl) (fun w hk => ah jW rfl) (bF 9 (by kernel_rfl) rfl aj (rX h 3 [mF, qz, (I6 a.status), (I6 a.aK)] rfl o8 rfl rfl rfl rfl (h.dD 249 rfl).one fun w h Ca => ?_))))
 replace kC := kC.same Ca
 refine az (aQ kC (fB (by kernel_rfl) (au ?_)))
 replace h := (h.fC 29).moveC 213 29 rfl rfl (by decide)
 replace h := (h.fC 30).moveC 214 30 rfl rfl (by decide)
 replace h := (h.fC 31).moveC 215 31 rfl rfl (by decide)
 replace h := (h.fC 65).moveC 249 65 rfl rfl (by decide)
 replace h := (h.fC 66).moveC 250 66 rfl rfl (by decide)
 exact bP (mF, zJ, qz, nL, qy) ⟨h.cn _, hs⟩
 refine aa (aB h 3 rfl o8 rfl rfl) (az (aQ kC (bF 1 (by kernel_rfl) rfl aj (aa (aB h 3 rfl jd rfl rfl) (az (aQ kC (bF 2 (by kernel_rfl) rfl aj ?_)))))))
 have BR := zm zI
 subst BR
 refine aS PH rfl rfl (qx _ _ h.lt Ef a.frames (h.gM 1 rfl) _ zI) ?_
 rintro _ w ⟨wz, mF, rfl, BU, wB⟩
 refine ⟨_, rfl, ?_⟩
 replace h := h.jO 213 wz BU wB
 have KW : ∀ b, ob mF b → Yy.heap.size ≤ b := fun b hb => Nat.le_trans kC.size (wB b hb)
 replace kC := kC.grow wz
 obtain ⟨zJ, -, h⟩ := h.thaw (N := bR) (R := bM) (Es := 51) 213 214 215 rfl (by decide) (by decide) (by decide) rfl Fy
 refine az (aQ kC (cO 6 kC rfl (by kernel_rfl) (fun w hk => ah eH rfl) (bF 5 (by kernel_rfl) rfl aj (aS PI rfl rfl (BQ _ _ h.lt EG a.cells (h.gM 2 rfl) _ IZ) ?_))))
 rintro _ w ⟨wC, qz, nL, rfl, BV, BX⟩
 refine ⟨_, rfl, ?_⟩
 replace h := h.Fx 249 (C := (.two (.own (ed Val).raw 47 qz (List.zip qy nL)) (.gZ (dC bM 51 hn nL (List.map (ed Val).sub qy))) : Chunk)) wC ⟨trivial, trivial⟩ BV BX
 replace h := h.bG 249 250 (by decide) rfl rfl
 replace kC := kC.grow wC
 refine az (aQ kC (bF 7 (by kernel_rfl) rfl aj (rX h 3 [mF, EG, (I6 a.status), (I6 a.aK)] rfl jd rfl rfl rfl rfl (h.dD 213 rfl).one fun w h BZ => ?_)))
 replace kC := kC.same BZ
 refine az (aQ kC (cO 8 kC rfl (by kernel_rfl) (fun w hk => ah jW rfl) (bF 9 (by kernel_rfl) rfl aj (rX h 3 [mF, qz, (I6 a.status), (I6 a.aK)] rfl o8 rfl rfl rfl rfl (h.dD 249 rfl).one fun w h Ca => ?_))))
 replace kC := kC.same Ca
 refine az (aQ kC (fB (by kernel_rfl) (au ?_)))
 replace h := (h.fC 29).moveC 213 29 rfl rfl (by decide)
 replace h := (h.fC 30).moveC 214 30 rfl rfl (by decide)
 replace h := (h.fC 31).moveC 215 31 rfl rfl (by decide)
 replace h := (h.fC 65).moveC 249 65 rfl rfl (by decide)
 replace h := (h.fC 66).moveC 250 66 rfl rfl (by decide)
 exact bP (mF, zJ, qz, nL, qy) ⟨h.cn _, hs⟩
def zK (x8 : Int) : Option (Val × Bool) :=
  some ((⟨1, x8⟩ : Val), (decide ((-1000000000 : Int) ≤ x8) && decide ((x8 : Int) ≤ 1000000000)))
def Oc (a : Int) (b : Val) (c : Val) : Option (Val × Bool) :=
  bif decide ((a : Int) = 5) then bif (decide (b.kind = c.kind) && decide (b.n = c.n)) then some ((⟨1, 1⟩ : Val), true) else some ((⟨1, 0⟩ : Val), true) else bif (decide ((b.kind : Int) ≠ 1) || decide ((c.kind : Int) ≠ 1)) then some ((⟨0, 0⟩ : Val), false) else bif decide ((a : Int) = 1) then gL (jN (b.n + c.n)) (zK (b.n + c.n)) else bif decide ((a : Int) = 2) then gL (jN (b.n - c.n)) (zK (b.n - c.n)) else bif decide ((a : Int) = 3) then gL (jN (b.n * c.n)) (zK (b.n * c.n)) else bif decide ((a : Int) = 4) then bif decide ((b.n : Int) < c.n) then some ((⟨1, 1⟩ : Val), true) else some ((⟨1, 0⟩ : Val), true) else zK 0
end
end Go.Proofs.YtfclkapelkhlpaaGreatDoor
