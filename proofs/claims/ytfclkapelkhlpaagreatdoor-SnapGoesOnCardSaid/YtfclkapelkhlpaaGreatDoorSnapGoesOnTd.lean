/-
  What the law SnapGoesOn needs of our own library and of the walks, no more.
-/
import Derived.Test.YtfclkapelkhlpaaGreatDoorProg
import Derived.Test.YtfclkapelkhlpaaGreatDoorSnapGoesOnTc
set_option linter.unusedSimpArgs false
set_option linter.unusedVariables false
set_option maxRecDepth 10000
namespace Go.Proofs.YtfclkapelkhlpaaGreatDoor
open Go Go.Proofs Go.LX
noncomputable section
theorem zK (N : Nat) (w0 : World) (M : BS) (hM : ∀ b, M b → b < w0.heap.size) (hT : wL Tryz.prog 4 w0) (a : Str) (r : List fB × Int) (hs : kV N a = some r) :
    Calls Tryz.prog 77 #[(aV a)] w0 (fun e w' => Grow w0 w' ∧ ∃ u0, e = .returned (.tuple #[u0, .int .i64 r.2]) ∧ dY jc 113 w' M u0 r.1 ∧ (∀ b, ob u0 b → w0.heap.size ≤ b)) := by
 refine aL (args := [(aV a)]) Tryz.func77 rfl Tryz.ntmps77 (bC rfl) ?_
 have h := SH.init hM
 refine nG (aa (ae (v := (.slice none 0 0)) rfl) (aa (ae (v := (I6 0)) rfl) (nJ (aa (ah (v := (aV a)) rfl) ?_))))
 obtain ⟨y1, e2, hs⟩ := aJ hs
 refine aR YQ rfl rfl (I1 _ _ h.lt (hT.go h.keep) a [32] _ e2) ?_
 rintro _ w ⟨k5, u3, rfl, g4⟩
 refine ⟨_, rfl, ?_⟩
 replace h := h.Iz 1 k5 g4
 refine qF h 2 nM fun w b6 h => eH h 2 [u3] rfl nM rfl rfl rfl rfl (h.fM 1 rfl).one fun w h => nJ (qF h 3 Ag fun w b7 h => nK (aa (aA h 2 rfl nM rfl rfl) (aa (bT fe rfl (h.mM 1 rfl)) (aa (ah (v := (I6 0)) rfl) (nN (aP ?_))))))
 replace h := h.zb (R := jc) (E := 113) 7
 refine fT (σ := Nat × Int × Value × List fB) (inl (rg 6 6 ++ rg 24 39)) (fun ⟨k16, i17, v14, lh⟩ => [(24, (I6 i17))]) (fun ⟨k16, i17, v14, lh⟩ w => SH w0 M BE w (hset [(1, .rd oN u3 y1), (2, .blk b6 [u3]), (3, .blk b7 [v14]), (7, .own jc 113 v14 lh)]) ∧ i17 = (k16 : Int) ∧ fq (jy y1) (iH N y1 a) i17 (y1.drop k16) lh = some r) (fun ⟨k16, i17, v14, lh⟩ => y1.length - k16) ⟨0, 0, (.slice none 0 0), []⟩ ⟨rfl, trivial⟩ ?_ ?_
 exact ⟨h.cn _, rfl, hs⟩
 rintro ⟨k16, i17, v14, lh⟩ w dz ⟨h, hik, hs⟩
 refine nG ?_
 refine aa (dL rfl rfl) (nN ?_)
 refine aO (iw rfl (fun e21 => ?_) (fun e21 => ?_))
 refine aI (ak ?_)
 obtain ⟨Bn, e22a, e22b⟩ := gK (hik ▸ e21)
 rw [e22b, ja] at hs
 generalize hnx20 : fq (jy y1) (iH N y1 a) (i17 + 1) (y1.drop (k16 + 1)) = K5 at hs
 have e22r := gN ((h.mM 1 rfl)).bW hik e21
 refine bX (σ := Value × List fB) (inl (rg 6 6 ++ rg 26 36)) (fun ⟨v23, y24⟩ => []) (fun ⟨v23, y24⟩ w => SH w0 M BE w (hset [(1, .rd oN u3 y1), (2, .blk b6 [u3]), (3, .blk b7 [v23]), (7, .own jc 113 v23 y24)]) ∧ l8 K5 y24 = some r) ?_ ?_
 rintro ⟨v23, y24⟩ w dz ⟨h, hs⟩
 refine aB (aa (dm rfl rfl e22r) (aa (ah (v := (I6 ((i17 + 1)))) rfl) (ay (au ?_))))
 subst hnx20
 exact jQ ⟨k16 + 1, i17 + 1, v23, y24⟩ ⟨h.cn _, by omega, hs⟩ (by have := qE e21; dsimp only; omega)
 refine aP (nG (aa (ah (v := (I6 i17)) rfl) ?_))
 obtain ⟨b26, o27, Za, h, r29, i25⟩ := h.Fw 1 8 rfl fe rfl (jb hik) (gM hik e22a)
 obtain rfl := r29
 refine aa (i25 _ _ _ _ _ _ _ _ _ rfl rfl) (aa (eU (k := 0) h 8 rfl Ah rfl rfl) (aa (ae (v := (I6 i17)) rfl) (aa (ae (v := (aV Bn)) rfl) (nN (bX (σ := Bool) (inl (rg 29 9)) (fun x30 => [(37, (.bool (x30)))]) (fun x30 w => SH w0 M BE w (hset [(1, .rd oN u3 y1), (2, .blk b6 [u3]), (3, .blk b7 [v14]), (7, .own jc 113 v14 lh)]) ∧ l9 y1 i17 lh K5 x30 = some r) ?_ ?_)))))
 rintro x30 w dz ⟨h, hs⟩
 refine aH hs rfl (fun c31 hs => ?_) (fun c31 hs => ?_)
 refine nG (aa (aA h 2 rfl nM rfl rfl) (aa (ah (v := (I6 i17)) rfl) (aa (dm rfl rfl e22r) ?_)))
 obtain ⟨x32, e33, hs⟩ := aJ hs
 obtain ⟨b35, o36, cs37, h, r38, i34⟩ := h.Fw 1 9 rfl fe rfl (aG e33).1 (aG e33).2
 obtain rfl := r38
 refine aa (i34 _ _ _ _ _ _ _ _ _ rfl rfl) (aa (eU (k := 0) h 9 rfl Ah rfl rfl) ?_)
 obtain ⟨y39, e40, hs⟩ := aJ hs
 refine aR FK rfl rfl (qJ _ _ h.lt (hT.go h.keep) x32 _ e40) ?_
 rintro _ w ⟨k43, TL, rfl, g42⟩
 refine ⟨_, rfl, ?_⟩
 replace h := h.grow k43
 refine aa (ah (v := (.tuple #[(I6 y39.1), TL])) rfl) (aa (aY rfl rfl) (aa (aY rfl rfl) (aa (ae (v := (I6 y39.1)) rfl) (aa (ae (v := TL) rfl) (nJ (aa (aA h 2 rfl nM rfl rfl) (aa (ah (v := (I6 i17)) rfl) ?_)))))))
 obtain ⟨a44, hs⟩ := bu hs
 refine aa (dm rfl rfl a44) ?_
 obtain ⟨x45, e46, hs⟩ := aJ hs
 obtain ⟨b48, o49, cs50, h, r51, i47⟩ := h.Fw 1 10 rfl fe rfl (aG e46).1 (aG e46).2
 obtain rfl := r51
 refine aa (i47 _ _ _ _ _ _ _ _ _ rfl rfl) (aa (eU (k := 0) h 10 rfl Ah rfl rfl) ?_)
 obtain ⟨vG, e53, hs⟩ := aJ hs
 refine aR FK rfl rfl (qJ _ _ h.lt (hT.go h.keep) x45 _ e53) ?_
 rintro _ w ⟨k56, WY, rfl, g55⟩
 refine ⟨_, rfl, ?_⟩
 replace h := h.grow k56
 refine aa (ah (v := (.tuple #[(I6 vG.1), WY])) rfl) (aa (aY rfl rfl) (aa (aY rfl rfl) (aa (ae (v := (I6 vG.1)) rfl) (aa (ae (v := WY) rfl) (nN (aB (aa (aA h 3 rfl Ag rfl rfl) (aa (ah (v := (I6 y39.1)) rfl) (aa (ah (v := (I6 vG.1)) rfl) (aa (dH (pv := [(0, (I6 y39.1)), (1, (I6 vG.1))]) (out := [(I6 y39.1), (I6 vG.1), (.slice none 0 0)]) Tx rfl ⟨0, 1, [(I6 y39.1)], rfl, rfl, rfl, bC rfl, ⟨1, 1, [(I6 vG.1)], rfl, rfl, rfl, bC rfl, rfl⟩⟩) (sV (R := jc) (vs := [(.agg #[(I6 y39.1), (I6 vG.1), (.slice none 0 0)])]) (xs := [(⟨y39.1, vG.1, []⟩ : fB)]) h 11 OB rfl rfl rfl ⟨⟨_, rfl, fP.nil⟩, trivial⟩ rfl fun w u57 h => ?_)))))))))))
 obtain ⟨a58, hs⟩ := bu hs
 refine lg (R := jc) (m := [(⟨y39.1, vG.1, []⟩ : fB)]) h 7 rfl (h.dG 11 rfl) OB rfl rfl rfl a58.1 a58.2 fun w u59 h => eH h 3 [u59] rfl Ag rfl rfl rfl rfl (h.dC 7 rfl).one fun w h => ay (ax (au ?_))
 exact bP (u59, (lh ++ [(⟨y39.1, vG.1, []⟩ : fB)])) ⟨h.cn _, hs⟩
 refine aI (ax (au ?_))
 exact bP (v14, lh) ⟨h.cn _, hs⟩
 refine aB (aa (ah (v := (aV Bn)) rfl) (aa (Gx rfl rfl) (aa (ah (v := (.bool (decide ((Bn : Str) = [102, 117, 110])))) rfl) (jL (b := decide ((Bn : Str) = [102, 117, 110])) hs (fun JN hs => ?_) (fun JN hs => ?_)))))
 refine dX rfl (cB JN) (aa (ah (v := (I6 i17)) rfl) (dX rfl (cB JN) ?_))
 obtain ⟨a61, hs⟩ := bu hs
 refine aa (dm rfl rfl a61) (dX rfl (cB JN) (aa (aA h 2 rfl nM rfl rfl) (dX rfl (cB JN) (aa (bT fe rfl (h.mM 1 rfl)) (dX rfl (cB JN) (aa (dL rfl rfl) (aa (dJ (b := true) (v := (.bool (decide (((i17 + 2) : Int) < (y1.length : Int))))) (cB JN) rfl) (ay (au ?_)))))))))
 exact bP (decide (((i17 + 2) : Int) < (y1.length : Int))) ⟨h.cn _, hs⟩
 refine yx rfl (cB JN) rfl (yx rfl (cB JN) rfl (yx rfl (cB JN) rfl (yx rfl (cB JN) rfl (yx rfl (cB JN) rfl (aa (dJ (b := false) (v := (.bool (false))) (cB JN) rfl) (ay (au ?_)))))))
 exact bP false ⟨h.cn _, hs⟩
 rw [gL (hik ▸ e21), nZ] at hs
 refine iT (bK (bK (dU (ak (aO (nG (aa (aA h 3 rfl Ag rfl rfl) (aa (bT iN rfl (h.dG 7 rfl)) (aa (bD rfl rfl) (aa (ah (v := (.bool (decide (((lh.length : Int) : Int) = 0)))) rfl) (aC rfl rfl (fun q => aA h 3 rfl Ag rfl rfl) (aC rfl rfl (fun q => bT iN (dE q) (h.dG 7 rfl)) (aC rfl rfl (fun q => j5 (dE q) rfl) (aa (iy rfl rfl nQ) (nN (aH hs rfl (fun TM hs => ?_) (fun TM hs => ?_)))))))))))))))))
 refine nG (aa (ae (v := (.slice none 0 0)) rfl) (aa (ae (v := (I6 1)) rfl) (nR (az (D9 (v1 := (.slice none 0 0)) (v2 := (I6 1)) Tryz.results77 rfl rfl ?_)))))
 obtain rfl := fI hs
 exact ⟨h.grown, _, rfl, dY.nil, kz⟩
 refine aI (ak (aO (nG (aa (aA h 3 rfl Ag rfl rfl) (aa (bT iN rfl (h.dG 7 rfl)) (aa (ah (v := (I6 0)) rfl) (nN (aP ?_))))))))
 have hli64 := (h.dG 7 rfl).bW
 refine fT (σ := Nat × Int) (inl ([2, 3, 13] ++ rg 73 9)) (fun ⟨k63, i64⟩ => [(73, (I6 i64))]) (fun ⟨k63, i64⟩ w => SH w0 M BE w (hset [(1, .rd oN u3 y1), (2, .blk b6 [u3]), (3, .blk b7 [v14]), (7, .own jc 113 v14 lh)]) ∧ i64 = (k63 : Int) ∧ upto (jw lh) (iG N y1 a lh) i64 (((lh.length : Int)).toNat - k63) () = some r) (fun ⟨k63, i64⟩ => ((lh.length : Int)).toNat - k63) ⟨0, 0⟩ ⟨rfl, trivial⟩ ?_ ?_
 exact ⟨h.cn _, rfl, hs⟩
 rintro ⟨k63, i64⟩ w dz ⟨h, hik, hs⟩
 refine nG ?_
 refine aa (dL rfl rfl) (nN ?_)
 refine aO (iw rfl (fun Y2 => ?_) (fun Y2 => ?_))
 refine aI (ak ?_)
 rw [sJ (by have := qE Y2; omega)] at hs
 generalize hnx67 : upto (jw lh) (iG N y1 a lh) (i64 + 1) (((lh.length : Int)).toNat - (k63 + 1)) = nx67 at hs
 have e69r : jI (i64 + 1) := (by have := qE Y2; have := hli64; exact jI.mk (by omega) (by omega))
 refine aO (aP (nG ?_))
 obtain ⟨Y9, Zb, hs⟩ := aJ hs
 obtain ⟨b73, q74, i72⟩ := h.xL 7 rfl iN rfl (aG Zb).1 (aG Zb).2
 refine aa (i72 _ _ _ _ _ _ _ _ _ rfl rfl) ?_
 obtain ⟨cs75, m76, r77⟩ := h.zV 7 rfl q74 (aG Zb).2
 obtain ⟨KV, rfl, g79⟩ := tV r77
 replace h := h.bM 12 g79
 refine aa (oZ (k := 0) (vs := [(I6 Y9.params), (I6 Y9.locals), KV]) m76 mI rfl rfl rfl (bC rfl)) (bO h 13 mI fun w b80 h => dn (vs := [(I6 Y9.params), (I6 Y9.locals), KV]) h 13 [(I6 Y9.params), (I6 Y9.locals), KV] rfl mI rfl rfl rfl rfl rfl (ai rfl (ai rfl (ai (h.fM 12 rfl).one aT))) fun w h => nJ (aa (ag wN rfl) (aa (aA h 13 rfl aU rfl rfl) (aR zG rfl rfl (gU _ _ h.lt Y9.params 0 3 _ rfl) ?_))))
 rintro _ w ⟨k81, rfl⟩
 refine ⟨_, rfl, ?_⟩
 replace h := h.grow k81
 refine aa (gQ rfl) (nN (aH hs rfl (fun c82 hs => ?_) (fun c82 hs => ?_)))
 refine nG (aa (ae (v := (.slice none 0 0)) rfl) (aa (ae (v := (I6 1)) rfl) (nR (aF (az (az (aF (az (D9 (v1 := (.slice none 0 0)) (v2 := (I6 1)) Tryz.results77 rfl rfl ?_)))))))))
 obtain rfl := fI hs
 exact ⟨h.grown, _, rfl, dY.nil, kz⟩
 refine aI (ax (ak (aB (aa (dm rfl rfl e69r) (aa (ah (v := (I6 ((i64 + 1)))) rfl) (ay (au ?_)))))))
 subst hnx67
 exact jQ ⟨k63 + 1, i64 + 1⟩ ⟨h.cn _, by omega, hs⟩ (by have := qE Y2; dsimp only; omega)
 rw [sK (by have := of_decide_eq_false Y2; omega)] at hs
 refine nE (qF h 14 aU fun w IL h => eH h 14 [(I6 0)] rfl aU rfl rfl rfl rfl rfl fun w h => nJ (qF h 15 xz fun w Bo h => eH h 15 [(.bool (true))] rfl xz rfl rfl rfl rfl rfl fun w h => nJ (aa (sU (c1 := []) (c2 := [(.pointer (some ⟨IL, 0, none⟩)), (.pointer (some ⟨b6, 0, none⟩)), (.pointer (some ⟨Bo, 0, none⟩))]) rfl rfl) (qF h 16 BJ fun w KS h => eH h 16 [(.func (.func 103) #[] #[(.pointer (some ⟨IL, 0, none⟩)), (.pointer (some ⟨b6, 0, none⟩)), (.pointer (some ⟨Bo, 0, none⟩))])] rfl BJ rfl rfl rfl rfl rfl fun w h => nN ?_))))
 refine nG (aa (sU (c1 := []) (c2 := [(.pointer (some ⟨Bo, 0, none⟩)), (.pointer (some ⟨KS, 0, none⟩)), (.pointer (some ⟨b7, 0, none⟩))]) rfl rfl) (qF h 17 Nk fun w TN h => eH h 17 [(.func (.func 104) #[] #[(.pointer (some ⟨Bo, 0, none⟩)), (.pointer (some ⟨KS, 0, none⟩)), (.pointer (some ⟨b7, 0, none⟩))])] rfl Nk rfl rfl rfl rfl rfl fun w h => nJ (qF h 18 JE fun w Sm h => nJ (aa (sU (c1 := []) (c2 := [(.pointer (some ⟨KS, 0, none⟩)), (.pointer (some ⟨Bo, 0, none⟩)), (.pointer (some ⟨TN, 0, none⟩)), (.pointer (some ⟨Sm, 0, none⟩))]) rfl rfl) (eH h 18 [(.func (.func 109) #[] #[(.pointer (some ⟨KS, 0, none⟩)), (.pointer (some ⟨Bo, 0, none⟩)), (.pointer (some ⟨TN, 0, none⟩)), (.pointer (some ⟨Sm, 0, none⟩))])] rfl JE rfl rfl rfl rfl rfl fun w h => nK (aa (aA h 3 rfl Ag rfl rfl) (aa (bT iN rfl (h.dG 7 rfl)) (aa (ah (v := (I6 0)) rfl) ?_))))))))
 refine nN (aP ?_)
 have hli101 := (h.dG 7 rfl).bW
 refine fT (σ := Nat × Int × List fB × Int × Bool) (inl ([19] ++ rg 87 17)) (fun ⟨OX, i101, rY, y98, y99⟩ => [(87, (I6 i101))]) (fun ⟨OX, i101, rY, y98, y99⟩ w => SH w0 M BE w (hset [(1, .rd oN u3 y1), (2, .blk b6 [u3]), (3, .blk b7 [v14]), (7, .own jc 113 v14 rY), (14, .blk IL [(I6 y98)]), (15, .blk Bo [(.bool (y99))]), (16, .blk KS [(.func (.func 103) #[] #[(.pointer (some ⟨IL, 0, none⟩)), (.pointer (some ⟨b6, 0, none⟩)), (.pointer (some ⟨Bo, 0, none⟩))])]), (17, .blk TN [(.func (.func 104) #[] #[(.pointer (some ⟨Bo, 0, none⟩)), (.pointer (some ⟨KS, 0, none⟩)), (.pointer (some ⟨b7, 0, none⟩))])]), (18, .blk Sm [(.func (.func 109) #[] #[(.pointer (some ⟨KS, 0, none⟩)), (.pointer (some ⟨Bo, 0, none⟩)), (.pointer (some ⟨TN, 0, none⟩)), (.pointer (some ⟨Sm, 0, none⟩))])])]) ∧ i101 = (OX : Int) ∧ upto (iF N y1) (jv N y1 a) i101 (((lh.length : Int)).toNat - OX) (rY, y98, y99) = some r) (fun ⟨OX, i101, rY, y98, y99⟩ => ((lh.length : Int)).toNat - OX) ⟨0, 0, lh, 0, true⟩ ⟨rfl, trivial⟩ ?_ ?_
 exact ⟨h.cn _, rfl, hs⟩
 rintro ⟨OX, i101, rY, y98, y99⟩ w dz ⟨h, hik, hs⟩
 refine nG ?_
 refine aa (dL rfl rfl) (nN ?_)
 refine aO (iw rfl (fun Nu => ?_) (fun Nu => ?_))
 refine aI (ak ?_)
 rw [sJ (by have := qE Nu; omega)] at hs
 generalize hnx104 : upto (iF N y1) (jv N y1 a) (i101 + 1) (((lh.length : Int)).toNat - (OX + 1)) = ll at hs
 have e106r : jI (i101 + 1) := (by have := qE Nu; have := hli101; exact jI.mk (by omega) (by omega))
 refine aO (aP (nG (aa (ah (v := (I6 i101)) rfl) (aa (ae (v := (I6 i101)) rfl) (nN (bX (σ := Int × Bool) (inl [90, 91, 92]) (fun ⟨qf, Nw⟩ => []) (fun ⟨qf, Nw⟩ w => SH w0 M BE w (hset [(1, .rd oN u3 y1), (2, .blk b6 [u3]), (3, .blk b7 [v14]), (7, .own jc 113 v14 rY), (14, .blk IL [(I6 qf)]), (15, .blk Bo [(.bool (Nw))]), (16, .blk KS [(.func (.func 103) #[] #[(.pointer (some ⟨IL, 0, none⟩)), (.pointer (some ⟨b6, 0, none⟩)), (.pointer (some ⟨Bo, 0, none⟩))])]), (17, .blk TN [(.func (.func 104) #[] #[(.pointer (some ⟨Bo, 0, none⟩)), (.pointer (some ⟨KS, 0, none⟩)), (.pointer (some ⟨b7, 0, none⟩))])]), (18, .blk Sm [(.func (.func 109) #[] #[(.pointer (some ⟨KS, 0, none⟩)), (.pointer (some ⟨Bo, 0, none⟩)), (.pointer (some ⟨TN, 0, none⟩)), (.pointer (some ⟨Sm, 0, none⟩))])])]) ∧ iD N y1 rY i101 ll qf Nw = some r) ?_ ?_))))))
 rintro ⟨qf, Nw⟩ w dz ⟨h, hs⟩
 refine bX (σ := Int × Bool) (inl [93, 94]) (fun ⟨qd, Nv⟩ => []) (fun ⟨qd, Nv⟩ w => SH w0 M BE w (hset [(1, .rd oN u3 y1), (2, .blk b6 [u3]), (3, .blk b7 [v14]), (7, .own jc 113 v14 rY), (14, .blk IL [(I6 qd)]), (15, .blk Bo [(.bool (Nv))]), (16, .blk KS [(.func (.func 103) #[] #[(.pointer (some ⟨IL, 0, none⟩)), (.pointer (some ⟨b6, 0, none⟩)), (.pointer (some ⟨Bo, 0, none⟩))])]), (17, .blk TN [(.func (.func 104) #[] #[(.pointer (some ⟨Bo, 0, none⟩)), (.pointer (some ⟨KS, 0, none⟩)), (.pointer (some ⟨b7, 0, none⟩))])]), (18, .blk Sm [(.func (.func 109) #[] #[(.pointer (some ⟨KS, 0, none⟩)), (.pointer (some ⟨Bo, 0, none⟩)), (.pointer (some ⟨TN, 0, none⟩)), (.pointer (some ⟨Sm, 0, none⟩))])])]) ∧ iC N y1 rY i101 ll qd Nv = some r) ?_ ?_
 rintro ⟨qd, Nv⟩ w dz ⟨h, hs⟩
 refine bX (σ := Int × Bool) (inl [95, 96]) (fun ⟨I8, y112⟩ => []) (fun ⟨I8, y112⟩ w => SH w0 M BE w (hset [(1, .rd oN u3 y1), (2, .blk b6 [u3]), (3, .blk b7 [v14]), (7, .own jc 113 v14 rY), (14, .blk IL [(I6 I8)]), (15, .blk Bo [(.bool (y112))]), (16, .blk KS [(.func (.func 103) #[] #[(.pointer (some ⟨IL, 0, none⟩)), (.pointer (some ⟨b6, 0, none⟩)), (.pointer (some ⟨Bo, 0, none⟩))])]), (17, .blk TN [(.func (.func 104) #[] #[(.pointer (some ⟨Bo, 0, none⟩)), (.pointer (some ⟨KS, 0, none⟩)), (.pointer (some ⟨b7, 0, none⟩))])]), (18, .blk Sm [(.func (.func 109) #[] #[(.pointer (some ⟨KS, 0, none⟩)), (.pointer (some ⟨Bo, 0, none⟩)), (.pointer (some ⟨TN, 0, none⟩)), (.pointer (some ⟨Sm, 0, none⟩))])])]) ∧ iB N y1 rY i101 ll I8 y112 = some r) ?_ ?_
 rintro ⟨I8, y112⟩ w dz ⟨h, hs⟩
 refine kL (L := (fun b => b = IL ∨ b = Bo ∨ ob v14 b)) mixed h fun w h => bA 0 (aD.refl _ _) rfl aj (by kernel_rfl) (by kernel_rfl) (by kernel_rfl) (fun w hk => have h := h.VM 14 15 7 (by decide) (by decide) (by decide) rfl rfl rfl hk; aA h 3 rfl Ag rfl rfl) (bA 1 (aD.refl _ _) rfl aj (by kernel_rfl) (by kernel_rfl) (by kernel_rfl) (fun w hk => ah (v := (I6 i101)) rfl) (bA 2 (aD.refl _ _) rfl aj (by kernel_rfl) (by kernel_rfl) (by kernel_rfl) (fun w hk => have h := h.VM 14 15 7 (by decide) (by decide) (by decide) rfl rfl rfl hk; aA h 18 rfl JE rfl rfl) ?_))
 obtain ⟨ws123, WZ⟩ : ∃ x, x = w := ⟨_, rfl⟩
 have IM : aD (fun b => b = IL ∨ b = Bo ∨ ob v14 b) ws123 w := WZ ▸ aD.refl (fun b => b = IL ∨ b = Bo ∨ ob v14 b) w
 refine rU WZ.symm (bg 3 (by kernel_rfl) rfl aj ?_)
 replace h := h.pair 14 15 (by decide)
 obtain ⟨QK, QL, QM⟩ := h.kC 14 (C := (.two (.blk IL [(I6 I8)]) (.blk Bo [(.bool (y112))]) : Chunk)) rfl ⟨trivial, trivial⟩
 obtain ⟨kE, TP, hs⟩ := aJ hs
 refine aR Nf rfl rfl (QJ N _ _ QM (hT.go h.keep) IL Bo b6 KS b7 TN Sm (⟨I8, y112⟩ : dP) QK QL u3 y1 (h.Er 14 1 rfl rfl) v14 rY (h.Z6 14 7 (by decide) rfl rfl) (h.rP 2 rfl) (fun hb => h.apart 14 2 (by decide) _ hb rfl) (h.rP 16 rfl) (fun hb => h.apart 14 16 (by decide) _ hb rfl) (h.rP 3 rfl) (fun hb => h.apart 14 3 (by decide) _ hb rfl) (h.rP 17 rfl) (fun hb => h.apart 14 17 (by decide) _ hb rfl) (h.rP 18 rfl) (fun hb => h.apart 14 18 (by decide) _ hb rfl) 1 (h.Ju hT (fun _ h => h.elim) 14 (C := (.two (.blk IL [(I6 I8)]) (.blk Bo [(.bool (y112))]) : Chunk)) rfl) _ TP) ?_
 rintro _ w ⟨LH, uq122x3_4, rfl, TQ, TR, TS⟩
 refine ⟨_, rfl, ?_⟩
 replace h := h.back 14 (C := (.two (.blk IL [(I6 I8)]) (.blk Bo [(.bool (y112))]) : Chunk)) (C' := (.two (.blk IL [(I6 kE.2.at_)]) (.blk Bo [(.bool (kE.2.ok))]) : Chunk)) rfl ⟨trivial, trivial⟩ TQ LH TR
 replace h := h.bM 55 (kg TS)
 replace h := h.bN 14 15 (by decide) rfl rfl
 replace IM := aD.step IM LH (fun _ hx _ => hx.elim (fun hx => .inl (hx)) (fun hx => .inr (.inl (hx))))
 refine ay (aN IM ?_)
 obtain ⟨yj, GM, hs⟩ := aJ hs
 obtain ⟨bq122x4_4, TT, TU⟩ := h.xL 7 rfl iN rfl (aG GM).1 (aG GM).2
 refine cK 4 IM rfl (by kernel_rfl) (fun w hk => TU _ _ _ _ _ _ _ _ _ rfl rfl) (cK 5 IM rfl (by kernel_rfl) (fun w hk => ag CK rfl) (bg 6 (by kernel_rfl) rfl aj (VA (a' := { yj with body := kE.1 }) h 7 rfl TT rfl (aG GM).2 qi rfl rfl (h.fM 55 rfl).one rfl (by rintro _ hq; obtain ⟨p2, rfl, q2⟩ := tV hq; exact ⟨_, rfl, (h.fM 55 rfl)⟩) fun w h TV => ?_)))
 replace IM := aD.step IM TV (fun _ hx _ => .inr (.inr (hx)))
 refine ay (aN IM (eY (by kernel_rfl) (ax (ak (aB (aa (dm rfl rfl e106r) (aa (ah (v := (I6 ((i101 + 1)))) rfl) (ay (au ?_)))))))))
 subst hnx104
 exact jQ ⟨OX + 1, i101 + 1, (rY.set (i101).toNat { yj with body := kE.1 }), kE.2.at_, kE.2.ok⟩ ⟨h.cn _, by omega, hs⟩ (by have := qE Nu; dsimp only; omega)
 refine aB (aa (aA h 16 rfl BJ rfl rfl) (jP (args := [(.pointer (some ⟨IL, 0, none⟩)), (.pointer (some ⟨b6, 0, none⟩)), (.pointer (some ⟨Bo, 0, none⟩))]) BH rfl rfl (aL (args := [(.pointer (some ⟨IL, 0, none⟩)), (.pointer (some ⟨b6, 0, none⟩)), (.pointer (some ⟨Bo, 0, none⟩))]) Tryz.func103 rfl Tryz.ntmps103 (bC rfl) (nG (aa (ae (v := (aV [])) rfl) (nK (aa (aA h 14 rfl aU rfl rfl) (aa (aA h 2 rfl nM rfl rfl) (aa (bT fe rfl (h.mM 1 rfl)) (aa (qy rfl rfl) (nN (aH hs rfl (fun tu hs => ?_) (fun tu hs => ?_)))))))))))))
 refine nG (eH h 15 [(.bool (false))] rfl xz rfl rfl rfl rfl rfl fun w h => nJ (aa (ae (v := (aV [])) rfl) (nR (az (bR (v := (aV [])) Tryz.results103 rfl (⟨_, rfl, ?_⟩))))))
 refine ay (au ?_)
 exact bP (qd, false) ⟨h.cn _, hs⟩
 refine nS (aa (aA h 14 rfl aU rfl rfl) ?_)
 obtain ⟨a126, hs⟩ := bu hs
 refine aa (dm rfl rfl a126) (eH h 14 [(I6 ((qd + 1)))] rfl aU rfl rfl rfl rfl rfl fun w h => nJ (aa (aA h 2 rfl nM rfl rfl) (aa (aA h 14 rfl aU rfl rfl) ?_)))
 obtain ⟨a127, hs⟩ := bu hs
 refine aa (oO rfl rfl a127) ?_
 obtain ⟨Y6, e129, hs⟩ := aJ hs
 obtain ⟨b131, o132, cs133, h, r134, i130⟩ := h.Fw 1 115 rfl fe rfl (aG e129).1 (aG e129).2
 obtain rfl := r134
 refine aa (i130 _ _ _ _ _ _ _ _ _ rfl rfl) (aa (eU (k := 0) h 115 rfl Ah rfl rfl) (aa (ae (v := (aV Y6)) rfl) (nR (bR (v := (aV Y6)) Tryz.results103 rfl (⟨_, rfl, ?_⟩)))))
 refine ay (au ?_)
 exact bP ((qd + 1), Nv) ⟨h.cn _, hs⟩
 refine aB (aa (aA h 16 rfl BJ rfl rfl) (jP (args := [(.pointer (some ⟨IL, 0, none⟩)), (.pointer (some ⟨b6, 0, none⟩)), (.pointer (some ⟨Bo, 0, none⟩))]) BH rfl rfl (aL (args := [(.pointer (some ⟨IL, 0, none⟩)), (.pointer (some ⟨b6, 0, none⟩)), (.pointer (some ⟨Bo, 0, none⟩))]) Tryz.func103 rfl Tryz.ntmps103 (bC rfl) (nG (aa (ae (v := (aV [])) rfl) (nK (aa (aA h 14 rfl aU rfl rfl) (aa (aA h 2 rfl nM rfl rfl) (aa (bT fe rfl (h.mM 1 rfl)) (aa (qy rfl rfl) (nN (aH hs rfl (fun c135 hs => ?_) (fun c135 hs => ?_)))))))))))))
 refine nG (eH h 15 [(.bool (false))] rfl xz rfl rfl rfl rfl rfl fun w h => nJ (aa (ae (v := (aV [])) rfl) (nR (az (bR (v := (aV [])) Tryz.results103 rfl (⟨_, rfl, ?_⟩))))))
 refine ay (au ?_)
 exact bP (qf, false) ⟨h.cn _, hs⟩
 refine nS (aa (aA h 14 rfl aU rfl rfl) ?_)
 obtain ⟨a136, hs⟩ := bu hs
 refine aa (dm rfl rfl a136) (eH h 14 [(I6 ((qf + 1)))] rfl aU rfl rfl rfl rfl rfl fun w h => nJ (aa (aA h 2 rfl nM rfl rfl) (aa (aA h 14 rfl aU rfl rfl) ?_)))
 obtain ⟨a137, hs⟩ := bu hs
 refine aa (oO rfl rfl a137) ?_
 obtain ⟨Y7, TW, hs⟩ := aJ hs
 obtain ⟨b141, o142, cs143, h, r144, i140⟩ := h.Fw 1 116 rfl fe rfl (aG TW).1 (aG TW).2
 obtain rfl := r144
 refine aa (i140 _ _ _ _ _ _ _ _ _ rfl rfl) (aa (eU (k := 0) h 116 rfl Ah rfl rfl) (aa (ae (v := (aV Y7)) rfl) (nR (bR (v := (aV Y7)) Tryz.results103 rfl (⟨_, rfl, ?_⟩)))))
 refine ay (au ?_)
 exact bP ((qf + 1), Nw) ⟨h.cn _, hs⟩
 refine bX (σ := Bool × Int × Bool) (inl [90, 91, 92]) (fun ⟨OW, I9, Ny⟩ => [(92, (.bool (OW)))]) (fun ⟨OW, I9, Ny⟩ w => SH w0 M BE w (hset [(1, .rd oN u3 y1), (2, .blk b6 [u3]), (3, .blk b7 [v14]), (7, .own jc 113 v14 rY), (14, .blk IL [(I6 I9)]), (15, .blk Bo [(.bool (Ny))]), (16, .blk KS [(.func (.func 103) #[] #[(.pointer (some ⟨IL, 0, none⟩)), (.pointer (some ⟨b6, 0, none⟩)), (.pointer (some ⟨Bo, 0, none⟩))])]), (17, .blk TN [(.func (.func 104) #[] #[(.pointer (some ⟨Bo, 0, none⟩)), (.pointer (some ⟨KS, 0, none⟩)), (.pointer (some ⟨b7, 0, none⟩))])]), (18, .blk Sm [(.func (.func 109) #[] #[(.pointer (some ⟨KS, 0, none⟩)), (.pointer (some ⟨Bo, 0, none⟩)), (.pointer (some ⟨TN, 0, none⟩)), (.pointer (some ⟨Sm, 0, none⟩))])])]) ∧ iE N y1 rY i101 ll OW I9 Ny = some r) ?_ ?_
 rintro ⟨OW, I9, Ny⟩ w dz ⟨h, hs⟩
 refine aH hs rfl (fun c148 hs => ?_) (fun c148 hs => ?_)
 refine aB (eH h 15 [(.bool (false))] rfl xz rfl rfl rfl rfl rfl fun w h => ay (au ?_))
 exact bP (I9, false) ⟨h.cn _, hs⟩
 refine aI (au ?_)
 exact bP (I9, Ny) ⟨h.cn _, hs⟩
 refine aB (aa (aA h 16 rfl BJ rfl rfl) (jP (args := [(.pointer (some ⟨IL, 0, none⟩)), (.pointer (some ⟨b6, 0, none⟩)), (.pointer (some ⟨Bo, 0, none⟩))]) BH rfl rfl (aL (args := [(.pointer (some ⟨IL, 0, none⟩)), (.pointer (some ⟨b6, 0, none⟩)), (.pointer (some ⟨Bo, 0, none⟩))]) Tryz.func103 rfl Tryz.ntmps103 (bC rfl) (nG (aa (ae (v := (aV [])) rfl) (nK (aa (aA h 14 rfl aU rfl rfl) (aa (aA h 2 rfl nM rfl rfl) (aa (bT fe rfl (h.mM 1 rfl)) (aa (qy rfl rfl) (nN (aH hs rfl (fun c149 hs => ?_) (fun c149 hs => ?_)))))))))))))
 refine nG (eH h 15 [(.bool (false))] rfl xz rfl rfl rfl rfl rfl fun w h => nJ (aa (ae (v := (aV [])) rfl) (nR (az (bR (v := (aV [])) Tryz.results103 rfl (⟨_, rfl, ?_⟩))))))
 refine aa (Js rfl rfl) (ay (au ?_))
 exact bP (true, y98, false) ⟨h.cn _, hs⟩
 refine nS (aa (aA h 14 rfl aU rfl rfl) ?_)
 obtain ⟨a150, hs⟩ := bu hs
 refine aa (dm rfl rfl a150) (eH h 14 [(I6 ((y98 + 1)))] rfl aU rfl rfl rfl rfl rfl fun w h => nJ (aa (aA h 2 rfl nM rfl rfl) (aa (aA h 14 rfl aU rfl rfl) ?_)))
 obtain ⟨a151, hs⟩ := bu hs
 refine aa (oO rfl rfl a151) ?_
 obtain ⟨x152, e153, hs⟩ := aJ hs
 obtain ⟨b155, o156, cs157, h, r158, i154⟩ := h.Fw 1 117 rfl fe rfl (aG e153).1 (aG e153).2
 obtain rfl := r158
 refine aa (i154 _ _ _ _ _ _ _ _ _ rfl rfl) (aa (eU (k := 0) h 117 rfl Ah rfl rfl) (aa (ae (v := (aV x152)) rfl) (nR (bR (v := (aV x152)) Tryz.results103 rfl (⟨_, rfl, ?_⟩)))))
 refine aa (Js rfl rfl) (ay (au ?_))
 exact bP (decide ((x152 : Str) ≠ [102, 117, 110]), (y98 + 1), y99) ⟨h.cn _, hs⟩
 rw [sK (by have := of_decide_eq_false Nu; omega)] at hs
 refine iT (bK (bK (dU (ak (aO (bX (σ := Bool) (inl (rg 104 19)) (fun x159 => [(122, (.bool (x159)))]) (fun x159 w => SH w0 M BE w (hset [(3, .blk b7 [v14]), (7, .own jc 113 v14 rY)]) ∧ jr rY x159 = some r) ?_ ?_))))))
 rintro x159 w dz ⟨h, hs⟩
 refine aH hs rfl (fun c160 hs => ?_) (fun c160 hs => ?_)
 refine nG (aa (ae (v := (.slice none 0 0)) rfl) (aa (ae (v := (I6 1)) rfl) (nR (az (D9 (v1 := (.slice none 0 0)) (v2 := (I6 1)) Tryz.results77 rfl rfl ?_)))))
 obtain rfl := fI hs
 exact ⟨h.grown, _, rfl, dY.nil, kz⟩
 refine nS (aa (aA h 3 rfl Ag rfl rfl) (aa (ae (v := v14) rfl) (aa (ae (v := (I6 0)) rfl) (nR (D9 (v1 := v14) (v2 := (I6 0)) Tryz.results77 rfl rfl ?_)))))
 obtain rfl := fI hs
 exact ⟨h.grown, _, rfl, (h.mQ 7 rfl).1, (h.mQ 7 rfl).2⟩
 refine aB (aa (aA h 15 rfl xz rfl rfl) (aa (gQ rfl) (aa (ah (v := (.bool ((!y99)))) rfl) (aC rfl rfl (fun q => aA h 14 rfl aU rfl rfl) (aC rfl rfl (fun q => aA h 2 rfl nM rfl rfl) (aC rfl rfl (fun q => bT fe (dE q) (h.mM 1 rfl)) (aC rfl rfl (fun q => dL (dE q) (dE q)) (aa (iy rfl rfl nQ) (aa (ah (v := (.bool (((!y99) || decide ((y98 : Int) < (y1.length : Int)))))) rfl) (jL (b := ((!y99) || decide ((y98 : Int) < (y1.length : Int)))) hs (fun Nz hs => ?_) (fun Nz hs => ?_)))))))))))
 refine P9 rfl (cB Nz) rfl (P9 rfl (cB Nz) rfl (P9 rfl (cB Nz) rfl (aa (dJ (b := true) (v := (.bool (true))) (cB Nz) rfl) (aa (ah (v := (.bool (true))) rfl) (nL (b' := true) rfl rfl rfl (nL (b' := true) rfl rfl rfl (nL (b' := true) rfl rfl rfl (nL (b' := true) rfl rfl rfl (aa (dJ (b := true) (v := (.bool (true))) rfl rfl) (ay (au ?_)))))))))))
 exact bP true ⟨h.cn _, hs⟩
 refine dX rfl (cB Nz) (aa (aA h 3 rfl Ag rfl rfl) (dX rfl (cB Nz) ?_))
 obtain ⟨WX, e163, hs⟩ := aJ hs
 refine aR YT rfl rfl (zf N _ _ h.lt v14 rY (h.dG 7 rfl) _ e163) ?_
 rintro _ w ⟨k164, rfl⟩
 refine ⟨_, rfl, ?_⟩
 replace h := h.grow k164
 refine dX rfl (cB Nz) (aa (iP rfl rfl) (aa (dJ (b := false) (v := (.bool (decide ((WX : Int) ≠ 0)))) (cB Nz) rfl) (aa (ah (v := (.bool (decide ((WX : Int) ≠ 0)))) rfl) (jL (b := decide ((WX : Int) ≠ 0)) hs (fun JO hs => ?_) (fun JO hs => ?_)))))
 refine P9 rfl (cB JO) rfl (P9 rfl (cB JO) rfl (P9 rfl (cB JO) rfl (P9 rfl (cB JO) rfl (aa (dJ (b := true) (v := (.bool (true))) (cB JO) rfl) (ay (au ?_))))))
 exact bP true ⟨h.cn _, hs⟩
 refine dX rfl (cB JO) (aa (aA h 3 rfl Ag rfl rfl) (dX rfl (cB JO) ?_))
 obtain ⟨Y8, e167, hs⟩ := aJ hs
 refine aR YU rfl rfl (zI N _ _ h.lt (hT.go h.keep) v14 rY (h.dG 7 rfl) _ e167) ?_
 rintro _ w ⟨k168, rfl⟩
 refine ⟨_, rfl, ?_⟩
 replace h := h.grow k168
 refine dX rfl (cB JO) (aa (ah (v := (aV a)) rfl) (dX rfl (cB JO) (aa (Js rfl rfl) (aa (dJ (b := false) (v := (.bool (decide ((Y8 : Str) ≠ a)))) (cB JO) rfl) (ay (au ?_))))))
 exact bP (decide ((Y8 : Str) ≠ a)) ⟨h.cn _, hs⟩
def kM (N : Nat) : Option (List fB) :=
  (kV N [102, 117, 110, 32, 48, 32, 49, 32, 123, 32, 115, 101, 116, 32, 48, 32, 51, 32, 119, 104, 105, 108, 101, 32, 118, 48, 32, 123, 32, 115, 97, 121, 32, 102, 49, 32, 118, 48, 32, 118, 48, 32, 103, 111, 32, 118, 48, 32, 112, 97, 117, 115, 101, 32, 115, 101, 116, 32, 48, 32, 45, 32, 118, 48, 32, 49, 32, 125, 32, 125, 32, 102, 117, 110, 32, 50, 32, 50, 32, 123, 32, 114, 101, 116, 117, 114, 110, 32, 42, 32, 118, 48, 32, 118, 49, 32, 125]).bind fun y1 => some y1.1
theorem Cq (N : Nat) (w0 : World) (M : BS) (hM : ∀ b, M b → b < w0.heap.size) (hT : wL Tryz.prog 4 w0)  (r : List fB) (hs : kM N = some r) :
    Calls Tryz.prog 40 #[] w0 (fun e w' => Grow w0 w' ∧ ∃ u0, e = .returned (u0) ∧ dY jc 113 w' M u0 r ∧ (∀ b, ob u0 b → w0.heap.size ≤ b)) := by
 refine aL (args := []) Tryz.func40 rfl Tryz.ntmps40 (bC rfl) ?_
 have h := SH.init hM
 refine nG (aa (ae (v := (.slice none 0 0)) rfl) (nJ ?_))
 obtain ⟨y1, e2, hs⟩ := aJ hs
 refine aR fnOk77 rfl rfl (zK N _ _ h.lt (hT.go h.keep) [102, 117, 110, 32, 48, 32, 49, 32, 123, 32, 115, 101, 116, 32, 48, 32, 51, 32, 119, 104, 105, 108, 101, 32, 118, 48, 32, 123, 32, 115, 97, 121, 32, 102, 49, 32, 118, 48, 32, 118, 48, 32, 103, 111, 32, 118, 48, 32, 112, 97, 117, 115, 101, 32, 115, 101, 116, 32, 48, 32, 45, 32, 118, 48, 32, 49, 32, 125, 32, 125, 32, 102, 117, 110, 32, 50, 32, 50, 32, 123, 32, 114, 101, 116, 117, 114, 110, 32, 42, 32, 118, 48, 32, 118, 49, 32, 125] _ e2) ?_
 rintro _ w ⟨k6, u3, rfl, g4, g5⟩
 refine ⟨_, rfl, ?_⟩
 replace h := h.kG 1 k6 g4 g5
 refine aa (ah (v := (.tuple #[u3, (I6 y1.2)])) rfl) (aa (aY rfl rfl) (aa (aY rfl rfl) (aa (ae (v := u3) rfl) (aa (ae (v := (I6 y1.2)) rfl) (nJ (aa (ah (v := u3) rfl) (aa (ae (v := u3) rfl) (nR (bR (v := u3) Tryz.results40 rfl ?_)))))))))
 obtain rfl := fI hs
 exact ⟨h.grown, _, rfl, (h.mQ 1 rfl).1, (h.mQ 1 rfl).2⟩
def fK (x31 : List Ins) (c : Int) (x34 : Int) (Bp : Int) (W9 : Int) (wE : Int) (BM : List Int) : Option (List Ins × Int) :=
  gJ (Room 56 x31 [(⟨Bp, c, W9, wE, BM⟩ : Ins)]) (some ((x31 ++ [(⟨Bp, c, W9, wE, BM⟩ : Ins)]), x34))
def qm (F0 : List Tok → List fB → Int → Option (List Ins × Int)) (y9 : Int) (a : List Tok) (c : Int) (b : List fB) (x1 : Tok) (s : List Ins × List Int × Int × Int) (Xa : List Ins × List Int × Int × Int → Option (List Ins × Int)) : Option (List Ins × Int) :=
  match s with | (x31, Aj, x34, zW) => bif decide ((zW : Int) < y9) then (sub? a x34 (a.length : Int)).bind fun x44 => gJ (jI (c + zW)) ((F0 x44 b (c + zW)).bind fun tY => gJ (Room 56 x31 tY.1) (gJ (jI (x34 + tY.2)) (gJ (jI (c + zW)) (gJ (Room 8 Aj [(c + zW)]) (gJ (jI (zW + 1)) (Xa ((x31 ++ tY.1), (Aj ++ [(c + zW)]), (x34 + tY.2), (zW + 1)))))))) else bif decide ((x1.kind : Int) = 1) then fK x31 c x34 1 x1.n 0 [] else bif decide ((x1.kind : Int) = 2) then fK x31 c x34 2 x1.n 0 [] else bif decide ((x1.kind : Int) = 5) then fK x31 c x34 5 x1.n 0 [] else bif decide ((x1.kind : Int) = 3) then gJ (jI (c + 1)) (fK x31 c x34 3 c (c + 1) [x1.n]) else bif decide ((x1.kind : Int) = 4) then fK x31 c x34 4 c x1.n [] else bif decide ((x1.kind : Int) = 6) then fK x31 c x34 7 x1.n 0 Aj else fK x31 c x34 0 x1.n 0 []
def wV (N : Nat) (F0 : List Tok → List fB → Int → Option (List Ins × Int)) (a : List Tok) (b : List fB) (c : Int) : Option (List Ins × Int) :=
  (idx a 0).bind fun x1 => (rA x1 b).bind fun y9 => again (qm F0 y9 a c b x1) N ([], [], 1, 0)
def jY : Nat → List Tok → List fB → Int → Option (List Ins × Int)
  | 0 => fun _ _ _ => none
  | N + 1 => wV N (jY N)
theorem wW : ∀ (N : Nat) (w0 : World) (M : BS) (hM : ∀ b, M b → b < w0.heap.size) (va : Value) (a : List Tok) (ha : fP kR w0 BE M va a) (vb : Value) (b : List fB) (hb : fP jc w0 BE M vb b) (c : Int) (r : List Ins × Int) (hs : jY N a b c = some r),
    Calls Tryz.prog 100 #[va, vb, (I6 c)] w0 (fun e w' => Grow w0 w' ∧ ∃ u0, e = .returned (.tuple #[u0, .int .i64 r.2]) ∧ dY jK 93 w' M u0 r.1 ∧ (∀ b, ob u0 b → w0.heap.size ≤ b)) := by
 intro N
 induction N with
 | zero => intro w0 M hM va a ha vb b hb c r hs; cases hs
 | succ N ih =>
 intro w0 M hM va a ha vb b hb c r hs
 replace hs : wV N (jY N) a b c = some r := hs
 generalize jY N = F0 at hs ih
 refine aL (args := [va, vb, (I6 c)]) Tryz.func100 rfl Tryz.ntmps100 (bC rfl) ?_
 have h := SH.init hM
 replace h := h.fG 1 ha bE
 replace h := h.fG 2 hb (cO bE)
 have vE := ha.bW
 have KZ := hb.bW
 refine nG (aa (ae (v := (.slice none 0 0)) rfl) (aa (ae (v := (I6 0)) rfl) (nJ (aa (ah (v := va) rfl) ?_))))
 obtain ⟨x1, e2, hs⟩ := aJ hs
 obtain ⟨b4, o5, cs6, h, r7, i3⟩ := h.Br 1 3 rfl kI rfl (aG e2).1 (aG e2).2
 obtain rfl := r7
 refine aa (i3 _ _ _ _ _ _ _ _ _ rfl rfl) (aa (jm (k := 0) (vs := [(I6 x1.kind), (I6 x1.n)]) h 3 rfl kD rfl rfl rfl (bC rfl)) (bO h 4 kD fun w b8 h => dn (vs := [(I6 x1.kind), (I6 x1.n)]) h 4 [(I6 x1.kind), (I6 x1.n)] rfl kD rfl rfl rfl rfl rfl (ai rfl (ai rfl aT)) fun w h => nJ (aa (ae (v := (.slice none 0 0)) rfl) (nJ (aa (ae (v := (.slice none 0 0)) rfl) (nJ (aa (ae (v := (I6 1)) rfl) (nK ?_))))))))
 refine aa (dh (vs := [(I6 x1.kind), (I6 x1.n)]) h 4 rfl kD rfl rfl rfl) (aa (ah (v := vb) rfl) ?_)
 obtain ⟨y9, e10, hs⟩ := aJ hs
 refine aR Nc rfl rfl (sW _ _ h.lt x1 vb b (h.iM 2 rfl) _ e10) ?_
 rintro _ w ⟨k11, rfl⟩
 refine ⟨_, rfl, ?_⟩
 replace h := h.grow k11
 refine aa (ah (v := (I6 0)) rfl) (nN (aP ?_))
 replace h := h.zb (R := jK) (E := 93) 11
 replace h := h.zb (R := dA) (E := 3) 12
 refine fT (σ := Nat × Value × List Ins × Value × List Int × Int × Int) (inl (rg 9 6 ++ rg 22 27)) (fun ⟨Zc, v30, x31, v32, Aj, x34, zW⟩ => [(9, v30), (10, v32), (11, (I6 x34)), (22, (I6 zW))]) (fun ⟨Zc, v30, x31, v32, Aj, x34, zW⟩ w => SH w0 M BE w (hset [(1, .sr kR va a), (2, .sr jc vb b), (4, .blk b8 [(I6 x1.kind), (I6 x1.n)]), (11, .own jK 93 v30 x31), (12, .own dA 3 v32 Aj)]) ∧ again (qm F0 y9 a c b x1) Zc (x31, Aj, x34, zW) = some r) (fun ⟨Zc, v30, x31, v32, Aj, x34, zW⟩ => Zc) ⟨N, (.slice none 0 0), [], (.slice none 0 0), [], 1, 0⟩ ⟨rfl, rfl, rfl, rfl, trivial⟩ ?_ ?_
 exact ⟨h.cn _, hs⟩
 rintro ⟨Zc, v30, x31, v32, Aj, x34, zW⟩ w dz ⟨h, hs⟩
 obtain ⟨m391, m39e, m39h⟩ := og hs
 subst m39e
 replace hs := m39h
 generalize Xb : again (qm F0 y9 a c b x1) m391 = Xa at hs
 refine nG (aa (dL rfl rfl) (nN (aO (aH hs rfl (fun c43 hs => ?_) (fun c43 hs => ?_)))))
 refine aI (ak (aO (aP (nG (aa (ah (v := (I6 zW)) rfl) (aa (ae (v := (I6 zW)) rfl) (nJ (aa (ah (v := va) rfl) (aa (ah (v := (I6 x34)) rfl) ?_)))))))))
 obtain ⟨x44, e45, hs⟩ := aJ hs
 obtain ⟨e48, e48a, e48b, e48c⟩ := Oe e45
 obtain ⟨u46, h, i47⟩ := h.slS 1 13 rfl kI rfl e48a e48b e48c
 rw [← e48] at h
 refine aa (i47 _ _ _ _ _ _ _ _ _ _ rfl (.inr (congrArg some rfl)) (.inl ⟨rfl, rfl⟩)) (aa (ah (v := vb) rfl) (aa (ah (v := (I6 c)) rfl) (aa (ah (v := (I6 zW)) rfl) ?_)))
 obtain ⟨a49, hs⟩ := bu hs
 refine aa (dm rfl rfl a49) ?_
 obtain ⟨tY, e51, hs⟩ := aJ hs
 refine aR Na rfl rfl (ih _ _ h.lt u46 x44 (h.iM 13 rfl) vb b (h.iM 2 rfl) (c + zW) _ e51) ?_
 rintro _ w ⟨k55, Yr, rfl, g53, g54⟩
 refine ⟨_, rfl, ?_⟩
 replace h := h.kG 14 k55 g53 g54
 refine aa (ah (v := (.tuple #[Yr, (I6 tY.2)])) rfl) (aa (aY rfl rfl) (aa (aY rfl rfl) (aa (ae (v := Yr) rfl) (aa (ae (v := (I6 tY.2)) rfl) (nN (aB (aa (ah (v := v30) rfl) (aa (ah (v := Yr) rfl) ?_))))))))
 obtain ⟨a56, hs⟩ := bu hs
 refine lg (R := jK) (m := tY.1) h 11 rfl (h.dG 14 rfl) fA rfl rfl rfl a56.1 a56.2 fun w u57 h => aa (ah (v := (I6 x34)) rfl) (aa (ah (v := (I6 tY.2)) rfl) ?_)
 obtain ⟨a58, hs⟩ := bu hs
 refine aa (dm rfl rfl a58) (aa (ah (v := v32) rfl) (aa (ah (v := (I6 c)) rfl) (aa (ah (v := (I6 zW)) rfl) ?_)))
 obtain ⟨a59, hs⟩ := bu hs
 refine aa (dm rfl rfl a59) (sV (R := dA) (vs := [(I6 ((c + zW)))]) (xs := [(c + zW)]) h 15 iR rfl rfl rfl ⟨rfl, trivial⟩ rfl fun w u60 h => ?_)
 obtain ⟨a61, hs⟩ := bu hs
 refine lg (R := dA) (m := [(c + zW)]) h 12 rfl (h.dG 15 rfl) iR rfl rfl rfl a61.1 a61.2 fun w u62 h => aa (ae (v := u57) rfl) (aa (ae (v := (I6 ((x34 + tY.2)))) rfl) (aa (ae (v := u62) rfl) (ay (ax (ak (aB ?_))))))
 obtain ⟨a63, hs⟩ := bu hs
 refine aa (dm rfl rfl a63) (aa (ah (v := (I6 ((zW + 1)))) rfl) (ay (au ?_)))
 subst Xb
 exact jQ ⟨m391, u57, (x31 ++ tY.1), u62, (Aj ++ [(c + zW)]), (x34 + tY.2), (zW + 1)⟩ ⟨h.cn _, hs⟩
 refine nE (aa (ah (v := (I6 c)) rfl) (aa (ag ou rfl) (aa (aA h 4 rfl aU rfl rfl) (aa (dH (pv := [(1, (I6 c)), (2, (I6 x1.n))]) (out := [(I6 0), (I6 c), (I6 x1.n), (I6 0), (.slice none 0 0)]) ny rfl ⟨1, 1, [(I6 c)], rfl, rfl, rfl, bC rfl, ⟨2, 1, [(I6 x1.n)], rfl, rfl, rfl, bC rfl, rfl⟩⟩) (bO h 16 qI fun w b64 h => dn (vs := [(I6 0), (I6 c), (I6 x1.n), (I6 0), (.slice none 0 0)]) h 16 [(I6 0), (I6 c), (I6 x1.n), (I6 0), (.slice none 0 0)] rfl qI rfl rfl rfl rfl rfl (ai rfl (ai rfl (ai rfl (ai rfl (ai rfl aT))))) fun w h => nN (bX (σ := Int × Int × Int × Value × List Int) (inl (rg 53 33)) (fun ⟨Bp, W9, wE, v68, BM⟩ => []) (fun ⟨Bp, W9, wE, v68, BM⟩ w => SH w0 M BE w (hset [(11, .own jK 93 v30 x31), (16, .blk b64 [(I6 Bp), (I6 c), (I6 W9), (I6 wE), v68]), (17, .own dA 3 v68 BM)]) ∧ fK x31 c x34 Bp W9 wE BM = some r) ?_ ?_))))))
 rintro ⟨Bp, W9, wE, v68, BM⟩ w dz ⟨h, hs⟩
 refine nG (aa (ah (v := v30) rfl) (aa (dh (vs := [(I6 Bp), (I6 c), (I6 W9), (I6 wE), v68]) h 16 rfl qI rfl rfl rfl) ?_))
 replace h := h.freeze 17 rfl
 refine sV (R := jK) (vs := [(.agg #[(I6 Bp), (I6 c), (I6 W9), (I6 wE), v68])]) (xs := [(⟨Bp, c, W9, wE, BM⟩ : Ins)]) h 18 fA rfl rfl rfl ⟨⟨_, rfl, (h.fM 17 rfl)⟩, trivial⟩ rfl fun w u70 h => ?_
 obtain ⟨a71, hs⟩ := bu hs
 refine lg (R := jK) (m := [(⟨Bp, c, W9, wE, BM⟩ : Ins)]) h 11 rfl (h.dG 18 rfl) fA rfl rfl rfl a71.1 a71.2 fun w u72 h => aa (ah (v := (I6 x34)) rfl) (aa (ae (v := u72) rfl) (aa (ae (v := (I6 x34)) rfl) (nR (D9 (v1 := u72) (v2 := (I6 x34)) Tryz.results100 rfl rfl ?_))))
 obtain rfl := fI hs
 exact ⟨h.grown, _, rfl, (h.mQ 11 rfl).1, (h.mQ 11 rfl).2⟩
 refine nG (aa (ag FI rfl) (aa (aA h 4 rfl aU rfl rfl) (nN (aP (nG (aa (bD rfl rfl) (aa (ae (v := (.bool (decide ((x1.kind : Int) = 1)))) rfl) (nN (aH hs rfl (fun OC hs => ?_) (fun OC hs => ?_))))))))))
 refine aB (aa (ag qB rfl) (eH h 16 [(I6 1), (I6 c), (I6 x1.n), (I6 0), (.slice none 0 0)] rfl aU rfl rfl rfl rfl rfl fun w h => ay (ax (au ?_))))
 replace h := h.zb (R := dA) (E := 3) 17
 exact bP (1, x1.n, 0, (.slice none 0 0), []) ⟨h.cn _, hs⟩
 refine nG (aa (bD rfl rfl) (aa (ae (v := (.bool (decide ((x1.kind : Int) = 2)))) rfl) (nN (aH hs rfl (fun c74 hs => ?_) (fun c74 hs => ?_)))))
 refine aB (aa (ag qB rfl) (eH h 16 [(I6 2), (I6 c), (I6 x1.n), (I6 0), (.slice none 0 0)] rfl aU rfl rfl rfl rfl rfl fun w h => ay (ax (au ?_))))
 replace h := h.zb (R := dA) (E := 3) 17
 exact bP (2, x1.n, 0, (.slice none 0 0), []) ⟨h.cn _, hs⟩
 refine nG (aa (bD rfl rfl) (aa (ae (v := (.bool (decide ((x1.kind : Int) = 5)))) rfl) (nN (aH hs rfl (fun c75 hs => ?_) (fun c75 hs => ?_)))))
 refine aB (aa (ag qB rfl) (eH h 16 [(I6 5), (I6 c), (I6 x1.n), (I6 0), (.slice none 0 0)] rfl aU rfl rfl rfl rfl rfl fun w h => ay (ax (au ?_))))
 replace h := h.zb (R := dA) (E := 3) 17
 exact bP (5, x1.n, 0, (.slice none 0 0), []) ⟨h.cn _, hs⟩
 refine nG (aa (bD rfl rfl) (aa (ae (v := (.bool (decide ((x1.kind : Int) = 3)))) rfl) (nN (aH hs rfl (fun c76 hs => ?_) (fun c76 hs => ?_)))))
 refine aB (aa (ah (v := (I6 c)) rfl) (aa (ah (v := (I6 c)) rfl) (aa (ah (v := (I6 c)) rfl) ?_)))
 obtain ⟨a77, hs⟩ := bu hs
 refine aa (dm rfl rfl a77) (aa (ag ou rfl) (aa (aA h 4 rfl aU rfl rfl) (sV (R := dA) (vs := [(I6 x1.n)]) (xs := [x1.n]) h 19 iR rfl rfl rfl ⟨rfl, trivial⟩ rfl fun w KV h => aa (dH (pv := [(0, (I6 3)), (1, (I6 c)), (2, (I6 c)), (3, (I6 ((c + 1)))), (4, KV)]) (out := [(I6 3), (I6 c), (I6 c), (I6 ((c + 1))), KV]) ny rfl ⟨0, 1, [(I6 3)], rfl, rfl, rfl, bC rfl, ⟨1, 1, [(I6 c)], rfl, rfl, rfl, bC rfl, ⟨2, 1, [(I6 c)], rfl, rfl, rfl, bC rfl, ⟨3, 1, [(I6 ((c + 1)))], rfl, rfl, rfl, bC rfl, ⟨4, 1, [KV], rfl, (iW (h.dC 19 rfl).one), rfl, bC rfl, rfl⟩⟩⟩⟩⟩) (dn (vs := [(I6 3), (I6 c), (I6 c), (I6 ((c + 1))), KV]) h 16 [(I6 3), (I6 c), (I6 c), (I6 ((c + 1))), KV] rfl qI rfl rfl rfl rfl rfl (ai rfl (ai rfl (ai rfl (ai rfl (ai (h.dC 19 rfl).one aT))))) fun w h => ay (ax (au ?_))))))
 replace h := h.Fz 19 17 rfl rfl (by decide)
 exact bP (3, c, (c + 1), KV, [x1.n]) ⟨h.cn _, hs⟩
 refine nG (aa (bD rfl rfl) (aa (ae (v := (.bool (decide ((x1.kind : Int) = 4)))) rfl) (nN (aH hs rfl (fun c79 hs => ?_) (fun c79 hs => ?_)))))
 refine aB (aa (ah (v := (I6 c)) rfl) (aa (ah (v := (I6 c)) rfl) (aa (ag ou rfl) (aa (aA h 4 rfl aU rfl rfl) (aa (dH (pv := [(0, (I6 4)), (1, (I6 c)), (2, (I6 c)), (3, (I6 x1.n))]) (out := [(I6 4), (I6 c), (I6 c), (I6 x1.n), (.slice none 0 0)]) ny rfl ⟨0, 1, [(I6 4)], rfl, rfl, rfl, bC rfl, ⟨1, 1, [(I6 c)], rfl, rfl, rfl, bC rfl, ⟨2, 1, [(I6 c)], rfl, rfl, rfl, bC rfl, ⟨3, 1, [(I6 x1.n)], rfl, rfl, rfl, bC rfl, rfl⟩⟩⟩⟩) (dn (vs := [(I6 4), (I6 c), (I6 c), (I6 x1.n), (.slice none 0 0)]) h 16 [(I6 4), (I6 c), (I6 c), (I6 x1.n), (.slice none 0 0)] rfl qI rfl rfl rfl rfl rfl (ai rfl (ai rfl (ai rfl (ai rfl (ai rfl aT))))) fun w h => ay (ax (au ?_))))))))
 replace h := h.zb (R := dA) (E := 3) 17
 exact bP (4, c, x1.n, (.slice none 0 0), []) ⟨h.cn _, hs⟩
 refine nG (aa (bD rfl rfl) (aa (ae (v := (.bool (decide ((x1.kind : Int) = 6)))) rfl) (nN (aH hs rfl (fun c80 hs => ?_) (fun c80 hs => ?_)))))
 refine aB (aa (ah (v := v32) rfl) (aa (ag qB rfl) (eH h 16 [(I6 7), (I6 c), (I6 x1.n), (I6 0), (.slice none 0 0)] rfl aU rfl rfl rfl rfl rfl fun w h => aa (ag xS rfl) (eH h 16 [(I6 7), (I6 c), (I6 x1.n), (I6 0), v32] rfl rQ rfl rfl rfl rfl (h.dC 12 rfl).one fun w h => ay (ax (au ?_))))))
 replace h := h.Fz 12 17 rfl rfl (by decide)
 exact bP (7, x1.n, 0, v32, Aj) ⟨h.cn _, hs⟩
 refine aI (ax (au ?_))
 replace h := h.zb (R := dA) (E := 3) 17
 exact bP (0, x1.n, 0, (.slice none 0 0), []) ⟨h.cn _, hs⟩
def eF (x8 : List Ins) (nO : List Ins → Option (List Ins)) (x34 : List Ins) : Option (List Ins) :=
  gJ (Room 56 x8 x34) (nO (x8 ++ x34))
def pO (x32 : List Ins) (c : Int) (d : Int) (x8 : List Ins) (Cw : List Ins) (Sn : List Ins) (nO : List Ins → Option (List Ins)) (x90 : Int) : Option (List Ins) :=
  gJ (Room 56 x32 [(⟨13, c, (((((d + (x8.length : Int)) + (x32.length : Int)) + 1) + (Cw.length : Int)) + 1), 0, []⟩ : Ins)]) (gJ (Room 56 (x32 ++ [(⟨13, c, (((((d + (x8.length : Int)) + (x32.length : Int)) + 1) + (Cw.length : Int)) + 1), 0, []⟩ : Ins)]) Cw) (gJ (Room 56 ((x32 ++ [(⟨13, c, (((((d + (x8.length : Int)) + (x32.length : Int)) + 1) + (Cw.length : Int)) + 1), 0, []⟩ : Ins)]) ++ Cw) [(⟨12, 0, x90, 0, []⟩ : Ins)]) (gJ (Room 56 (((x32 ++ [(⟨13, c, (((((d + (x8.length : Int)) + (x32.length : Int)) + 1) + (Cw.length : Int)) + 1), 0, []⟩ : Ins)]) ++ Cw) ++ [(⟨12, 0, x90, 0, []⟩ : Ins)]) Sn) (eF x8 nO ((((x32 ++ [(⟨13, c, (((((d + (x8.length : Int)) + (x32.length : Int)) + 1) + (Cw.length : Int)) + 1), 0, []⟩ : Ins)]) ++ Cw) ++ [(⟨12, 0, x90, 0, []⟩ : Ins)]) ++ Sn)))))
def pQ (F0 : List bB → List fB → Int → Int → Option (List Ins)) (d : Int) (x8 : List Ins) (x32 : List Ins) (dS : bB) (a : List bB) (b : List fB) (c : Int) (nO : List Ins → Option (List Ins)) (x69 : Bool) : Option (List Ins) :=
  bif x69 then gJ (jI ((d + (x8.length : Int)) + (x32.length : Int))) (gJ (jI (((d + (x8.length : Int)) + (x32.length : Int)) + 1)) ((F0 dS.a b c (((d + (x8.length : Int)) + (x32.length : Int)) + 1)).bind fun Cw => gJ (jI ((d + (x8.length : Int)) + (x32.length : Int))) (gJ (jI (((d + (x8.length : Int)) + (x32.length : Int)) + 1)) (gJ (jI ((((d + (x8.length : Int)) + (x32.length : Int)) + 1) + (Cw.length : Int))) (gJ (jI (((((d + (x8.length : Int)) + (x32.length : Int)) + 1) + (Cw.length : Int)) + 1)) ((F0 dS.b b c (((((d + (x8.length : Int)) + (x32.length : Int)) + 1) + (Cw.length : Int)) + 1)).bind fun Sn => gJ (jI ((((((d + (x8.length : Int)) + (x32.length : Int)) + 1) + (Cw.length : Int)) + 1) + (Sn.length : Int))) (bif decide ((dS.kind : Int) = 7) then pO x32 c d x8 Cw Sn nO (d + (x8.length : Int)) else pO x32 c d x8 Cw Sn nO ((((((d + (x8.length : Int)) + (x32.length : Int)) + 1) + (Cw.length : Int)) + 1) + (Sn.length : Int))))))))) else eF x8 nO x32
def pR (N : Nat) (F0 : List bB → List fB → Int → Int → Option (List Ins)) (dS : bB) (c : Int) (x8 : List Ins) (nO : List Ins → Option (List Ins)) (b : List fB) (d : Int) (a : List bB) (x32 : List Ins) : Option (List Ins) :=
  bif decide ((dS.kind : Int) = 1) then gJ (Room 56 x32 [(⟨2, dS.n, c, 0, []⟩ : Ins)]) (eF x8 nO (x32 ++ [(⟨2, dS.n, c, 0, []⟩ : Ins)])) else bif decide ((dS.kind : Int) = 2) then gJ (jI (c + 1)) ((jY N dS.f b (c + 1)).bind fun BK => gJ (jI (c + 1)) (gJ (Room 56 x32 BK.1) (gJ (Room 56 (x32 ++ BK.1) [(⟨6, c, (c + 1), dS.n, []⟩ : Ins)]) (eF x8 nO ((x32 ++ BK.1) ++ [(⟨6, c, (c + 1), dS.n, []⟩ : Ins)]))))) else bif decide ((dS.kind : Int) = 3) then gJ (Room 56 x32 [(⟨9, c, 0, 0, []⟩ : Ins)]) (eF x8 nO (x32 ++ [(⟨9, c, 0, 0, []⟩ : Ins)])) else bif decide ((dS.kind : Int) = 4) then gJ (Room 56 x32 [(⟨10, 0, 0, 0, []⟩ : Ins)]) (eF x8 nO (x32 ++ [(⟨10, 0, 0, 0, []⟩ : Ins)])) else bif decide ((dS.kind : Int) = 5) then gJ (Room 56 x32 [(⟨11, c, 0, 0, []⟩ : Ins)]) (eF x8 nO (x32 ++ [(⟨11, c, 0, 0, []⟩ : Ins)])) else bif decide ((dS.kind : Int) = 8) then gJ (Room 56 x32 [(⟨8, c, 0, 0, []⟩ : Ins)]) (eF x8 nO (x32 ++ [(⟨8, c, 0, 0, []⟩ : Ins)])) else bif decide ((dS.kind : Int) = 6) then pQ F0 d x8 x32 dS a b c nO (decide ((dS.kind : Int) = 6)) else pQ F0 d x8 x32 dS a b c nO (decide ((dS.kind : Int) = 7))
def pU (N : Nat) (F0 : List bB → List fB → Int → Int → Option (List Ins)) (d : Int) (b : List fB) (c : Int) (a : List bB) (dS : bB) (x8 : List Ins) (nO : List Ins → Option (List Ins)) : Option (List Ins) :=
  gJ (jI (d + (x8.length : Int))) (bif decide ((0 : Int) < (dS.e.length : Int)) then (jY N dS.e b c).bind fun y104 => pR N F0 dS c x8 nO b d a y104.1 else pR N F0 dS c x8 nO b d a [])
def pV (x8 : List Ins) : Option (List Ins) :=
  some x8
def wX (N : Nat) (F0 : List bB → List fB → Int → Int → Option (List Ins)) (a : List bB) (b : List fB) (c : Int) (d : Int) : Option (List Ins) :=
  each (pU N F0 d b c a) pV a []
def ma : Nat → List bB → List fB → Int → Int → Option (List Ins)
  | 0 => fun _ _ _ _ => none
  | N + 1 => wX N (ma N)
theorem wY : ∀ (N : Nat) (w0 : World) (M : BS) (hM : ∀ b, M b → b < w0.heap.size) (va : Value) (a : List bB) (ha : fP eZ w0 BE M va a) (vb : Value) (b : List fB) (hb : fP jc w0 BE M vb b) (c : Int) (d : Int) (r : List Ins) (hs : ma N a b c d = some r),
    Calls Tryz.prog 76 #[va, vb, (I6 c), (I6 d)] w0 (fun e w' => Grow w0 w' ∧ ∃ u0, e = .returned (u0) ∧ dY jK 93 w' M u0 r ∧ (∀ b, ob u0 b → w0.heap.size ≤ b)) := by
 intro N
 induction N with
 | zero => intro w0 M hM va a ha vb b hb c d r hs; cases hs
 | succ N ih =>
 intro w0 M hM va a ha vb b hb c d r hs
 replace hs : wX N (ma N) a b c d = some r := hs
 generalize ma N = F0 at hs ih
 refine aL (args := [va, vb, (I6 c), (I6 d)]) Tryz.func76 rfl Tryz.ntmps76 (bC rfl) ?_
 have h := SH.init hM
 replace h := h.fG 1 ha bE
 replace h := h.fG 2 hb (cO bE)
 have vE := ha.bW
 have KZ := hb.bW
 refine nG (aa (ae (v := (.slice none 0 0)) rfl) (nJ (aa (ae (v := (.slice none 0 0)) rfl) (nK (aa (ah (v := va) rfl) (aa (bT lD rfl (h.iM 1 rfl)) (aa (ah (v := (I6 0)) rfl) (nN (aP ?_)))))))))
 replace h := h.zb (R := jK) (E := 93) 6
 refine fT (σ := Nat × Int × Value × List Ins) (inl ([9] ++ rg 11 9 ++ rg 22 134)) (fun ⟨k9, i10, v7, x8⟩ => [(9, v7), (22, (I6 i10))]) (fun ⟨k9, i10, v7, x8⟩ w => SH w0 M BE w (hset [(1, .sr eZ va a), (2, .sr jc vb b), (6, .own jK 93 v7 x8)]) ∧ i10 = (k9 : Int) ∧ each (pU N F0 d b c a) pV (a.drop k9) x8 = some r) (fun ⟨k9, i10, v7, x8⟩ => a.length - k9) ⟨0, 0, (.slice none 0 0), []⟩ ⟨rfl, rfl, trivial⟩ ?_ ?_
 exact ⟨h.cn _, rfl, hs⟩
 rintro ⟨k9, i10, v7, x8⟩ w dz ⟨h, hik, hs⟩
 refine nG ?_
 refine aa (dL rfl rfl) (nN ?_)
 refine aO (iw rfl (fun e14 => ?_) (fun e14 => ?_))
 refine aI (ak ?_)
 obtain ⟨dS, Nl, Nn⟩ := gK (hik ▸ e14)
 rw [Nn, dO] at hs
 generalize FO : each (pU N F0 d b c a) pV (a.drop (k9 + 1)) = nO at hs
 have Np := gN ((h.iM 1 rfl)).bW hik e14
 refine aO (aP (nG ?_))
 obtain ⟨b17, o18, WM, h, TF, i16⟩ := h.Br 1 7 rfl lD rfl (jb hik) (gM hik Nl)
 obtain ⟨u21, u23, u25, u27, rfl, g22, g24, g26, g28⟩ := Bz TF
 replace h := h.bM 8 g22.up
 replace h := h.bM 9 g24.up.up
 replace h := h.bM 10 g26.up.up.up
 replace h := h.bM 11 g28.up.up.up.up
 refine aa (i16 _ _ _ _ _ _ _ _ _ rfl rfl) (aa (jm (k := 0) (vs := [(I6 dS.kind), (I6 dS.n), u21, u23, u25, u27]) h 7 rfl pq rfl rfl rfl (bC rfl)) (bO h 12 pq fun w b29 h => dn (vs := [(I6 dS.kind), (I6 dS.n), u21, u23, u25, u27]) h 12 [(I6 dS.kind), (I6 dS.n), u21, u23, u25, u27] rfl pq rfl rfl rfl rfl rfl (ai rfl (ai rfl (ai (h.fM 8 rfl).one (ai (h.fM 9 rfl).one (ai (h.fM 10 rfl).one (ai (h.fM 11 rfl).one aT)))))) fun w h => nJ (aa (ah (v := (I6 d)) rfl) (aa (ah (v := v7) rfl) (aa (bT jF rfl (h.dG 6 rfl)) ?_)))))
 obtain ⟨a30, hs⟩ := bu hs
 refine aa (dm rfl rfl a30) (aa (ae (v := (I6 ((d + (x8.length : Int))))) rfl) (nJ (aa (ae (v := (.slice none 0 0)) rfl) (nN (bX (σ := Value × List Ins) (inl ([13] ++ rg 30 12)) (fun ⟨v31, x32⟩ => [(13, v31)]) (fun ⟨v31, x32⟩ w => SH w0 M BE w (hset [(1, .sr eZ va a), (2, .sr jc vb b), (6, .own jK 93 v7 x8), (8, .rd kR u21 dS.e), (9, .rd kR u23 dS.f), (10, .rd eZ u25 dS.a), (11, .rd eZ u27 dS.b), (12, .blk b29 [(I6 dS.kind), (I6 dS.n), u21, u23, u25, u27]), (13, .own jK 93 v31 x32)]) ∧ pR N F0 dS c x8 nO b d a x32 = some r) ?_ ?_)))))
 rintro ⟨v31, x32⟩ w dz ⟨h, hs⟩
 refine bX (σ := Value × List Ins) (inl (rg 13 7 ++ rg 42 110)) (fun ⟨v33, x34⟩ => [(13, v33)]) (fun ⟨v33, x34⟩ w => SH w0 M BE w (hset [(1, .sr eZ va a), (2, .sr jc vb b), (6, .own jK 93 v7 x8), (13, .own jK 93 v33 x34)]) ∧ eF x8 nO x34 = some r) ?_ ?_
 rintro ⟨v33, x34⟩ w dz ⟨h, hs⟩
 refine aB (aa (ah (v := v7) rfl) (aa (ah (v := v33) rfl) ?_))
 obtain ⟨a35, hs⟩ := bu hs
 refine lg (R := jK) (m := x34) h 6 rfl (h.dG 13 rfl) fA rfl rfl rfl a35.1 a35.2 fun w u36 h => aa (ae (v := u36) rfl) (ay (ax (ak (aB (aa (dm rfl rfl Np) (aa (ah (v := (I6 ((i10 + 1)))) rfl) (ay (au ?_))))))))
 subst FO
 exact jQ ⟨k9 + 1, i10 + 1, u36, (x8 ++ x34)⟩ ⟨h.cn _, by omega, hs⟩ (by have := qE e14; dsimp only; omega)
 refine nG (aa (ag ko rfl) (aa (aA h 12 rfl aU rfl rfl) (nN (aP (nG (aa (bD rfl rfl) (aa (ae (v := (.bool (decide ((dS.kind : Int) = 1)))) rfl) (nN (aH hs rfl (fun c37 hs => ?_) (fun c37 hs => ?_))))))))))
 refine aB (aa (ah (v := v31) rfl) (aa (ag wO rfl) (aa (aA h 12 rfl aU rfl rfl) (aa (ah (v := (I6 c)) rfl) (aa (dH (pv := [(0, (I6 2)), (1, (I6 dS.n)), (2, (I6 c))]) (out := [(I6 2), (I6 dS.n), (I6 c), (I6 0), (.slice none 0 0)]) ny rfl ⟨0, 1, [(I6 2)], rfl, rfl, rfl, bC rfl, ⟨1, 1, [(I6 dS.n)], rfl, rfl, rfl, bC rfl, ⟨2, 1, [(I6 c)], rfl, rfl, rfl, bC rfl, rfl⟩⟩⟩) (sV (R := jK) (vs := [(.agg #[(I6 2), (I6 dS.n), (I6 c), (I6 0), (.slice none 0 0)])]) (xs := [(⟨2, dS.n, c, 0, []⟩ : Ins)]) h 14 fA rfl rfl rfl ⟨⟨_, rfl, fP.nil⟩, trivial⟩ rfl fun w u38 h => ?_))))))
 obtain ⟨a39, hs⟩ := bu hs
 refine lg (R := jK) (m := [(⟨2, dS.n, c, 0, []⟩ : Ins)]) h 13 rfl (h.dG 14 rfl) fA rfl rfl rfl a39.1 a39.2 fun w u40 h => aa (ae (v := u40) rfl) (ay (ax (au ?_)))
 exact bP (u40, (x32 ++ [(⟨2, dS.n, c, 0, []⟩ : Ins)])) ⟨h.cn _, hs⟩
 refine nG (aa (bD rfl rfl) (aa (ae (v := (.bool (decide ((dS.kind : Int) = 2)))) rfl) (nN (aH hs rfl (fun c41 hs => ?_) (fun c41 hs => ?_)))))
 refine nG (aa (ag CL rfl) (aa (aA h 12 rfl yz rfl rfl) (aa (ah (v := vb) rfl) (aa (ah (v := (I6 c)) rfl) ?_))))
 obtain ⟨a42, hs⟩ := bu hs
 refine aa (dm rfl rfl a42) ?_
 obtain ⟨BK, e44, hs⟩ := aJ hs
 refine aR Na rfl rfl (wW N _ _ h.lt u23 dS.f (h.mM 9 rfl) vb b (h.iM 2 rfl) (c + 1) _ e44) ?_
 rintro _ w ⟨k48, u45, rfl, g46, g47⟩
 refine ⟨_, rfl, ?_⟩
 replace h := h.kG 15 k48 g46 g47
 refine aa (ah (v := (.tuple #[u45, (I6 BK.2)])) rfl) (aa (aY rfl rfl) (aa (aY rfl rfl) (aa (ae (v := u45) rfl) (aa (ae (v := (I6 BK.2)) rfl) (nN (kL (L := (ob v31)) mixed h fun w h => bA 0 (aD.refl _ _) rfl aj (by kernel_rfl) (by kernel_rfl) (by kernel_rfl) (fun w hk => ah (v := v31) rfl) (bA 1 (aD.refl _ _) rfl aj (by kernel_rfl) (by kernel_rfl) (by kernel_rfl) (fun w hk => ah (v := u45) rfl) (bA 3 (aD.refl _ _) rfl aj (by kernel_rfl) (by kernel_rfl) (by kernel_rfl) (fun w hk => ah (v := (I6 c)) rfl) (bA 4 (aD.refl _ _) rfl aj (by kernel_rfl) (by kernel_rfl) (by kernel_rfl) (fun w hk => ah (v := (I6 c)) rfl) ?_)))))))))
 obtain ⟨Xc, hs⟩ := bu hs
 refine bA 5 (aD.refl _ _) rfl aj (by kernel_rfl) (by kernel_rfl) (by kernel_rfl) (fun w hk => dm rfl rfl Xc) (bA 6 (aD.refl _ _) rfl aj (by kernel_rfl) (by kernel_rfl) (by kernel_rfl) (fun w hk => ag wO rfl) (bA 7 (aD.refl _ _) rfl aj (by kernel_rfl) (by kernel_rfl) (by kernel_rfl) (fun w hk => have h := h.oQ 13 rfl hk; aA h 12 rfl aU rfl rfl) (bA 8 (aD.refl _ _) rfl aj (by kernel_rfl) (by kernel_rfl) (by kernel_rfl) (fun w hk => dH (pv := [(0, (I6 6)), (1, (I6 c)), (2, (I6 ((c + 1)))), (3, (I6 dS.n))]) (out := [(I6 6), (I6 c), (I6 ((c + 1))), (I6 dS.n), (.slice none 0 0)]) ny rfl ⟨0, 1, [(I6 6)], rfl, rfl, rfl, bC rfl, ⟨1, 1, [(I6 c)], rfl, rfl, rfl, bC rfl, ⟨2, 1, [(I6 ((c + 1)))], rfl, rfl, rfl, bC rfl, ⟨3, 1, [(I6 dS.n)], rfl, rfl, rfl, bC rfl, rfl⟩⟩⟩⟩) ?_)))
 obtain ⟨FT, hs⟩ := bu hs
 obtain ⟨DI, hs⟩ := bu hs
 obtain ⟨QN, ws51e⟩ : ∃ x, x = w := ⟨_, rfl⟩
 have uE : aD (ob v31) QN w := ws51e ▸ aD.refl (ob v31) w
 refine rU ws51e.symm (lu 2 9 (by kernel_rfl) rfl aj rfl aj ?_ ?_)
 have TY := uE.size
 refine kS (R := jK) (m := BK.1) h 13 rfl (h.dG 15 rfl) fA rfl rfl rfl FT.1 FT.2 fun w JQ h GN GQ => ?_
 have Aq : ∀ b, ob JQ b → b < QN.heap.size → ob v31 b := fun b hb hl => GQ b hb (Nat.lt_of_lt_of_le hl (uE).size)
 replace uE := uE.same GN
 refine ay (aN uE (bg 9 (by kernel_rfl) rfl aj (wK (R := jK) (vs := [(.agg #[(I6 6), (I6 c), (I6 ((c + 1))), (I6 dS.n), (.slice none 0 0)])]) (xs := [(⟨6, c, (c + 1), dS.n, []⟩ : Ins)]) h 124 fA rfl rfl rfl ⟨⟨_, rfl, fP.nil⟩, trivial⟩ rfl fun w JR h GR GU => ?_)))
 have TZ : ∀ b, ob JR b → QN.heap.size ≤ b := fun b hb => Nat.le_trans uE.size (GU b hb)
 replace uE := uE.grow GR
 refine ay (aN uE (bg 10 (by kernel_rfl) rfl aj ?_))
 have QO := uE.size
 refine kS (R := jK) (m := [(⟨6, c, (c + 1), dS.n, []⟩ : Ins)]) h 13 rfl (h.dG 124 rfl) fA rfl rfl rfl DI.1 DI.2 fun w vQ h Ey Ez => ?_
 have QP : ∀ b, ob vQ b → b < QN.heap.size → ob v31 b := fun b hb hl => Aq b (Ez b hb (Nat.lt_of_lt_of_le hl (uE).size)) hl
 replace uE := aD.step uE Ey (fun x hx hl => Aq x hx hl)
 refine ay (aN uE (cK 11 uE rfl (by kernel_rfl) (fun w hk => ae (v := vQ) rfl) (eY (by kernel_rfl) (ax (au ?_)))))
 exact bP (vQ, ((x32 ++ BK.1) ++ [(⟨6, c, (c + 1), dS.n, []⟩ : Ins)])) ⟨h.cn _, hs⟩
 refine wK (R := jK) (vs := [(.agg #[(I6 6), (I6 c), (I6 ((c + 1))), (I6 dS.n), (.slice none 0 0)])]) (xs := [(⟨6, c, (c + 1), dS.n, []⟩ : Ins)]) h 124 fA rfl rfl rfl ⟨⟨_, rfl, fP.nil⟩, trivial⟩ rfl fun w JR h GR GU => ?_
 have TZ : ∀ b, ob JR b → QN.heap.size ≤ b := fun b hb => Nat.le_trans uE.size (GU b hb)
 replace uE := uE.grow GR
 refine ay (aN uE (bg 2 (by kernel_rfl) rfl aj ?_))
 have TY := uE.size
 refine kS (R := jK) (m := BK.1) h 13 rfl (h.dG 15 rfl) fA rfl rfl rfl FT.1 FT.2 fun w JQ h GN GQ => ?_
 have Aq : ∀ b, ob JQ b → b < QN.heap.size → ob v31 b := fun b hb hl => GQ b hb (Nat.lt_of_lt_of_le hl (uE).size)
 replace uE := uE.same GN
 refine ay (aN uE (bg 10 (by kernel_rfl) rfl aj ?_))
 have QO := uE.size
 refine kS (R := jK) (m := [(⟨6, c, (c + 1), dS.n, []⟩ : Ins)]) h 13 rfl (h.dG 124 rfl) fA rfl rfl rfl DI.1 DI.2 fun w vQ h Ey Ez => ?_
 have QP : ∀ b, ob vQ b → b < QN.heap.size → ob v31 b := fun b hb hl => Aq b (Ez b hb (Nat.lt_of_lt_of_le hl (uE).size)) hl
 replace uE := aD.step uE Ey (fun x hx hl => Aq x hx hl)
 refine ay (aN uE (cK 11 uE rfl (by kernel_rfl) (fun w hk => ae (v := vQ) rfl) (eY (by kernel_rfl) (ax (au ?_)))))
 exact bP (vQ, ((x32 ++ BK.1) ++ [(⟨6, c, (c + 1), dS.n, []⟩ : Ins)])) ⟨h.cn _, hs⟩
 refine nG (aa (bD rfl rfl) (aa (ae (v := (.bool (decide ((dS.kind : Int) = 3)))) rfl) (nN (aH hs rfl (fun c53 hs => ?_) (fun c53 hs => ?_)))))
 refine aB (aa (ah (v := v31) rfl) (aa (ah (v := (I6 c)) rfl) (aa (dH (pv := [(0, (I6 9)), (1, (I6 c))]) (out := [(I6 9), (I6 c), (I6 0), (I6 0), (.slice none 0 0)]) ny rfl ⟨0, 1, [(I6 9)], rfl, rfl, rfl, bC rfl, ⟨1, 1, [(I6 c)], rfl, rfl, rfl, bC rfl, rfl⟩⟩) (sV (R := jK) (vs := [(.agg #[(I6 9), (I6 c), (I6 0), (I6 0), (.slice none 0 0)])]) (xs := [(⟨9, c, 0, 0, []⟩ : Ins)]) h 172 fA rfl rfl rfl ⟨⟨_, rfl, fP.nil⟩, trivial⟩ rfl fun w WY h => ?_))))
 obtain ⟨a55, hs⟩ := bu hs
 refine lg (R := jK) (m := [(⟨9, c, 0, 0, []⟩ : Ins)]) h 13 rfl (h.dG 172 rfl) fA rfl rfl rfl a55.1 a55.2 fun w u56 h => aa (ae (v := u56) rfl) (ay (ax (au ?_)))
 exact bP (u56, (x32 ++ [(⟨9, c, 0, 0, []⟩ : Ins)])) ⟨h.cn _, hs⟩
 refine nG (aa (bD rfl rfl) (aa (ae (v := (.bool (decide ((dS.kind : Int) = 4)))) rfl) (nN (aH hs rfl (fun c57 hs => ?_) (fun c57 hs => ?_)))))
 refine aB (aa (ah (v := v31) rfl) (aa (dH (pv := [(0, (I6 10))]) (out := [(I6 10), (I6 0), (I6 0), (I6 0), (.slice none 0 0)]) ny rfl ⟨0, 1, [(I6 10)], rfl, rfl, rfl, bC rfl, rfl⟩) (sV (R := jK) (vs := [(.agg #[(I6 10), (I6 0), (I6 0), (I6 0), (.slice none 0 0)])]) (xs := [(⟨10, 0, 0, 0, []⟩ : Ins)]) h 173 fA rfl rfl rfl ⟨⟨_, rfl, fP.nil⟩, trivial⟩ rfl fun w u58 h => ?_)))
 obtain ⟨a59, hs⟩ := bu hs
 refine lg (R := jK) (m := [(⟨10, 0, 0, 0, []⟩ : Ins)]) h 13 rfl (h.dG 173 rfl) fA rfl rfl rfl a59.1 a59.2 fun w u60 h => aa (ae (v := u60) rfl) (ay (ax (au ?_)))
 exact bP (u60, (x32 ++ [(⟨10, 0, 0, 0, []⟩ : Ins)])) ⟨h.cn _, hs⟩
 refine nG (aa (bD rfl rfl) (aa (ae (v := (.bool (decide ((dS.kind : Int) = 5)))) rfl) (nN (aH hs rfl (fun Xd hs => ?_) (fun Xd hs => ?_)))))
 refine aB (aa (ah (v := v31) rfl) (aa (ah (v := (I6 c)) rfl) (aa (dH (pv := [(0, (I6 11)), (1, (I6 c))]) (out := [(I6 11), (I6 c), (I6 0), (I6 0), (.slice none 0 0)]) ny rfl ⟨0, 1, [(I6 11)], rfl, rfl, rfl, bC rfl, ⟨1, 1, [(I6 c)], rfl, rfl, rfl, bC rfl, rfl⟩⟩) (sV (R := jK) (vs := [(.agg #[(I6 11), (I6 c), (I6 0), (I6 0), (.slice none 0 0)])]) (xs := [(⟨11, c, 0, 0, []⟩ : Ins)]) h 174 fA rfl rfl rfl ⟨⟨_, rfl, fP.nil⟩, trivial⟩ rfl fun w u62 h => ?_))))
 obtain ⟨a63, hs⟩ := bu hs
 refine lg (R := jK) (m := [(⟨11, c, 0, 0, []⟩ : Ins)]) h 13 rfl (h.dG 174 rfl) fA rfl rfl rfl a63.1 a63.2 fun w u64 h => aa (ae (v := u64) rfl) (ay (ax (au ?_)))
 exact bP (u64, (x32 ++ [(⟨11, c, 0, 0, []⟩ : Ins)])) ⟨h.cn _, hs⟩
 refine nG (aa (bD rfl rfl) (aa (ae (v := (.bool (decide ((dS.kind : Int) = 8)))) rfl) (nN (aH hs rfl (fun yA hs => ?_) (fun yA hs => ?_)))))
 refine aB (aa (ah (v := v31) rfl) (aa (ah (v := (I6 c)) rfl) (aa (dH (pv := [(0, (I6 8)), (1, (I6 c))]) (out := [(I6 8), (I6 c), (I6 0), (I6 0), (.slice none 0 0)]) ny rfl ⟨0, 1, [(I6 8)], rfl, rfl, rfl, bC rfl, ⟨1, 1, [(I6 c)], rfl, rfl, rfl, bC rfl, rfl⟩⟩) (sV (R := jK) (vs := [(.agg #[(I6 8), (I6 c), (I6 0), (I6 0), (.slice none 0 0)])]) (xs := [(⟨8, c, 0, 0, []⟩ : Ins)]) h 175 fA rfl rfl rfl ⟨⟨_, rfl, fP.nil⟩, trivial⟩ rfl fun w u66 h => ?_))))
 obtain ⟨a67, hs⟩ := bu hs
 refine lg (R := jK) (m := [(⟨8, c, 0, 0, []⟩ : Ins)]) h 13 rfl (h.dG 175 rfl) fA rfl rfl rfl a67.1 a67.2 fun w u68 h => aa (ae (v := u68) rfl) (ay (ax (au ?_)))
 exact bP (u68, (x32 ++ [(⟨8, c, 0, 0, []⟩ : Ins)])) ⟨h.cn _, hs⟩
 refine bX (σ := Bool) (inl [102, 103, 104]) (fun x69 => [(102, (.bool (x69)))]) (fun x69 w => SH w0 M BE w (hset [(1, .sr eZ va a), (2, .sr jc vb b), (6, .own jK 93 v7 x8), (8, .rd kR u21 dS.e), (9, .rd kR u23 dS.f), (10, .rd eZ u25 dS.a), (11, .rd eZ u27 dS.b), (12, .blk b29 [(I6 dS.kind), (I6 dS.n), u21, u23, u25, u27]), (13, .own jK 93 v31 x32)]) ∧ pQ F0 d x8 x32 dS a b c nO x69 = some r) ?_ ?_
 rintro x69 w dz ⟨h, hs⟩
 refine aH hs rfl (fun c70 hs => ?_) (fun c70 hs => ?_)
 refine nG (aa (ag Ae rfl) (aa (aA h 12 rfl qi rfl rfl) (aa (ah (v := vb) rfl) (aa (ah (v := (I6 c)) rfl) (aa (ah (v := (I6 ((d + (x8.length : Int))))) rfl) (aa (ah (v := v31) rfl) (aa (bT jF rfl (h.dG 13 rfl)) ?_)))))))
 obtain ⟨a71, hs⟩ := bu hs
 refine aa (dm rfl rfl a71) ?_
 obtain ⟨a72, hs⟩ := bu hs
 refine aa (dm rfl rfl a72) ?_
 obtain ⟨Cw, e74, hs⟩ := aJ hs
 refine aR Nj rfl rfl (ih _ _ h.lt u25 dS.a (h.mM 10 rfl) vb b (h.iM 2 rfl) c (((d + (x8.length : Int)) + (x32.length : Int)) + 1) _ e74) ?_
 rintro _ w ⟨k78, u75, rfl, g76, g77⟩
 refine ⟨_, rfl, ?_⟩
 replace h := h.kG 176 k78 g76 g77
 refine aa (ae (v := u75) rfl) (nJ (aa (ah (v := (I6 ((d + (x8.length : Int))))) rfl) (aa (ah (v := v31) rfl) (aa (bT jF rfl (h.dG 13 rfl)) ?_))))
 obtain ⟨a79, hs⟩ := bu hs
 refine aa (dm rfl rfl a79) ?_
 obtain ⟨a80, hs⟩ := bu hs
 refine aa (dm rfl rfl a80) (aa (ah (v := u75) rfl) (aa (bT jF rfl (h.dG 176 rfl)) ?_))
 obtain ⟨a81, hs⟩ := bu hs
 refine aa (dm rfl rfl a81) ?_
 obtain ⟨a82, hs⟩ := bu hs
 refine aa (dm rfl rfl a82) (aa (ae (v := (I6 ((((((d + (x8.length : Int)) + (x32.length : Int)) + 1) + (Cw.length : Int)) + 1)))) rfl) (nJ (aa (ag Af rfl) (aa (aA h 12 rfl qi rfl rfl) (aa (ah (v := vb) rfl) (aa (ah (v := (I6 c)) rfl) (aa (ah (v := (I6 ((((((d + (x8.length : Int)) + (x32.length : Int)) + 1) + (Cw.length : Int)) + 1)))) rfl) ?_)))))))
 obtain ⟨Sn, e84, hs⟩ := aJ hs
 refine aR Nj rfl rfl (ih _ _ h.lt u27 dS.b (h.mM 11 rfl) vb b (h.iM 2 rfl) c (((((d + (x8.length : Int)) + (x32.length : Int)) + 1) + (Cw.length : Int)) + 1) _ e84) ?_
 rintro _ w ⟨k88, u85, rfl, g86, g87⟩
 refine ⟨_, rfl, ?_⟩
 replace h := h.kG 177 k88 g86 g87
 refine aa (ae (v := u85) rfl) (nJ (aa (ah (v := (I6 ((((((d + (x8.length : Int)) + (x32.length : Int)) + 1) + (Cw.length : Int)) + 1)))) rfl) (aa (ah (v := u85) rfl) (aa (bT jF rfl (h.dG 177 rfl)) ?_))))
 obtain ⟨a89, hs⟩ := bu hs
 refine aa (dm rfl rfl a89) (aa (ae (v := (I6 (((((((d + (x8.length : Int)) + (x32.length : Int)) + 1) + (Cw.length : Int)) + 1) + (Sn.length : Int))))) rfl) (nN (bX (σ := Int) (inl [19, 134, 135, 136, 137]) (fun x90 => [(19, (I6 x90))]) (fun x90 w => SH w0 M BE w (hset [(1, .sr eZ va a), (2, .sr jc vb b), (6, .own jK 93 v7 x8), (13, .own jK 93 v31 x32), (176, .own jK 93 u75 Cw), (177, .own jK 93 u85 Sn)]) ∧ pO x32 c d x8 Cw Sn nO x90 = some r) ?_ ?_)))
 rintro x90 w dz ⟨h, hs⟩
 refine aB (aa (ah (v := v31) rfl) (aa (ah (v := (I6 c)) rfl) (aa (ah (v := (I6 ((((((d + (x8.length : Int)) + (x32.length : Int)) + 1) + (Cw.length : Int)) + 1)))) rfl) (aa (dH (pv := [(0, (I6 13)), (1, (I6 c)), (2, (I6 ((((((d + (x8.length : Int)) + (x32.length : Int)) + 1) + (Cw.length : Int)) + 1))))]) (out := [(I6 13), (I6 c), (I6 ((((((d + (x8.length : Int)) + (x32.length : Int)) + 1) + (Cw.length : Int)) + 1))), (I6 0), (.slice none 0 0)]) ny rfl ⟨0, 1, [(I6 13)], rfl, rfl, rfl, bC rfl, ⟨1, 1, [(I6 c)], rfl, rfl, rfl, bC rfl, ⟨2, 1, [(I6 ((((((d + (x8.length : Int)) + (x32.length : Int)) + 1) + (Cw.length : Int)) + 1)))], rfl, rfl, rfl, bC rfl, rfl⟩⟩⟩) (sV (R := jK) (vs := [(.agg #[(I6 13), (I6 c), (I6 ((((((d + (x8.length : Int)) + (x32.length : Int)) + 1) + (Cw.length : Int)) + 1))), (I6 0), (.slice none 0 0)])]) (xs := [(⟨13, c, (((((d + (x8.length : Int)) + (x32.length : Int)) + 1) + (Cw.length : Int)) + 1), 0, []⟩ : Ins)]) h 178 fA rfl rfl rfl ⟨⟨_, rfl, fP.nil⟩, trivial⟩ rfl fun w u91 h => ?_)))))
 obtain ⟨a92, hs⟩ := bu hs
 refine lg (R := jK) (m := [(⟨13, c, (((((d + (x8.length : Int)) + (x32.length : Int)) + 1) + (Cw.length : Int)) + 1), 0, []⟩ : Ins)]) h 13 rfl (h.dG 178 rfl) fA rfl rfl rfl a92.1 a92.2 fun w u93 h => aa (ah (v := u75) rfl) ?_
 obtain ⟨a94, hs⟩ := bu hs
 refine lg (R := jK) (m := Cw) h 13 rfl (h.dG 176 rfl) fA rfl rfl rfl a94.1 a94.2 fun w u95 h => aa (ah (v := (I6 x90)) rfl) (aa (dH (pv := [(0, (I6 12)), (2, (I6 x90))]) (out := [(I6 12), (I6 0), (I6 x90), (I6 0), (.slice none 0 0)]) ny rfl ⟨0, 1, [(I6 12)], rfl, rfl, rfl, bC rfl, ⟨2, 1, [(I6 x90)], rfl, rfl, rfl, bC rfl, rfl⟩⟩) (sV (R := jK) (vs := [(.agg #[(I6 12), (I6 0), (I6 x90), (I6 0), (.slice none 0 0)])]) (xs := [(⟨12, 0, x90, 0, []⟩ : Ins)]) h 179 fA rfl rfl rfl ⟨⟨_, rfl, fP.nil⟩, trivial⟩ rfl fun w u96 h => ?_))
 obtain ⟨a97, hs⟩ := bu hs
 refine lg (R := jK) (m := [(⟨12, 0, x90, 0, []⟩ : Ins)]) h 13 rfl (h.dG 179 rfl) fA rfl rfl rfl a97.1 a97.2 fun w u98 h => aa (ah (v := u85) rfl) ?_
 obtain ⟨a99, hs⟩ := bu hs
 refine lg (R := jK) (m := Sn) h 13 rfl (h.dG 177 rfl) fA rfl rfl rfl a99.1 a99.2 fun w u100 h => aa (ae (v := u100) rfl) (ay (ax (au ?_)))
 exact bP (u100, ((((x32 ++ [(⟨13, c, (((((d + (x8.length : Int)) + (x32.length : Int)) + 1) + (Cw.length : Int)) + 1), 0, []⟩ : Ins)]) ++ Cw) ++ [(⟨12, 0, x90, 0, []⟩ : Ins)]) ++ Sn)) ⟨h.cn _, hs⟩
 refine nG (aa (ag ko rfl) (aa (aA h 12 rfl aU rfl rfl) (aa (bD rfl rfl) (nN (aH hs rfl (fun c101 hs => ?_) (fun c101 hs => ?_))))))
 refine aB (aa (ah (v := (I6 ((d + (x8.length : Int))))) rfl) (aa (ae (v := (I6 ((d + (x8.length : Int))))) rfl) (ay (au ?_))))
 exact bP (d + (x8.length : Int)) ⟨h.cn _, hs⟩
 refine aI (au ?_)
 exact bP ((((((d + (x8.length : Int)) + (x32.length : Int)) + 1) + (Cw.length : Int)) + 1) + (Sn.length : Int)) ⟨h.cn _, hs⟩
 refine aI (ax (au ?_))
 exact bP (v31, x32) ⟨h.cn _, hs⟩
 refine nG (aa (bD rfl rfl) (aa (ae (v := (.bool (decide ((dS.kind : Int) = 6)))) rfl) (nN (aH hs rfl (fun WW hs => ?_) (fun WW hs => ?_)))))
 refine aI (au ?_)
 exact bP (decide ((dS.kind : Int) = 6)) ⟨h.cn _, hs⟩
 refine aB (aa (bD rfl rfl) (aa (ae (v := (.bool (decide ((dS.kind : Int) = 7)))) rfl) (ay (au ?_))))
 exact bP (decide ((dS.kind : Int) = 7)) ⟨h.cn _, hs⟩
 refine nG (aa (ag Ad rfl) (aa (aA h 12 rfl yz rfl rfl) (aa (bT kI rfl (h.mM 8 rfl)) (aa (j5 rfl rfl) (nN (aH hs rfl (fun c103 hs => ?_) (fun c103 hs => ?_)))))))
 refine aB (aa (ag Ad rfl) (aa (aA h 12 rfl yz rfl rfl) (aa (ah (v := vb) rfl) (aa (ah (v := (I6 c)) rfl) ?_))))
 obtain ⟨y104, Nu, hs⟩ := aJ hs
 refine aR Na rfl rfl (wW N _ _ h.lt u21 dS.e (h.mM 8 rfl) vb b (h.iM 2 rfl) c _ Nu) ?_
 rintro _ w ⟨k109, OV, rfl, g107, g108⟩
 refine ⟨_, rfl, ?_⟩
 replace h := h.kG 180 k109 g107 g108
 refine aa (ah (v := (.tuple #[OV, (I6 y104.2)])) rfl) (aa (aY rfl rfl) (aa (aY rfl rfl) (aa (ae (v := OV) rfl) (ay (au ?_)))))
 replace h := h.Fz 180 13 rfl rfl (by decide)
 exact bP (OV, y104.1) ⟨h.cn _, hs⟩
 refine aI (au ?_)
 replace h := h.zb (R := jK) (E := 93) 13
 exact bP ((.slice none 0 0), []) ⟨h.cn _, hs⟩
 rw [gL (hik ▸ e14), gT] at hs
 refine nE (aa (ah (v := v7) rfl) (aa (ae (v := v7) rfl) (nR (bR (v := v7) Tryz.results76 rfl ?_))))
 obtain rfl := fI hs
 exact ⟨h.grown, _, rfl, (h.mQ 6 rfl).1, (h.mQ 6 rfl).2⟩
def vJ (x8 : List bQ) (dS : fB) (nO : List bQ → Option (List bQ)) (N8 : List Ins) : Option (List bQ) :=
  gJ (Room 40 x8 [(⟨dS.params, 30, N8⟩ : bQ)]) (nO (x8 ++ [(⟨dS.params, 30, N8⟩ : bQ)]))
def qo (N : Nat) (a : List fB) (dS : fB) (x8 : List bQ) (nO : List bQ → Option (List bQ)) : Option (List bQ) :=
  (ma N dS.body a dS.locals 0).bind fun CP => gJ (Room 56 CP [(⟨1, dS.locals, 0, 0, []⟩ : Ins), (⟨8, dS.locals, 0, 0, []⟩ : Ins)]) (vJ x8 dS nO (CP ++ [(⟨1, dS.locals, 0, 0, []⟩ : Ins), (⟨8, dS.locals, 0, 0, []⟩ : Ins)]))
def qp (x8 : List bQ) : Option (List bQ) :=
  some x8
def zu (N : Nat) (a : List fB) : Option (List bQ) :=
  each (qo N a) qp a []
theorem Eb (N : Nat) (w0 : World) (M : BS) (hM : ∀ b, M b → b < w0.heap.size) (va : Value) (a : List fB) (ha : fP jc w0 BE M va a) (r : List bQ) (hs : zu N a = some r) :
    Calls Tryz.prog 39 #[va] w0 (fun e w' => Grow w0 w' ∧ ∃ u0, e = .returned (u0) ∧ dY jR 57 w' M u0 r ∧ (∀ b, ob u0 b → w0.heap.size ≤ b)) := by
 refine aL (args := [va]) Tryz.func39 rfl Tryz.ntmps39 (bC rfl) ?_
 have h := SH.init hM
 replace h := h.fG 1 ha bE
 have vE := ha.bW
 refine nG (aa (ae (v := (.slice none 0 0)) rfl) (nJ (aa (ae (v := (.slice none 0 0)) rfl) (nK (aa (ah (v := va) rfl) (aa (bT iN rfl (h.iM 1 rfl)) (aa (ah (v := (I6 0)) rfl) (nN (aP ?_)))))))))
 replace h := h.zb (R := jR) (E := 57) 5
 refine fT (σ := Nat × Int × Value × List bQ) (inl ([3, 5, 6] ++ rg 9 27)) (fun ⟨k9, i10, v7, x8⟩ => [(3, v7), (9, (I6 i10))]) (fun ⟨k9, i10, v7, x8⟩ w => SH w0 M BE w (hset [(1, .sr jc va a), (5, .own jR 57 v7 x8)]) ∧ i10 = (k9 : Int) ∧ each (qo N a) qp (a.drop k9) x8 = some r) (fun ⟨k9, i10, v7, x8⟩ => a.length - k9) ⟨0, 0, (.slice none 0 0), []⟩ ⟨rfl, rfl, trivial⟩ ?_ ?_
 exact ⟨h.cn _, rfl, hs⟩
 rintro ⟨k9, i10, v7, x8⟩ w dz ⟨h, hik, hs⟩
 refine nG ?_
 refine aa (dL rfl rfl) (nN ?_)
 refine aO (iw rfl (fun e14 => ?_) (fun e14 => ?_))
 refine aI (ak ?_)
 obtain ⟨dS, Nl, Nn⟩ := gK (hik ▸ e14)
 rw [Nn, dO] at hs
 generalize FO : each (qo N a) qp (a.drop (k9 + 1)) = nO at hs
 have Np := gN ((h.iM 1 rfl)).bW hik e14
 refine aO (aP (nG ?_))
 obtain ⟨b17, o18, WM, h, TF, i16⟩ := h.Br 1 6 rfl iN rfl (jb hik) (gM hik Nl)
 obtain ⟨u21, rfl, g22⟩ := tV TF
 replace h := h.bM 7 g22.up
 refine aa (i16 _ _ _ _ _ _ _ _ _ rfl rfl) (aa (jm (k := 0) (vs := [(I6 dS.params), (I6 dS.locals), u21]) h 6 rfl mI rfl rfl rfl (bC rfl)) (bO h 8 mI fun w Ej h => dn (vs := [(I6 dS.params), (I6 dS.locals), u21]) h 8 [(I6 dS.params), (I6 dS.locals), u21] rfl mI rfl rfl rfl rfl rfl (ai rfl (ai rfl (ai (h.fM 7 rfl).one aT))) fun w h => nJ (aa (ag wN rfl) (aa (aA h 8 rfl aU rfl rfl) (aa (dH (pv := [(0, (I6 dS.params)), (1, (I6 30))]) (out := [(I6 dS.params), (I6 30), (.slice none 0 0)]) Wl rfl ⟨0, 1, [(I6 dS.params)], rfl, rfl, rfl, bC rfl, ⟨1, 1, [(I6 30)], rfl, rfl, rfl, bC rfl, rfl⟩⟩) (bO h 9 xy fun w b24 h => dn (vs := [(I6 dS.params), (I6 30), (.slice none 0 0)]) h 9 [(I6 dS.params), (I6 30), (.slice none 0 0)] rfl xy rfl rfl rfl rfl rfl (ai rfl (ai rfl (ai rfl aT))) fun w h => nN (bX (σ := Value × List Ins) (inl (rg 16 15)) (fun ⟨v25, N8⟩ => []) (fun ⟨v25, N8⟩ w => SH w0 M BE w (hset [(1, .sr jc va a), (5, .own jR 57 v7 x8), (9, .blk b24 [(I6 dS.params), (I6 30), v25]), (70, .own jK 93 v25 N8)]) ∧ vJ x8 dS nO N8 = some r) ?_ ?_)))))))
 rintro ⟨v25, N8⟩ w dz ⟨h, hs⟩
 refine aB (aa (ah (v := v7) rfl) (aa (dh (vs := [(I6 dS.params), (I6 30), v25]) h 9 rfl xy rfl rfl rfl) ?_))
 replace h := h.freeze 70 rfl
 refine sV (R := jR) (vs := [(.agg #[(I6 dS.params), (I6 30), v25])]) (xs := [(⟨dS.params, 30, N8⟩ : bQ)]) h 71 OA rfl rfl rfl ⟨⟨_, rfl, (h.fM 70 rfl)⟩, trivial⟩ rfl fun w u27 h => ?_
 obtain ⟨a28, hs⟩ := bu hs
 refine lg (R := jR) (m := [(⟨dS.params, 30, N8⟩ : bQ)]) h 5 rfl (h.dG 71 rfl) OA rfl rfl rfl a28.1 a28.2 fun w u29 h => aa (ae (v := u29) rfl) (ay (ax (ak (aB (aa (dm rfl rfl Np) (aa (ah (v := (I6 ((i10 + 1)))) rfl) (ay (au ?_))))))))
 subst FO
 exact jQ ⟨k9 + 1, i10 + 1, u29, (x8 ++ [(⟨dS.params, 30, N8⟩ : bQ)])⟩ ⟨h.cn _, by omega, hs⟩ (by have := qE e14; dsimp only; omega)
 refine kL (L := (fun x => x = b24)) mixed h fun w h => bA 0 (aD.refl _ _) rfl aj (by kernel_rfl) (by kernel_rfl) (by kernel_rfl) (fun w hk => ag CK rfl) (bA 1 (aD.refl _ _) rfl aj (by kernel_rfl) (by kernel_rfl) (by kernel_rfl) (fun w hk => have h := h.oQ 9 rfl hk; aA h 8 rfl qi rfl rfl) (bA 2 (aD.refl _ _) rfl aj (by kernel_rfl) (by kernel_rfl) (by kernel_rfl) (fun w hk => ah (v := va) rfl) (bA 3 (aD.refl _ _) rfl aj (by kernel_rfl) (by kernel_rfl) (by kernel_rfl) (fun w hk => ag Ac rfl) (bA 4 (aD.refl _ _) rfl aj (by kernel_rfl) (by kernel_rfl) (by kernel_rfl) (fun w hk => have h := h.oQ 9 rfl hk; aA h 8 rfl aU rfl rfl) (bA 6 (aD.refl _ _) rfl aj (by kernel_rfl) (by kernel_rfl) (by kernel_rfl) (fun w hk => ag Ac rfl) (bA 7 (aD.refl _ _) rfl aj (by kernel_rfl) (by kernel_rfl) (by kernel_rfl) (fun w hk => have h := h.oQ 9 rfl hk; aA h 8 rfl aU rfl rfl) (bA 8 (aD.refl _ _) rfl aj (by kernel_rfl) (by kernel_rfl) (by kernel_rfl) (fun w hk => dH (pv := [(0, (I6 1)), (1, (I6 dS.locals))]) (out := [(I6 1), (I6 dS.locals), (I6 0), (I6 0), (.slice none 0 0)]) ny rfl ⟨0, 1, [(I6 1)], rfl, rfl, rfl, bC rfl, ⟨1, 1, [(I6 dS.locals)], rfl, rfl, rfl, bC rfl, rfl⟩⟩) (bA 9 (aD.refl _ _) rfl aj (by kernel_rfl) (by kernel_rfl) (by kernel_rfl) (fun w hk => ag Ac rfl) (bA 10 (aD.refl _ _) rfl aj (by kernel_rfl) (by kernel_rfl) (by kernel_rfl) (fun w hk => have h := h.oQ 9 rfl hk; aA h 8 rfl aU rfl rfl) (bA 11 (aD.refl _ _) rfl aj (by kernel_rfl) (by kernel_rfl) (by kernel_rfl) (fun w hk => dH (pv := [(0, (I6 8)), (1, (I6 dS.locals))]) (out := [(I6 8), (I6 dS.locals), (I6 0), (I6 0), (.slice none 0 0)]) ny rfl ⟨0, 1, [(I6 8)], rfl, rfl, rfl, bC rfl, ⟨1, 1, [(I6 dS.locals)], rfl, rfl, rfl, bC rfl, rfl⟩⟩) ?_))))))))))
 obtain ⟨CP, OY, hs⟩ := aJ hs
 obtain ⟨DJ, hs⟩ := bu hs
 obtain ⟨Qt, OL⟩ : ∃ x, x = w := ⟨_, rfl⟩
 have nT : aD (fun x => x = b24) Qt w := OL ▸ aD.refl (fun x => x = b24) w
 refine rU OL.symm (lu 5 12 (by kernel_rfl) rfl aj rfl aj ?_ ?_)
 refine aR Nj rfl rfl (wY N _ _ h.lt u21 dS.body (h.mM 7 rfl) va a (h.iM 1 rfl) dS.locals 0 _ OY) ?_
 rintro _ w ⟨CQ, JS, rfl, JU, CR⟩
 refine ⟨_, rfl, ?_⟩
 replace h := h.kG 132 CQ JU CR
 have Ar : ∀ b, ob JS b → Qt.heap.size ≤ b := fun b hb => Nat.le_trans nT.size (CR b hb)
 replace nT := nT.grow CQ
 refine ay (aN nT (bg 12 (by kernel_rfl) rfl aj (wK (R := jK) (vs := [(.agg #[(I6 1), (I6 dS.locals), (I6 0), (I6 0), (.slice none 0 0)]), (.agg #[(I6 8), (I6 dS.locals), (I6 0), (I6 0), (.slice none 0 0)])]) (xs := [(⟨1, dS.locals, 0, 0, []⟩ : Ins), (⟨8, dS.locals, 0, 0, []⟩ : Ins)]) h 216 fA rfl rfl rfl ⟨⟨_, rfl, fP.nil⟩, ⟨⟨_, rfl, fP.nil⟩, trivial⟩⟩ rfl fun w GV h EA EB => ?_)))
 have QQ : ∀ b, ob GV b → Qt.heap.size ≤ b := fun b hb => Nat.le_trans nT.size (EB b hb)
 replace nT := nT.grow EA
 refine ay (aN nT (bg 13 (by kernel_rfl) rfl aj ?_))
 have EC := nT.size
 refine kS (R := jK) (m := [(⟨1, dS.locals, 0, 0, []⟩ : Ins), (⟨8, dS.locals, 0, 0, []⟩ : Ins)]) h 132 rfl (h.dG 216 rfl) fA rfl rfl rfl DJ.1 DJ.2 fun w Au h ED EE => ?_
 replace nT := nT.Vz ED Ar
 have QR := Ls EC Ar EE
 refine ay (aN nT (cK 14 nT rfl (by kernel_rfl) (fun w hk => ag sQ rfl) (bg 15 (by kernel_rfl) rfl aj (o7 h 9 [(I6 dS.params), (I6 30), Au] rfl Cj rfl rfl rfl rfl (h.dC 132 rfl).one fun w h GX => ?_))))
 replace nT := nT.same GX
 refine ay (aN nT (eY (by kernel_rfl) (au ?_)))
 replace h := h.Fz 132 70 rfl rfl (by decide)
 exact bP (Au, (CP ++ [(⟨1, dS.locals, 0, 0, []⟩ : Ins), (⟨8, dS.locals, 0, 0, []⟩ : Ins)])) ⟨h.cn _, hs⟩
 refine wK (R := jK) (vs := [(.agg #[(I6 1), (I6 dS.locals), (I6 0), (I6 0), (.slice none 0 0)]), (.agg #[(I6 8), (I6 dS.locals), (I6 0), (I6 0), (.slice none 0 0)])]) (xs := [(⟨1, dS.locals, 0, 0, []⟩ : Ins), (⟨8, dS.locals, 0, 0, []⟩ : Ins)]) h 216 fA rfl rfl rfl ⟨⟨_, rfl, fP.nil⟩, ⟨⟨_, rfl, fP.nil⟩, trivial⟩⟩ rfl fun w GV h EA EB => ?_
 have QQ : ∀ b, ob GV b → Qt.heap.size ≤ b := fun b hb => Nat.le_trans nT.size (EB b hb)
 replace nT := nT.grow EA
 refine ay (aN nT (bg 5 (by kernel_rfl) rfl aj (aR Nj rfl rfl (wY N _ _ h.lt u21 dS.body (h.mM 7 rfl) va a (h.iM 1 rfl) dS.locals 0 _ OY) ?_)))
 rintro _ w ⟨CQ, JS, rfl, JU, CR⟩
 refine ⟨_, rfl, ?_⟩
 replace h := h.kG 132 CQ JU CR
 have Ar : ∀ b, ob JS b → Qt.heap.size ≤ b := fun b hb => Nat.le_trans nT.size (CR b hb)
 replace nT := nT.grow CQ
 refine ay (aN nT (bg 13 (by kernel_rfl) rfl aj ?_))
 have EC := nT.size
 refine kS (R := jK) (m := [(⟨1, dS.locals, 0, 0, []⟩ : Ins), (⟨8, dS.locals, 0, 0, []⟩ : Ins)]) h 132 rfl (h.dG 216 rfl) fA rfl rfl rfl DJ.1 DJ.2 fun w Au h ED EE => ?_
 replace nT := nT.Vz ED Ar
 have QR := Ls EC Ar EE
 refine ay (aN nT (cK 14 nT rfl (by kernel_rfl) (fun w hk => ag sQ rfl) (bg 15 (by kernel_rfl) rfl aj (o7 h 9 [(I6 dS.params), (I6 30), Au] rfl Cj rfl rfl rfl rfl (h.dC 132 rfl).one fun w h GX => ?_))))
 replace nT := nT.same GX
 refine ay (aN nT (eY (by kernel_rfl) (au ?_)))
 replace h := h.Fz 132 70 rfl rfl (by decide)
 exact bP (Au, (CP ++ [(⟨1, dS.locals, 0, 0, []⟩ : Ins), (⟨8, dS.locals, 0, 0, []⟩ : Ins)])) ⟨h.cn _, hs⟩
 rw [gL (hik ▸ e14), gT] at hs
 refine nE (aa (ah (v := v7) rfl) (aa (ae (v := v7) rfl) (nR (bR (v := v7) Tryz.results39 rfl ?_))))
 obtain rfl := fI hs
 exact ⟨h.grown, _, rfl, (h.mQ 5 rfl).1, (h.mQ 5 rfl).2⟩
def fO (x6 : Bool) : Bool × Bool × Bool × Bool :=
  bif x6 then (false, false, false, true) else (false, false, false, false)
def fE (a : Int) (x3 : Bool) : Bool × Bool × Bool × Bool :=
  bif x3 then (true, true, false, true) else bif decide ((a : Int) = 3) then (true, true, true, true) else bif decide ((a : Int) = 10) then fO (decide ((a : Int) = 10)) else fO (decide ((a : Int) = 12))
def dQ (a : Int) (x1 : Bool) : Bool × Bool × Bool × Bool :=
  bif x1 then (true, false, false, true) else bif decide ((a : Int) = 2) then fE a (decide ((a : Int) = 2)) else bif decide ((a : Int) = 4) then fE a (decide ((a : Int) = 4)) else fE a (decide ((a : Int) = 6))
def bL (a : Int) : Bool × Bool × Bool × Bool :=
  bif decide ((a : Int) = 1) then dQ a (decide ((a : Int) = 1)) else bif decide ((a : Int) = 5) then dQ a (decide ((a : Int) = 5)) else bif decide ((a : Int) = 8) then dQ a (decide ((a : Int) = 8)) else bif decide ((a : Int) = 9) then dQ a (decide ((a : Int) = 9)) else bif decide ((a : Int) = 11) then dQ a (decide ((a : Int) = 11)) else bif decide ((a : Int) = 13) then dQ a (decide ((a : Int) = 13)) else dQ a (decide ((a : Int) = 7))
theorem OZ (w0 : World) (M : BS) (hM : ∀ b, M b → b < w0.heap.size) (a : Int) (r : Bool × Bool × Bool × Bool) (hs : bL a = r) :
    Calls Tryz.prog 115 #[(I6 a)] w0 (fun e w' => Grow w0 w' ∧ e = .returned (.tuple #[.bool r.1, .bool r.2.1, .bool r.2.2.1, .bool r.2.2.2])) := by
 refine aL (args := [(I6 a)]) Tryz.func115 rfl Tryz.ntmps115 (bC rfl) ?_
 have h := SH.init hM
 refine nG (aa (ae (v := (.bool (false))) rfl) (aa (ae (v := (.bool (false))) rfl) (aa (ae (v := (.bool (false))) rfl) (aa (ae (v := (.bool (false))) rfl) (nK (aa (ah (v := (I6 a)) rfl) (nN (aP (bX (σ := Bool) (inl (rg 7 8)) (fun x1 => [(7, (.bool (x1)))]) (fun x1 w => SH w0 M BE w (hset []) ∧ dQ a x1 = r) ?_ ?_)))))))))
 rintro x1 w dz ⟨h, hs⟩
 refine aH hs rfl (fun c2 hs => ?_) (fun c2 hs => ?_)
 refine nG (aa (ae (v := (.bool (true))) rfl) (aa (ae (v := (.bool (false))) rfl) (aa (ae (v := (.bool (false))) rfl) (aa (ae (v := (.bool (true))) rfl) (nR (aF (az (VK (v1 := (.bool (true))) (v2 := (.bool (false))) (v3 := (.bool (false))) (v4 := (.bool (true))) Tryz.results115 rfl rfl rfl rfl ?_))))))))
 obtain rfl := hs
 exact ⟨h.grown, rfl⟩
 refine bX (σ := Bool) (inl [15, 16, 17, 18]) (fun x3 => [(15, (.bool (x3)))]) (fun x3 w => SH w0 M BE w (hset []) ∧ fE a x3 = r) ?_ ?_
 rintro x3 w dz ⟨h, hs⟩
 refine aH hs rfl (fun c4 hs => ?_) (fun c4 hs => ?_)
 refine nG (aa (ae (v := (.bool (true))) rfl) (aa (ae (v := (.bool (true))) rfl) (aa (ae (v := (.bool (false))) rfl) (aa (ae (v := (.bool (true))) rfl) (nR (aF (az (VK (v1 := (.bool (true))) (v2 := (.bool (true))) (v3 := (.bool (false))) (v4 := (.bool (true))) Tryz.results115 rfl rfl rfl rfl ?_))))))))
 obtain rfl := hs
 exact ⟨h.grown, rfl⟩
 refine nG (aa (bD rfl rfl) (aa (ae (v := (.bool (decide ((a : Int) = 3)))) rfl) (nN (aH hs rfl (fun c5 hs => ?_) (fun c5 hs => ?_)))))
 refine nG (aa (ae (v := (.bool (true))) rfl) (aa (ae (v := (.bool (true))) rfl) (aa (ae (v := (.bool (true))) rfl) (aa (ae (v := (.bool (true))) rfl) (nR (aF (az (VK (v1 := (.bool (true))) (v2 := (.bool (true))) (v3 := (.bool (true))) (v4 := (.bool (true))) Tryz.results115 rfl rfl rfl rfl ?_))))))))
 obtain rfl := hs
 exact ⟨h.grown, rfl⟩
 refine bX (σ := Bool) (inl [21, 22, 23]) (fun x6 => [(21, (.bool (x6)))]) (fun x6 w => SH w0 M BE w (hset []) ∧ fO x6 = r) ?_ ?_
 rintro x6 w dz ⟨h, hs⟩
 refine aH hs rfl (fun c7 hs => ?_) (fun c7 hs => ?_)
 refine nG (aa (ae (v := (.bool (false))) rfl) (aa (ae (v := (.bool (false))) rfl) (aa (ae (v := (.bool (false))) rfl) (aa (ae (v := (.bool (true))) rfl) (nR (aF (az (VK (v1 := (.bool (false))) (v2 := (.bool (false))) (v3 := (.bool (false))) (v4 := (.bool (true))) Tryz.results115 rfl rfl rfl rfl ?_))))))))
 obtain rfl := hs
 exact ⟨h.grown, rfl⟩
 refine aI (ax (ak (nG (aa (ae (v := (.bool (false))) rfl) (aa (ae (v := (.bool (false))) rfl) (aa (ae (v := (.bool (false))) rfl) (aa (ae (v := (.bool (false))) rfl) (nR (VK (v1 := (.bool (false))) (v2 := (.bool (false))) (v3 := (.bool (false))) (v4 := (.bool (false))) Tryz.results115 rfl rfl rfl rfl ?_)))))))))
 obtain rfl := hs
 exact ⟨h.grown, rfl⟩
 refine nG (aa (bD rfl rfl) (aa (ae (v := (.bool (decide ((a : Int) = 10)))) rfl) (nN (aH hs rfl (fun c8 hs => ?_) (fun c8 hs => ?_)))))
 refine aI (au ?_)
 exact bP (decide ((a : Int) = 10)) ⟨h.cn _, hs⟩
 refine aB (aa (bD rfl rfl) (aa (ae (v := (.bool (decide ((a : Int) = 12)))) rfl) (ay (au ?_))))
 exact bP (decide ((a : Int) = 12)) ⟨h.cn _, hs⟩
 refine nG (aa (bD rfl rfl) (aa (ae (v := (.bool (decide ((a : Int) = 2)))) rfl) (nN (aH hs rfl (fun c9 hs => ?_) (fun c9 hs => ?_)))))
 refine aI (au ?_)
 exact bP (decide ((a : Int) = 2)) ⟨h.cn _, hs⟩
 refine nG (aa (bD rfl rfl) (aa (ae (v := (.bool (decide ((a : Int) = 4)))) rfl) (nN (aH hs rfl (fun c10 hs => ?_) (fun c10 hs => ?_)))))
 refine aI (au ?_)
 exact bP (decide ((a : Int) = 4)) ⟨h.cn _, hs⟩
 refine aB (aa (bD rfl rfl) (aa (ae (v := (.bool (decide ((a : Int) = 6)))) rfl) (ay (au ?_))))
 exact bP (decide ((a : Int) = 6)) ⟨h.cn _, hs⟩
 refine nG (aa (bD rfl rfl) (aa (ae (v := (.bool (decide ((a : Int) = 1)))) rfl) (nN (aH hs rfl (fun c11 hs => ?_) (fun c11 hs => ?_)))))
 refine aI (au ?_)
 exact bP (decide ((a : Int) = 1)) ⟨h.cn _, hs⟩
 refine nG (aa (bD rfl rfl) (aa (ae (v := (.bool (decide ((a : Int) = 5)))) rfl) (nN (aH hs rfl (fun c12 hs => ?_) (fun c12 hs => ?_)))))
 refine aI (au ?_)
 exact bP (decide ((a : Int) = 5)) ⟨h.cn _, hs⟩
 refine nG (aa (bD rfl rfl) (aa (ae (v := (.bool (decide ((a : Int) = 8)))) rfl) (nN (aH hs rfl (fun c13 hs => ?_) (fun c13 hs => ?_)))))
 refine aI (au ?_)
 exact bP (decide ((a : Int) = 8)) ⟨h.cn _, hs⟩
 refine nG (aa (bD rfl rfl) (aa (ae (v := (.bool (decide ((a : Int) = 9)))) rfl) (nN (aH hs rfl (fun c14 hs => ?_) (fun c14 hs => ?_)))))
 refine aI (au ?_)
 exact bP (decide ((a : Int) = 9)) ⟨h.cn _, hs⟩
 refine nG (aa (bD rfl rfl) (aa (ae (v := (.bool (decide ((a : Int) = 11)))) rfl) (nN (aH hs rfl (fun c15 hs => ?_) (fun c15 hs => ?_)))))
 refine aI (au ?_)
 exact bP (decide ((a : Int) = 11)) ⟨h.cn _, hs⟩
 refine nG (aa (bD rfl rfl) (aa (ae (v := (.bool (decide ((a : Int) = 13)))) rfl) (nN (aH hs rfl (fun c16 hs => ?_) (fun c16 hs => ?_)))))
 refine aI (au ?_)
 exact bP (decide ((a : Int) = 13)) ⟨h.cn _, hs⟩
 refine aB (aa (bD rfl rfl) (aa (ae (v := (.bool (decide ((a : Int) = 7)))) rfl) (ay (au ?_))))
 exact bP (decide ((a : Int) = 7)) ⟨h.cn _, hs⟩
def eP (a : Bool) (b : Int) (ky : Int) : Bool :=
  ((!a) || (decide ((0 : Int) ≤ b) && decide ((b : Int) < ky)))
theorem Ck (w0 : World) (M : BS) (hM : ∀ b, M b → b < w0.heap.size) (a : Bool) (b : Int) (ky : Int) (q0 : Nat) (hq0 : ∃ E, w0.heap[q0]? = some (.cells #[(I6 ky)] E (0, 0))) (r : Bool) (hs : eP a b ky = r) :
    Calls Tryz.prog 116 #[(.bool (a)), (I6 b), (.pointer (some ⟨q0, 0, none⟩))] w0 (fun e w' => Grow w0 w' ∧ e = .returned (.bool r)) := by
 refine aL (args := [(.bool (a)), (I6 b), (.pointer (some ⟨q0, 0, none⟩))]) Tryz.func116 rfl Tryz.ntmps116 (bC rfl) ?_
 have h := SH.init hM
 replace h := h.Ll 1 (cs := [(I6 ky)]) hq0 bE
 refine nG (aa (ae (v := (.bool (false))) rfl) (nJ (aa (ah (v := (.bool (a))) rfl) (aa (gQ rfl) (aa (ah (v := (.bool ((!a)))) rfl) (aC rfl rfl (fun q => ah (v := (I6 b)) rfl) (aC rfl rfl (fun q => qy (dE q) rfl) (aC rfl rfl (fun q => ah (v := (.bool (decide ((0 : Int) ≤ b)))) (dE q)) (nu ((!a) == false) rfl rfl (fun q => ah (v := (I6 b)) rfl) (nu ((!a) == false) rfl rfl (fun q => eU (k := 0) h 1 rfl aU rfl rfl) (nu ((!a) == false) rfl rfl (fun q => dL (dE q) (dE q)) (aC rfl rfl (fun q => gP (dE q) (Vg q) nQ) (aa (iy rfl rfl nQ) (aa (ae (v := (.bool (((!a) || (decide ((0 : Int) ≤ b) && decide ((b : Int) < ky)))))) rfl) (nR (bR (v := (.bool (((!a) || (decide ((0 : Int) ≤ b) && decide ((b : Int) < ky)))))) Tryz.results116 rfl ?_))))))))))))))))
 obtain rfl := hs
 exact ⟨h.grown, rfl⟩
def nP (d : Int) (x20 : Int) (s : Unit) (Zd : Unit → Option Int) : Option Int :=
  bif (!(decide ((0 : Int) ≤ x20) && decide ((x20 : Int) < d))) then some 3 else Zd ()
def su (s : Unit) : Option Int :=
  some 0
def ek (x9 : Bool) (a : Ins) (b : Int) (FU : Int) (c : List bQ) (y13 : Int) (Cr : Int) (d : Int) (sS : Int) : Option Int :=
  bif (!x9) then some 3 else bif (((decide ((a.a : Int) ≠ sS) || decide ((a.b : Int) ≠ FU)) || decide ((a.c : Int) ≠ y13)) || decide (((a.args.length : Int) : Int) ≠ Cr)) then some 4 else bif decide ((a.op : Int) = 7) then each (nP d) su a.args () else some 0
def bY (a : Ins) (b : Int) (c : List bQ) (d : Int) (x9 : Bool) (Cr : Int) (T9 : Int) (FU : Int) (y13 : Int) : Option Int :=
  bif decide ((a.op : Int) = 12) then ek x9 a b FU c y13 Cr d 0 else ek x9 a b FU c y13 Cr d T9
def dI (a : Ins) (b : Int) (c : List bQ) (d : Int) (qO : Bool) : Option Int :=
  bif qO then bY a b c d ((bL a.op).2.2.2) 0 a.a 0 0 else bif decide ((a.op : Int) = 10) then bY a b c d ((bL a.op).2.2.2) 0 0 0 0 else bY a b c d ((bL a.op).2.2.2) 0 a.a a.b 0
def dM (a : Ins) (b : Int) (c : List bQ) (d : Int) (e : Int) (x50 : Bool) : Option Int :=
  bif x50 then bY a b c d (decide ((0 : Int) ≤ a.b) && decide ((a.b : Int) < e)) 0 a.a a.b 0 else bif decide ((a.op : Int) = 7) then bif (decide ((a.b : Int) < 0) || decide (((c.length : Int) : Int) ≤ a.b)) then some 5 else (idx c a.b).bind fun x54 => bY a b c d ((bL a.op).2.2.2) x54.params a.a a.b 0 else bif decide ((a.op : Int) = 8) then dI a b c d (decide ((a.op : Int) = 8)) else bif decide ((a.op : Int) = 9) then dI a b c d (decide ((a.op : Int) = 9)) else dI a b c d (decide ((a.op : Int) = 11))
def dN (a : Ins) (b : Int) (c : List bQ) (d : Int) (e : Int) (x34 : Bool) : Option Int :=
  bif x34 then bY a b c d (decide ((0 : Int) ≤ a.c) && decide ((a.c : Int) < 4)) 0 a.a a.b a.c else bif decide ((a.op : Int) = 3) then bif decide (((a.args.length : Int) : Int) = 1) then (idx a.args 0).bind fun x38 => bY a b c d (decide ((1 : Int) ≤ x38) && decide ((x38 : Int) ≤ 5)) 1 a.a a.b a.c else bY a b c d false 1 a.a a.b a.c else bif decide ((a.op : Int) = 12) then dM a b c d e (decide ((a.op : Int) = 12)) else dM a b c d e (decide ((a.op : Int) = 13))
def gY (a : Ins) (b : Int) (c : List bQ) (d : Int) (e : Int) : Option Int :=
  bif (!(bL a.op).2.2.2) then some 4 else bif (((!((!(bL a.op).1) || (decide ((0 : Int) ≤ a.a) && decide ((a.a : Int) < d)))) || (!(eP ((bL a.op).2.1) a.b d))) || (!(eP ((bL a.op).2.2.1) a.c d))) then some 3 else bif decide ((a.op : Int) = 1) then bY a b c d (decide ((-1000000000 : Int) ≤ a.b) && decide ((a.b : Int) ≤ 1000000000)) 0 a.a a.b 0 else bif decide ((a.op : Int) = 5) then bY a b c d (decide ((1 : Int) ≤ a.b) && decide ((a.b : Int) ≤ 4)) 0 a.a a.b 0 else bif decide ((a.op : Int) = 4) then dN a b c d e (decide ((a.op : Int) = 4)) else dN a b c d e (decide ((a.op : Int) = 6))
theorem NA (w0 : World) (M : BS) (hM : ∀ b, M b → b < w0.heap.size) (a : Ins) (EF : Value) (ha4 : fP dA w0 BE M EF a.args) (b : Int) (vc : Value) (c : List bQ) (hc : fP jR w0 BE M vc c) (d : Int) (e : Int) (r : Int) (hs : gY a b c d e = some r) :
    Calls Tryz.prog 86 #[(.agg #[(I6 a.op), (I6 a.a), (I6 a.b), (I6 a.c), EF]), (I6 b), vc, (I6 d), (I6 e)] w0 (fun e w' => Grow w0 w' ∧ e = .returned (.int .i64 r)) := by
 refine aL (args := [(.agg #[(I6 a.op), (I6 a.a), (I6 a.b), (I6 a.c), EF]), (I6 b), vc, (I6 d), (I6 e)]) Tryz.func86 rfl Tryz.ntmps86 (bC rfl) ?_
 have h := SH.init hM
 replace h := h.fG 1 ha4 bE
 replace h := h.fG 2 hc (cO bE)
 have hl_c := hc.bW
 refine nG (oP (cs := [(I6 a.op), (I6 a.a), (I6 a.b), (I6 a.c), EF]) h 3 rfl rfl fun w b1 h => oP (cs := [(I6 d)]) h 4 rfl rfl fun w b2 h => aa (ae (v := (I6 0)) rfl) (nJ (aa (ag qB rfl) (aa (aA h 3 rfl aU rfl rfl) (aR YW rfl rfl (OZ _ _ h.lt a.op _ rfl) ?_)))))
 rintro _ w ⟨k3, rfl⟩
 refine ⟨_, rfl, ?_⟩
 replace h := h.grow k3
 refine aa (ah (v := (.tuple #[(.bool ((bL a.op).1)), (.bool ((bL a.op).2.1)), (.bool ((bL a.op).2.2.1)), (.bool ((bL a.op).2.2.2))])) rfl) (aa (aY rfl rfl) (aa (aY rfl rfl) (aa (aY rfl rfl) (aa (aY rfl rfl) (aa (ae (v := (.bool ((bL a.op).1))) rfl) (aa (ae (v := (.bool ((bL a.op).2.1))) rfl) (aa (ae (v := (.bool ((bL a.op).2.2.1))) rfl) (aa (ae (v := (.bool ((bL a.op).2.2.2))) rfl) (nK (aa (ah (v := (.bool ((bL a.op).2.2.2))) rfl) (aa (gQ rfl) (nN (aH hs rfl (fun c4 hs => ?_) (fun c4 hs => ?_))))))))))))))
 refine nG (aa (ae (v := (I6 4)) rfl) (nR (az (bR (v := (I6 4)) Tryz.results86 rfl ?_))))
 obtain rfl := fI hs
 exact ⟨h.grown, rfl⟩
 refine nS (aa (sU (c1 := []) (c2 := [(.pointer (some ⟨b2, 0, none⟩))]) rfl rfl) (aa (ae (v := (.func (.func 116) #[] #[(.pointer (some ⟨b2, 0, none⟩))])) rfl) (nK (aa (ah (v := (.func (.func 116) #[] #[(.pointer (some ⟨b2, 0, none⟩))])) rfl) (aa (ah (v := (.bool ((bL a.op).1))) rfl) (aa (ag kU rfl) (aa (aA h 3 rfl aU rfl rfl) (jP (args := [(.bool ((bL a.op).1)), (I6 a.a), (.pointer (some ⟨b2, 0, none⟩))]) Je rfl rfl (aL (args := [(.bool ((bL a.op).1)), (I6 a.a), (.pointer (some ⟨b2, 0, none⟩))]) Tryz.func116 rfl Tryz.ntmps116 (bC rfl) (nG (aa (ae (v := (.bool (false))) rfl) (nJ ?_))))))))))))
 refine aa (ah (v := (.bool ((bL a.op).1))) rfl) (aa (gQ rfl) (aa (ah (v := (.bool ((!(bL a.op).1)))) rfl) (aC rfl rfl (fun q => ah (v := (I6 a.a)) rfl) (aC rfl rfl (fun q => qy (dE q) rfl) (aC rfl rfl (fun q => ah (v := (.bool (decide ((0 : Int) ≤ a.a)))) (dE q)) (nu ((!(bL a.op).1) == false) rfl rfl (fun q => ah (v := (I6 a.a)) rfl) (nu ((!(bL a.op).1) == false) rfl rfl (fun q => aA h 4 rfl aU rfl rfl) (nu ((!(bL a.op).1) == false) rfl rfl (fun q => dL (dE q) (dE q)) (aC rfl rfl (fun q => gP (dE q) (Vg q) nQ) (aa (iy rfl rfl nQ) (aa (ae (v := (.bool (((!(bL a.op).1) || (decide ((0 : Int) ≤ a.a) && decide ((a.a : Int) < d)))))) rfl) (nR (bR (v := (.bool (((!(bL a.op).1) || (decide ((0 : Int) ≤ a.a) && decide ((a.a : Int) < d)))))) Tryz.results116 rfl (⟨_, rfl, ?_⟩))))))))))))))
 refine aa (gQ rfl) (aa (ah (v := (.bool ((!((!(bL a.op).1) || (decide ((0 : Int) ≤ a.a) && decide ((a.a : Int) < d))))))) rfl) (aC rfl rfl (fun q => ah (v := (.func (.func 116) #[] #[(.pointer (some ⟨b2, 0, none⟩))])) rfl) (aC rfl rfl (fun q => ah (v := (.bool ((bL a.op).2.1))) rfl) (aC rfl rfl (fun q => ag iZ rfl) (aC rfl rfl (fun q => aA h 3 rfl aU (dE q) rfl) (Jo [(.pointer (some ⟨b2, 0, none⟩))] rfl rfl Je (fun q => (dE q)) (fun q => mG (dE q) (mG (dE q) rfl)) (Ck _ _ h.lt ((bL a.op).2.1) a.b d b2 (h.rP 4 rfl) _ rfl) fun w k5 => ?_))))))
 replace h := h.grow k5
 refine aC rfl rfl (fun q => gQ (dE q)) (aa (iy rfl rfl nQ) (aa (ah (v := (.bool (((!((!(bL a.op).1) || (decide ((0 : Int) ≤ a.a) && decide ((a.a : Int) < d)))) || (!(eP ((bL a.op).2.1) a.b d)))))) rfl) (aC rfl rfl (fun q => ah (v := (.func (.func 116) #[] #[(.pointer (some ⟨b2, 0, none⟩))])) rfl) (aC rfl rfl (fun q => ah (v := (.bool ((bL a.op).2.2.1))) rfl) (aC rfl rfl (fun q => ag rz rfl) (aC rfl rfl (fun q => aA h 3 rfl aU (dE q) rfl) (Jo [(.pointer (some ⟨b2, 0, none⟩))] rfl rfl Je (fun q => (dE q)) (fun q => mG (dE q) (mG (dE q) rfl)) (Ck _ _ h.lt ((bL a.op).2.2.1) a.c d b2 (h.rP 4 rfl) _ rfl) fun w k6 => ?_)))))))
 replace h := h.grow k6
 refine aC rfl rfl (fun q => gQ (dE q)) (aa (iy rfl rfl nQ) (nN (aH hs rfl (fun c7 hs => ?_) (fun c7 hs => ?_))))
 refine nG (aa (ae (v := (I6 3)) rfl) (nR (az (bR (v := (I6 3)) Tryz.results86 rfl ?_))))
 obtain rfl := fI hs
 exact ⟨h.grown, rfl⟩
 refine nS (aa (ag rz rfl) (aa (aA h 3 rfl aU rfl rfl) (aa (qy rfl rfl) (aa (ah (v := (.bool (decide ((0 : Int) ≤ a.c)))) rfl) (aC rfl rfl (fun q => ag rz rfl) (aC rfl rfl (fun q => aA h 3 rfl aU (dE q) rfl) (aC rfl rfl (fun q => dL (dE q) rfl) (aa (gP rfl rfl nQ) (aa (ae (v := (.bool ((decide ((0 : Int) ≤ a.c) && decide ((a.c : Int) < 4))))) rfl) (nJ (aa (ae (v := (I6 0)) rfl) (nJ (aa (ag qB rfl) (aa (aA h 3 rfl aU rfl rfl) ?_))))))))))))))
 refine aa (ag kU rfl) (aa (aA h 3 rfl aU rfl rfl) (aa (ag iZ rfl) (aa (aA h 3 rfl aU rfl rfl) (aa (dH (pv := [(0, (I6 a.op)), (1, (I6 a.a)), (2, (I6 a.b))]) (out := [(I6 a.op), (I6 a.a), (I6 a.b), (I6 0), (.slice none 0 0)]) ny rfl ⟨0, 1, [(I6 a.op)], rfl, rfl, rfl, bC rfl, ⟨1, 1, [(I6 a.a)], rfl, rfl, rfl, bC rfl, ⟨2, 1, [(I6 a.b)], rfl, rfl, rfl, bC rfl, rfl⟩⟩⟩) (bO h 5 qI fun w b8 h => dn (vs := [(I6 a.op), (I6 a.a), (I6 a.b), (I6 0), (.slice none 0 0)]) h 5 [(I6 a.op), (I6 a.a), (I6 a.b), (I6 0), (.slice none 0 0)] rfl qI rfl rfl rfl rfl rfl (ai rfl (ai rfl (ai rfl (ai rfl (ai rfl aT))))) fun w h => nN (bX (σ := Bool × Int × Int × Int × Int) (inl ([10, 14, 17] ++ rg 69 91)) (fun ⟨x9, Cr, T9, FU, y13⟩ => [(14, (.bool (x9))), (17, (I6 Cr))]) (fun ⟨x9, Cr, T9, FU, y13⟩ w => SH w0 M BE w (hset [(1, .sr dA EF a.args), (3, .blk b1 [(I6 a.op), (I6 a.a), (I6 a.b), (I6 a.c), EF]), (4, .blk b2 [(I6 d)]), (5, .blk b8 [(I6 a.op), (I6 T9), (I6 FU), (I6 y13), (.slice none 0 0)])]) ∧ bY a b c d x9 Cr T9 FU y13 = some r) ?_ ?_))))))
 rintro ⟨x9, Cr, T9, FU, y13⟩ w dz ⟨h, hs⟩
 refine bX (σ := Int) (inl [160, 161, 162, 163]) (fun sS => []) (fun sS w => SH w0 M BE w (hset [(1, .sr dA EF a.args), (3, .blk b1 [(I6 a.op), (I6 a.a), (I6 a.b), (I6 a.c), EF]), (4, .blk b2 [(I6 d)]), (5, .blk b8 [(I6 a.op), (I6 sS), (I6 FU), (I6 y13), (.slice none 0 0)])]) ∧ ek x9 a b FU c y13 Cr d sS = some r) ?_ ?_
 rintro sS w dz ⟨h, hs⟩
 refine aO (nG (aa (ah (v := (.bool (x9))) rfl) (aa (gQ rfl) (nN (aH hs rfl (fun c15 hs => ?_) (fun c15 hs => ?_))))))
 refine nG (aa (ae (v := (I6 3)) rfl) (nR (az (bR (v := (I6 3)) Tryz.results86 rfl ?_))))
 obtain rfl := fI hs
 exact ⟨h.grown, rfl⟩
 refine aI (ak (aO (nG (aa (ag kU rfl) (aa (aA h 3 rfl aU rfl rfl) (aa (ag kU rfl) (aa (aA h 5 rfl aU rfl rfl) (aa (iP rfl rfl) (aa (ah (v := (.bool (decide ((a.a : Int) ≠ sS)))) rfl) (aC rfl rfl (fun q => ag iZ rfl) (aC rfl rfl (fun q => aA h 3 rfl aU (dE q) rfl) (aC rfl rfl (fun q => ag iZ rfl) (aC rfl rfl (fun q => aA h 5 rfl aU (dE q) rfl) (aC rfl rfl (fun q => iP (dE q) (dE q)) (aa (iy rfl rfl nQ) (aa (ah (v := (.bool ((decide ((a.a : Int) ≠ sS) || decide ((a.b : Int) ≠ FU))))) rfl) (aC rfl rfl (fun q => ag rz rfl) (aC rfl rfl (fun q => aA h 3 rfl aU (dE q) rfl) (aC rfl rfl (fun q => ag rz rfl) (aC rfl rfl (fun q => aA h 5 rfl aU (dE q) rfl) (aC rfl rfl (fun q => iP (dE q) (dE q)) (aa (iy rfl rfl nQ) ?_))))))))))))))))))))))
 refine aa (ah (v := (.bool (((decide ((a.a : Int) ≠ sS) || decide ((a.b : Int) ≠ FU)) || decide ((a.c : Int) ≠ y13))))) rfl) (aC rfl rfl (fun q => ag xS rfl) (aC rfl rfl (fun q => aA h 3 rfl rQ (dE q) rfl) (aC rfl rfl (fun q => bT bZ (dE q) (h.iM 1 rfl)) (aC rfl rfl (fun q => ah (v := (I6 Cr)) rfl) (aC rfl rfl (fun q => iP (dE q) (dE q)) (aa (iy rfl rfl nQ) (nN (aH hs rfl (fun c16 hs => ?_) (fun c16 hs => ?_)))))))))
 refine nG (aa (ae (v := (I6 4)) rfl) (nR (az (bR (v := (I6 4)) Tryz.results86 rfl ?_))))
 obtain rfl := fI hs
 exact ⟨h.grown, rfl⟩
 refine aI (ak (aO (nG (aa (ag qB rfl) (aa (aA h 3 rfl aU rfl rfl) (aa (bD rfl rfl) (nN (aH hs rfl (fun c17 hs => ?_) (fun c17 hs => ?_)))))))))
 refine nG (aa (ag xS rfl) (aa (aA h 3 rfl rQ rfl rfl) (aa (bT bZ rfl (h.iM 1 rfl)) (aa (ah (v := (I6 0)) rfl) (nN (aP (fT (σ := Nat × Int) (inl ([10, 20] ++ rg 198 9)) (fun ⟨k18, i19⟩ => [(198, (I6 i19))]) (fun ⟨k18, i19⟩ w => SH w0 M BE w (hset [(1, .sr dA EF a.args), (4, .blk b2 [(I6 d)])]) ∧ i19 = (k18 : Int) ∧ each (nP d) su (a.args.drop k18) () = some r) (fun ⟨k18, i19⟩ => a.args.length - k18) ⟨0, 0⟩ ⟨rfl, trivial⟩ ?_ ?_)))))))
 exact ⟨h.cn _, rfl, hs⟩
 rintro ⟨k18, i19⟩ w dz ⟨h, hik, hs⟩
 refine nG ?_
 refine aa (dL rfl rfl) (nN ?_)
 refine aO (iw rfl (fun e23 => ?_) (fun e23 => ?_))
 refine aI (ak ?_)
 obtain ⟨x20, e24a, e24b⟩ := gK (hik ▸ e23)
 rw [e24b, dO] at hs
 generalize hnx22 : each (nP d) su (a.args.drop (k18 + 1)) = Zd at hs
 have e24r := gN ((h.iM 1 rfl)).bW hik e23
 refine aO (aP (nG ?_))
 obtain ⟨b26, o27, Za, h, r29, i25⟩ := h.Br 1 6 rfl bZ rfl (jb hik) (gM hik e24a)
 obtain rfl := r29
 refine aa (i25 _ _ _ _ _ _ _ _ _ rfl rfl) (aa (eU (k := 0) h 6 rfl aU rfl rfl) (aa (ae (v := (I6 x20)) rfl) (nJ (aa (ah (v := (.func (.func 116) #[] #[(.pointer (some ⟨b2, 0, none⟩))])) rfl) (aa (ah (v := (I6 x20)) rfl) (jP (args := [(.bool (true)), (I6 x20), (.pointer (some ⟨b2, 0, none⟩))]) Je rfl rfl (aL (args := [(.bool (true)), (I6 x20), (.pointer (some ⟨b2, 0, none⟩))]) Tryz.func116 rfl Tryz.ntmps116 (bC rfl) (nG (aa (ae (v := (.bool (false))) rfl) (nJ (aa (ah (v := (.bool (true))) rfl) (aa (gQ rfl) (aa (ah (v := (.bool (false))) rfl) (dX rfl rfl (aa (ah (v := (I6 x20)) rfl) (dX rfl rfl ?_))))))))))))))))
 refine aa (qy rfl rfl) (dX rfl rfl (aa (ah (v := (.bool (decide ((0 : Int) ≤ x20)))) rfl) (aC rfl rfl (fun q => ah (v := (I6 x20)) rfl) (aC rfl rfl (fun q => aA h 4 rfl aU rfl rfl) (aC rfl rfl (fun q => dL (dE q) (dE q)) (dX rfl rfl (aa (gP rfl rfl nQ) (aa (dJ (b := false) (v := (.bool ((decide ((0 : Int) ≤ x20) && decide ((x20 : Int) < d))))) rfl rfl) (aa (ae (v := (.bool ((decide ((0 : Int) ≤ x20) && decide ((x20 : Int) < d))))) rfl) (nR (bR (v := (.bool ((decide ((0 : Int) ≤ x20) && decide ((x20 : Int) < d))))) Tryz.results116 rfl (⟨_, rfl, ?_⟩))))))))))))
 refine aa (gQ rfl) (nN (aH hs rfl (fun c30 hs => ?_) (fun c30 hs => ?_)))
 refine nG (aa (ae (v := (I6 3)) rfl) (nR (aF (az (az (aF (az (bR (v := (I6 3)) Tryz.results86 rfl ?_))))))))
 obtain rfl := fI hs
 exact ⟨h.grown, rfl⟩
 refine aI (ax (ak (aB (aa (dm rfl rfl e24r) (aa (ah (v := (I6 ((i19 + 1)))) rfl) (ay (au ?_)))))))
 subst hnx22
 exact jQ ⟨k18 + 1, i19 + 1⟩ ⟨h.cn _, by omega, hs⟩ (by have := qE e23; dsimp only; omega)
 rw [gL (hik ▸ e23), gT] at hs
 refine nE (aa (ae (v := (I6 0)) rfl) (nR (bR (v := (I6 0)) Tryz.results86 rfl ?_)))
 obtain rfl := fI hs
 exact ⟨h.grown, rfl⟩
 refine nS (aa (ae (v := (I6 0)) rfl) (nR (bR (v := (I6 0)) Tryz.results86 rfl ?_)))
 obtain rfl := fI hs
 exact ⟨h.grown, rfl⟩
 refine nG (aa (ag qB rfl) (aa (aA h 3 rfl aU rfl rfl) (aa (bD rfl rfl) (nN (aH hs rfl (fun c31 hs => ?_) (fun c31 hs => ?_))))))
 refine aB (aa (ag kU rfl) (eH h 5 [(I6 a.op), (I6 0), (I6 FU), (I6 y13), (.slice none 0 0)] rfl aU rfl rfl rfl rfl rfl fun w h => ay (au ?_)))
 exact bP 0 ⟨h.cn _, hs⟩
 refine aI (au ?_)
 exact bP T9 ⟨h.cn _, hs⟩
 refine nG (aa (ag qB rfl) (aa (aA h 3 rfl aU rfl rfl) (nN (aP (nG (aa (bD rfl rfl) (aa (ae (v := (.bool (decide ((a.op : Int) = 1)))) rfl) (nN (aH hs rfl (fun c32 hs => ?_) (fun c32 hs => ?_))))))))))
 refine aB (aa (ag iZ rfl) (aa (aA h 3 rfl aU rfl rfl) (aa (qy rfl rfl) (aa (ah (v := (.bool (decide ((-1000000000 : Int) ≤ a.b)))) rfl) (aC rfl rfl (fun q => ag iZ rfl) (aC rfl rfl (fun q => aA h 3 rfl aU (dE q) rfl) (aC rfl rfl (fun q => Fs (dE q) rfl) (aa (gP rfl rfl nQ) (aa (ae (v := (.bool ((decide ((-1000000000 : Int) ≤ a.b) && decide ((a.b : Int) ≤ 1000000000))))) rfl) (ay (ax (au ?_))))))))))))
 exact bP ((decide ((-1000000000 : Int) ≤ a.b) && decide ((a.b : Int) ≤ 1000000000)), 0, a.a, a.b, 0) ⟨h.cn _, hs⟩
 refine nG (aa (bD rfl rfl) (aa (ae (v := (.bool (decide ((a.op : Int) = 5)))) rfl) (nN (aH hs rfl (fun c33 hs => ?_) (fun c33 hs => ?_)))))
 refine aB (aa (ag iZ rfl) (aa (aA h 3 rfl aU rfl rfl) (aa (qy rfl rfl) (aa (ah (v := (.bool (decide ((1 : Int) ≤ a.b)))) rfl) (aC rfl rfl (fun q => ag iZ rfl) (aC rfl rfl (fun q => aA h 3 rfl aU (dE q) rfl) (aC rfl rfl (fun q => Fs (dE q) rfl) (aa (gP rfl rfl nQ) (aa (ae (v := (.bool ((decide ((1 : Int) ≤ a.b) && decide ((a.b : Int) ≤ 4))))) rfl) (ay (ax (au ?_))))))))))))
 exact bP ((decide ((1 : Int) ≤ a.b) && decide ((a.b : Int) ≤ 4)), 0, a.a, a.b, 0) ⟨h.cn _, hs⟩
 refine bX (σ := Bool) (inl [91, 92, 93]) (fun x34 => [(91, (.bool (x34)))]) (fun x34 w => SH w0 M BE w (hset [(1, .sr dA EF a.args), (2, .sr jR vc c), (3, .blk b1 [(I6 a.op), (I6 a.a), (I6 a.b), (I6 a.c), EF]), (4, .blk b2 [(I6 d)]), (5, .blk b8 [(I6 a.op), (I6 a.a), (I6 a.b), (I6 0), (.slice none 0 0)])]) ∧ dN a b c d e x34 = some r) ?_ ?_
 rintro x34 w dz ⟨h, hs⟩
 refine aH hs rfl (fun c35 hs => ?_) (fun c35 hs => ?_)
 refine sI 5 mixed (by kernel_rfl) h fun w h => aM (ah (v := (.bool ((decide ((0 : Int) ≤ a.c) && decide ((a.c : Int) < 4))))) rfl) (aM (ag rz rfl) (aM (aA h 3 rfl aU rfl rfl) (aM (ae (v := (.bool ((decide ((0 : Int) ≤ a.c) && decide ((a.c : Int) < 4))))) rfl) (aM (ag rz rfl) (Ch (eH h 5 [(I6 a.op), (I6 a.a), (I6 a.b), (I6 a.c), (.slice none 0 0)] rfl aU rfl rfl rfl rfl rfl fun w h => ay (ax (au ?_))))))))
 exact bP ((decide ((0 : Int) ≤ a.c) && decide ((a.c : Int) < 4)), 0, a.a, a.b, a.c) ⟨h.cn _, hs⟩
 refine nG (aa (bD rfl rfl) (aa (ae (v := (.bool (decide ((a.op : Int) = 3)))) rfl) (nN (aH hs rfl (fun c36 hs => ?_) (fun c36 hs => ?_)))))
 refine aO (sI 4 mixed (by kernel_rfl) h fun w h => aM (ag rz rfl) (aM (aA h 3 rfl aU rfl rfl) (aM (ae (v := (I6 1)) rfl) (aM (ag rz rfl) (Ch (eH h 5 [(I6 a.op), (I6 a.a), (I6 a.b), (I6 a.c), (.slice none 0 0)] rfl aU rfl rfl rfl rfl rfl fun w h => nN (aB (aa (ag xS rfl) (aa (aA h 3 rfl rQ rfl rfl) (aa (bT bZ rfl (h.iM 1 rfl)) (aa (bD rfl rfl) (aa (ah (v := (.bool (decide (((a.args.length : Int) : Int) = 1)))) rfl) (jL (b := decide (((a.args.length : Int) : Int) = 1)) hs (fun c37 hs => ?_) (fun c37 hs => ?_))))))))))))))
 refine dX rfl (cB c37) (aa (ag xS rfl) (dX rfl (cB c37) (aa (aA h 3 rfl rQ rfl rfl) (dX rfl (cB c37) ?_))))
 obtain ⟨x38, e39, hs⟩ := aJ hs
 obtain ⟨b41, o42, cs43, h, r44, i40⟩ := h.Br 1 7 rfl bZ rfl (aG e39).1 (aG e39).2
 obtain rfl := r44
 refine aa (i40 _ _ _ _ _ _ _ _ _ rfl rfl) (dX rfl (cB c37) (aa (eU (k := 0) h 7 rfl aU rfl rfl) (dX rfl (cB c37) (aa (qy rfl rfl) (aa (dJ (b := true) (v := (.bool (decide ((1 : Int) ≤ x38)))) (cB c37) rfl) (aa (ah (v := (.bool (decide ((1 : Int) ≤ x38)))) rfl) (aC rfl rfl (fun q => ag xS rfl) (aC rfl rfl (fun q => aA h 3 rfl rQ (dE q) rfl) ?_))))))))
 obtain ⟨b46, o47, cs48, h, r49, i45⟩ := h.Br 1 8 rfl bZ rfl (aG e39).1 (aG e39).2
 obtain rfl := r49
 refine aC rfl rfl (fun q => i45 _ _ _ _ _ _ _ _ _ (dE q) rfl) (aC rfl rfl (fun q => eU (k := 0) h 8 rfl aU (dE q) rfl) (aC rfl rfl (fun q => Fs (dE q) rfl) (aa (gP rfl rfl nQ) (aa (ae (v := (.bool ((decide ((1 : Int) ≤ x38) && decide ((x38 : Int) ≤ 5))))) rfl) (ay (ax (au ?_)))))))
 exact bP ((decide ((1 : Int) ≤ x38) && decide ((x38 : Int) ≤ 5)), 1, a.a, a.b, a.c) ⟨h.cn _, hs⟩
 refine yx rfl (cB c37) rfl (yx rfl (cB c37) rfl (yx rfl (cB c37) rfl (yx rfl (cB c37) rfl (yx rfl (cB c37) rfl (aa (dJ (b := false) (v := (.bool (false))) (cB c37) rfl) (aa (ah (v := (.bool (false))) rfl) (nL (b' := false) rfl rfl rfl (nL (b' := false) rfl rfl rfl (nL (b' := false) rfl rfl rfl (nL (b' := false) rfl rfl rfl (nL (b' := false) rfl rfl rfl (aa (dJ (b := false) (v := (.bool (false))) rfl rfl) (aa (ae (v := (.bool (false))) rfl) (ay (ax (au ?_))))))))))))))))
 exact bP (false, 1, a.a, a.b, a.c) ⟨h.cn _, hs⟩
 refine bX (σ := Bool) (inl [121, 122, 123]) (fun x50 => [(121, (.bool (x50)))]) (fun x50 w => SH w0 M BE w (hset [(1, .sr dA EF a.args), (2, .sr jR vc c), (3, .blk b1 [(I6 a.op), (I6 a.a), (I6 a.b), (I6 a.c), EF]), (4, .blk b2 [(I6 d)]), (5, .blk b8 [(I6 a.op), (I6 a.a), (I6 a.b), (I6 0), (.slice none 0 0)])]) ∧ dM a b c d e x50 = some r) ?_ ?_
 rintro x50 w dz ⟨h, hs⟩
 refine aH hs rfl (fun c51 hs => ?_) (fun c51 hs => ?_)
 refine aB (aa (ag iZ rfl) (aa (aA h 3 rfl aU rfl rfl) (aa (qy rfl rfl) (aa (ah (v := (.bool (decide ((0 : Int) ≤ a.b)))) rfl) (aC rfl rfl (fun q => ag iZ rfl) (aC rfl rfl (fun q => aA h 3 rfl aU (dE q) rfl) (aC rfl rfl (fun q => ah (v := (I6 e)) rfl) (aC rfl rfl (fun q => dL (dE q) (dE q)) (aa (gP rfl rfl nQ) (aa (ae (v := (.bool ((decide ((0 : Int) ≤ a.b) && decide ((a.b : Int) < e))))) rfl) (ay (ax (au ?_)))))))))))))
 exact bP ((decide ((0 : Int) ≤ a.b) && decide ((a.b : Int) < e)), 0, a.a, a.b, 0) ⟨h.cn _, hs⟩
 refine nG (aa (bD rfl rfl) (aa (ae (v := (.bool (decide ((a.op : Int) = 7)))) rfl) (nN (aH hs rfl (fun Ew hs => ?_) (fun Ew hs => ?_)))))
 refine aO (nG (aa (ag iZ rfl) (aa (aA h 3 rfl aU rfl rfl) (aa (dL rfl rfl) (aa (ah (v := (.bool (decide ((a.b : Int) < 0)))) rfl) (aC rfl rfl (fun q => ag iZ rfl) (aC rfl rfl (fun q => aA h 3 rfl aU (dE q) rfl) (aC rfl rfl (fun q => ah (v := vc) rfl) (aC rfl rfl (fun q => bT jW (dE q) (h.iM 2 rfl)) (aC rfl rfl (fun q => qy (dE q) (dE q)) (aa (iy rfl rfl nQ) (nN (aH hs rfl (fun c53 hs => ?_) (fun c53 hs => ?_))))))))))))))
 refine nG (aa (ae (v := (I6 5)) rfl) (nR (az (aF (az (bR (v := (I6 5)) Tryz.results86 rfl ?_))))))
 obtain rfl := fI hs
 exact ⟨h.grown, rfl⟩
 refine aI (ak (aB (aa (ah (v := vc) rfl) (aa (ag iZ rfl) (aa (aA h 3 rfl aU rfl rfl) ?_)))))
 obtain ⟨x54, e55, hs⟩ := aJ hs
 obtain ⟨b57, o58, cs59, h, r60, i56⟩ := h.Br 2 9 rfl jW rfl (aG e55).1 (aG e55).2
 obtain ⟨u61, rfl, g62⟩ := pg r60
 replace h := h.bM 10 g62.up
 refine aa (i56 _ _ _ _ _ _ _ _ _ rfl rfl) (aa (ag FJ rfl) (aa (eU (k := 0) h 9 rfl aU rfl rfl) (aa (ae (v := (I6 x54.params)) rfl) (ay (ax (au ?_))))))
 exact bP ((bL a.op).2.2.2, x54.params, a.a, a.b, 0) ⟨h.cn _, hs⟩
 refine bX (σ := Bool) (inl [151, 152, 153, 154]) (fun qO => [(151, (.bool (qO)))]) (fun qO w => SH w0 M BE w (hset [(1, .sr dA EF a.args), (3, .blk b1 [(I6 a.op), (I6 a.a), (I6 a.b), (I6 a.c), EF]), (4, .blk b2 [(I6 d)]), (5, .blk b8 [(I6 a.op), (I6 a.a), (I6 a.b), (I6 0), (.slice none 0 0)])]) ∧ dI a b c d qO = some r) ?_ ?_
 rintro qO w dz ⟨h, hs⟩
 refine aH hs rfl (fun c64 hs => ?_) (fun c64 hs => ?_)
 refine aB (aa (ag iZ rfl) (eH h 5 [(I6 a.op), (I6 a.a), (I6 0), (I6 0), (.slice none 0 0)] rfl aU rfl rfl rfl rfl rfl fun w h => ay (ax (au ?_))))
 exact bP ((bL a.op).2.2.2, 0, a.a, 0, 0) ⟨h.cn _, hs⟩
 refine nG (aa (bD rfl rfl) (aa (ae (v := (.bool (decide ((a.op : Int) = 10)))) rfl) (nN (aH hs rfl (fun yA hs => ?_) (fun yA hs => ?_)))))
 refine aB (aa (ag kU rfl) (eH h 5 [(I6 a.op), (I6 0), (I6 a.b), (I6 0), (.slice none 0 0)] rfl aU rfl rfl rfl rfl rfl fun w h => aa (ag iZ rfl) (eH h 5 [(I6 a.op), (I6 0), (I6 0), (I6 0), (.slice none 0 0)] rfl aU rfl rfl rfl rfl rfl fun w h => ay (ax (au ?_)))))
 exact bP ((bL a.op).2.2.2, 0, 0, 0, 0) ⟨h.cn _, hs⟩
 refine aI (ax (au ?_))
 exact bP ((bL a.op).2.2.2, 0, a.a, a.b, 0) ⟨h.cn _, hs⟩
 refine nG (aa (bD rfl rfl) (aa (ae (v := (.bool (decide ((a.op : Int) = 8)))) rfl) (nN (aH hs rfl (fun c66 hs => ?_) (fun c66 hs => ?_)))))
 refine aI (au ?_)
 exact bP (decide ((a.op : Int) = 8)) ⟨h.cn _, hs⟩
 refine nG (aa (bD rfl rfl) (aa (ae (v := (.bool (decide ((a.op : Int) = 9)))) rfl) (nN (aH hs rfl (fun c67 hs => ?_) (fun c67 hs => ?_)))))
 refine aI (au ?_)
 exact bP (decide ((a.op : Int) = 9)) ⟨h.cn _, hs⟩
 refine aB (aa (bD rfl rfl) (aa (ae (v := (.bool (decide ((a.op : Int) = 11)))) rfl) (ay (au ?_))))
 exact bP (decide ((a.op : Int) = 11)) ⟨h.cn _, hs⟩
 refine nG (aa (bD rfl rfl) (aa (ae (v := (.bool (decide ((a.op : Int) = 12)))) rfl) (nN (aH hs rfl (fun QC hs => ?_) (fun QC hs => ?_)))))
 refine aI (au ?_)
 exact bP (decide ((a.op : Int) = 12)) ⟨h.cn _, hs⟩
 refine aB (aa (bD rfl rfl) (aa (ae (v := (.bool (decide ((a.op : Int) = 13)))) rfl) (ay (au ?_))))
 exact bP (decide ((a.op : Int) = 13)) ⟨h.cn _, hs⟩
 refine nG (aa (bD rfl rfl) (aa (ae (v := (.bool (decide ((a.op : Int) = 4)))) rfl) (nN (aH hs rfl (fun c69 hs => ?_) (fun c69 hs => ?_)))))
 refine aI (au ?_)
 exact bP (decide ((a.op : Int) = 4)) ⟨h.cn _, hs⟩
 refine aB (aa (bD rfl rfl) (aa (ae (v := (.bool (decide ((a.op : Int) = 6)))) rfl) (ay (au ?_))))
 exact bP (decide ((a.op : Int) = 6)) ⟨h.cn _, hs⟩
def fV (a : List bQ) (zL : bQ) (i35 : Int) (sZ : Ins) (s : Unit) (NB : Unit → Option Int) : Option Int :=
  (gY sZ i35 a zL.regs (zL.code.length : Int)).bind fun El => bif decide ((El : Int) ≠ 0) then some El else NB ()
def oC (zL : bQ) (l7 : Unit → Option Int) (s : Unit) : Option Int :=
  gJ (jI ((zL.code.length : Int) - 1)) ((idx zL.code ((zL.code.length : Int) - 1)).bind fun x54 => bif (decide ((x54.op : Int) ≠ 8) && decide ((x54.op : Int) ≠ 12)) then some 4 else l7 ())
def ku (a : List bQ) (zL : bQ) (s : Unit) (l7 : Unit → Option Int) : Option Int :=
  fq (fV a zL) (oC zL l7) 0 zL.code ()
def oD (s : Unit) : Option Int :=
  some 0
def iX (i3 : Int) (x4 : bQ) (s : Unit) (I4 : Unit → Option Int) : Option Int :=
  bif (((((decide ((x4.params : Int) < 0) || decide ((3 : Int) < x4.params)) || decide ((x4.regs : Int) < 1)) || decide ((x4.regs : Int) < x4.params)) || decide ((40 : Int) < x4.regs)) || (decide ((i3 : Int) = 0) && decide ((0 : Int) < x4.params))) then some 3 else bif (decide (((x4.code.length : Int) : Int) = 0) || decide ((2000 : Int) < (x4.code.length : Int))) then some 2 else I4 ()
def mf (a : List bQ) (s : Unit) : Option Int :=
  each (ku a) oD a ()
def qP (a : List bQ) : Option Int :=
  bif (decide (((a.length : Int) : Int) = 0) || decide ((4 : Int) < (a.length : Int))) then some 2 else fq iX (mf a) 0 a ()
theorem FV (w0 : World) (M : BS) (hM : ∀ b, M b → b < w0.heap.size) (va : Value) (a : List bQ) (ha : fP jR w0 BE M va a) (r : Int) (hs : qP a = some r) :
    Calls Tryz.prog 63 #[va] w0 (fun e w' => Grow w0 w' ∧ e = .returned (.int .i64 r)) := by
 refine aL (args := [va]) Tryz.func63 rfl Tryz.ntmps63 (bC rfl) ?_
 have h := SH.init hM
 replace h := h.fG 1 ha bE
 have vE := ha.bW
 refine nG (aa (ae (v := (I6 0)) rfl) (nK (aa (ah (v := va) rfl) (aa (bT jW rfl (h.iM 1 rfl)) (aa (bD rfl rfl) (aa (ah (v := (.bool (decide (((a.length : Int) : Int) = 0)))) rfl) (aC rfl rfl (fun q => ah (v := va) rfl) (aC rfl rfl (fun q => bT jW (dE q) (h.iM 1 rfl)) (aC rfl rfl (fun q => j5 (dE q) rfl) (aa (iy rfl rfl nQ) (nN (aH hs rfl (fun c1 hs => ?_) (fun c1 hs => ?_)))))))))))))
 refine nG (aa (ae (v := (I6 2)) rfl) (nR (az (bR (v := (I6 2)) Tryz.results63 rfl ?_))))
 obtain rfl := fI hs
 exact ⟨h.grown, rfl⟩
 refine aI (ak (aO (nG (aa (ah (v := va) rfl) (aa (bT jW rfl (h.iM 1 rfl)) (aa (ah (v := (I6 0)) rfl) (nN (aP (fT (σ := Nat × Int) (inl ([2, 3, 4] ++ rg 21 50)) (fun ⟨k2, i3⟩ => [(21, (I6 i3))]) (fun ⟨k2, i3⟩ w => SH w0 M BE w (hset [(1, .sr jR va a)]) ∧ i3 = (k2 : Int) ∧ fq iX (mf a) i3 (a.drop k2) () = some r) (fun ⟨k2, i3⟩ => a.length - k2) ⟨0, 0⟩ ⟨rfl, trivial⟩ ?_ ?_)))))))))
 exact ⟨h.cn _, rfl, hs⟩
 rintro ⟨k2, i3⟩ w dz ⟨h, hik, hs⟩
 refine nG ?_
 refine aa (dL rfl rfl) (nN ?_)
 refine aO (iw rfl (fun e7 => ?_) (fun e7 => ?_))
 refine aI (ak ?_)
 obtain ⟨x4, e8a, e8b⟩ := gK (hik ▸ e7)
 rw [e8b, ja] at hs
 generalize JG : fq iX (mf a) (i3 + 1) (a.drop (k2 + 1)) = I4 at hs
 have Wo := gN ((h.iM 1 rfl)).bW hik e7
 refine aO (aP (nG (aa (ah (v := (I6 i3)) rfl) ?_)))
 obtain ⟨b10, o11, cs12, h, r13, i9⟩ := h.Br 1 2 rfl jW rfl (jb hik) (gM hik e8a)
 obtain ⟨LC, rfl, g15⟩ := pg r13
 replace h := h.bM 3 g15.up
 refine aa (i9 _ _ _ _ _ _ _ _ _ rfl rfl) (aa (jm (k := 0) (vs := [(I6 x4.params), (I6 x4.regs), LC]) h 2 rfl xy rfl rfl rfl (bC rfl)) (bO h 4 xy fun w b16 h => aa (ae (v := (I6 i3)) rfl) (dn (vs := [(I6 x4.params), (I6 x4.regs), LC]) h 4 [(I6 x4.params), (I6 x4.regs), LC] rfl xy rfl rfl rfl rfl rfl (ai rfl (ai rfl (ai (h.fM 3 rfl).one aT))) fun w h => nK (aa (ag FJ rfl) (aa (aA h 4 rfl aU rfl rfl) (aa (dL rfl rfl) (aa (ah (v := (.bool (decide ((x4.params : Int) < 0)))) rfl) (aC rfl rfl (fun q => ag FJ rfl) (aC rfl rfl (fun q => aA h 4 rfl aU (dE q) rfl) (aC rfl rfl (fun q => j5 (dE q) rfl) (aa (iy rfl rfl nQ) (aa (ah (v := (.bool ((decide ((x4.params : Int) < 0) || decide ((3 : Int) < x4.params))))) rfl) (aC rfl rfl (fun q => ag BG rfl) (aC rfl rfl (fun q => aA h 4 rfl aU (dE q) rfl) (aC rfl rfl (fun q => dL (dE q) rfl) (aa (iy rfl rfl nQ) (aa (ah (v := (.bool (((decide ((x4.params : Int) < 0) || decide ((3 : Int) < x4.params)) || decide ((x4.regs : Int) < 1))))) rfl) ?_)))))))))))))))))
 refine aC rfl rfl (fun q => ag BG rfl) (aC rfl rfl (fun q => aA h 4 rfl aU (dE q) rfl) (aC rfl rfl (fun q => ag FJ rfl) (aC rfl rfl (fun q => aA h 4 rfl aU (dE q) rfl) (aC rfl rfl (fun q => dL (dE q) (dE q)) (aa (iy rfl rfl nQ) (aa (ah (v := (.bool ((((decide ((x4.params : Int) < 0) || decide ((3 : Int) < x4.params)) || decide ((x4.regs : Int) < 1)) || decide ((x4.regs : Int) < x4.params))))) rfl) (aC rfl rfl (fun q => ag BG rfl) (aC rfl rfl (fun q => aA h 4 rfl aU (dE q) rfl) (aC rfl rfl (fun q => j5 (dE q) rfl) (aa (iy rfl rfl nQ) (aa (ah (v := (.bool (((((decide ((x4.params : Int) < 0) || decide ((3 : Int) < x4.params)) || decide ((x4.regs : Int) < 1)) || decide ((x4.regs : Int) < x4.params)) || decide ((40 : Int) < x4.regs))))) rfl) (aC rfl rfl (fun q => ah (v := (I6 i3)) rfl) (aC rfl rfl (fun q => bD (dE q) rfl) (aC rfl rfl (fun q => ah (v := (.bool (decide ((i3 : Int) = 0)))) (dE q)) (nu (((((decide ((x4.params : Int) < 0) || decide ((3 : Int) < x4.params)) || decide ((x4.regs : Int) < 1)) || decide ((x4.regs : Int) < x4.params)) || decide ((40 : Int) < x4.regs)) == false) rfl rfl (fun q => ag FJ rfl) (nu (((((decide ((x4.params : Int) < 0) || decide ((3 : Int) < x4.params)) || decide ((x4.regs : Int) < 1)) || decide ((x4.regs : Int) < x4.params)) || decide ((40 : Int) < x4.regs)) == false) rfl rfl (fun q => aA h 4 rfl aU (dE q) rfl) (nu (((((decide ((x4.params : Int) < 0) || decide ((3 : Int) < x4.params)) || decide ((x4.regs : Int) < 1)) || decide ((x4.regs : Int) < x4.params)) || decide ((40 : Int) < x4.regs)) == false) rfl rfl (fun q => j5 (dE q) rfl) (aC rfl rfl (fun q => gP (dE q) (Vg q) nQ) (aa (iy rfl rfl nQ) (nN (aH hs rfl (fun c17 hs => ?_) (fun c17 hs => ?_))))))))))))))))))))))
 refine nG (aa (ae (v := (I6 3)) rfl) (nR (az (aF (az (az (aF (az (bR (v := (I6 3)) Tryz.results63 rfl ?_)))))))))
 obtain rfl := fI hs
 exact ⟨h.grown, rfl⟩
 refine nS (aa (ag sQ rfl) (aa (aA h 4 rfl Cj rfl rfl) (aa (bT jF rfl (h.mM 3 rfl)) (aa (bD rfl rfl) (aa (ah (v := (.bool (decide (((x4.code.length : Int) : Int) = 0)))) rfl) (aC rfl rfl (fun q => ag sQ rfl) (aC rfl rfl (fun q => aA h 4 rfl Cj (dE q) rfl) (aC rfl rfl (fun q => bT jF (dE q) (h.mM 3 rfl)) (aC rfl rfl (fun q => j5 (dE q) rfl) (aa (iy rfl rfl nQ) (nN (aH hs rfl (fun c18 hs => ?_) (fun c18 hs => ?_)))))))))))))
 refine nG (aa (ae (v := (I6 2)) rfl) (nR (aF (az (az (aF (az (bR (v := (I6 2)) Tryz.results63 rfl ?_))))))))
 obtain rfl := fI hs
 exact ⟨h.grown, rfl⟩
 refine aI (ax (ak (aB (aa (dm rfl rfl Wo) (aa (ah (v := (I6 ((i3 + 1)))) rfl) (ay (au ?_)))))))
 subst JG
 exact jQ ⟨k2 + 1, i3 + 1⟩ ⟨h.cn _, by omega, hs⟩ (by have := qE e7; dsimp only; omega)
 rw [gL (hik ▸ e7), nZ] at hs
 refine iT (bK (bK (dU (ak (aO (nG (aa (ah (v := va) rfl) (aa (bT jW rfl (h.iM 1 rfl)) (aa (ah (v := (I6 0)) rfl) (nN (aP (fT (σ := Nat × Int) (inl ([2, 6, 7, 8, 9, 10] ++ rg 73 41)) (fun ⟨k19, i20⟩ => [(73, (I6 i20))]) (fun ⟨k19, i20⟩ w => SH w0 M BE w (hset [(1, .sr jR va a)]) ∧ i20 = (k19 : Int) ∧ each (ku a) oD (a.drop k19) () = some r) (fun ⟨k19, i20⟩ => a.length - k19) ⟨0, 0⟩ ⟨rfl, trivial⟩ ?_ ?_))))))))))))
 exact ⟨h.cn _, rfl, hs⟩
 rintro ⟨k19, i20⟩ w dz ⟨h, hik, hs⟩
 refine nG ?_
 refine aa (dL rfl rfl) (nN ?_)
 refine aO (iw rfl (fun e24 => ?_) (fun e24 => ?_))
 refine aI (ak ?_)
 obtain ⟨zL, e25a, e25b⟩ := gK (hik ▸ e24)
 rw [e25b, dO] at hs
 generalize WV : each (ku a) oD (a.drop (k19 + 1)) = l7 at hs
 have e25r := gN ((h.iM 1 rfl)).bW hik e24
 refine aO (aP (nG ?_))
 obtain ⟨b27, o28, cs29, h, r30, i26⟩ := h.Br 1 5 rfl jW rfl (jb hik) (gM hik e25a)
 obtain ⟨u31, rfl, g32⟩ := pg r30
 replace h := h.bM 6 g32.up
 refine aa (i26 _ _ _ _ _ _ _ _ _ rfl rfl) (aa (jm (k := 0) (vs := [(I6 zL.params), (I6 zL.regs), u31]) h 5 rfl xy rfl rfl rfl (bC rfl)) (bO h 7 xy fun w b33 h => dn (vs := [(I6 zL.params), (I6 zL.regs), u31]) h 7 [(I6 zL.params), (I6 zL.regs), u31] rfl xy rfl rfl rfl rfl rfl (ai rfl (ai rfl (ai (h.fM 6 rfl).one aT))) fun w h => nK (aa (ag sQ rfl) (aa (aA h 7 rfl Cj rfl rfl) (aa (bT jF rfl (h.mM 6 rfl)) (aa (ah (v := (I6 0)) rfl) (nN (aP (fT (σ := Nat × Int) (inl ([2, 7, 8, 9] ++ rg 80 18)) (fun ⟨O0, i35⟩ => [(80, (I6 i35))]) (fun ⟨O0, i35⟩ w => SH w0 M BE w (hset [(1, .sr jR va a), (6, .rd jK u31 zL.code), (7, .blk b33 [(I6 zL.params), (I6 zL.regs), u31])]) ∧ i35 = (O0 : Int) ∧ fq (fV a zL) (oC zL l7) i35 (zL.code.drop O0) () = some r) (fun ⟨O0, i35⟩ => zL.code.length - O0) ⟨0, 0⟩ ⟨rfl, trivial⟩ ?_ ?_)))))))))
 exact ⟨h.cn _, rfl, hs⟩
 rintro ⟨O0, i35⟩ w dz ⟨h, hik, hs⟩
 refine nG ?_
 refine aa (dL rfl rfl) (nN ?_)
 refine aO (iw rfl (fun e39 => ?_) (fun e39 => ?_))
 refine aI (ak ?_)
 obtain ⟨sZ, Xe, Xf⟩ := gK (hik ▸ e39)
 rw [Xf, ja] at hs
 generalize Xg : fq (fV a zL) (oC zL l7) (i35 + 1) (zL.code.drop (O0 + 1)) = NB at hs
 have e40r := gN ((h.mM 6 rfl)).bW hik e39
 refine aO (aP (nG (aa (ah (v := (I6 i35)) rfl) ?_)))
 obtain ⟨b42, o43, cs44, h, r45, i41⟩ := h.Fw 6 8 rfl jF rfl (jb hik) (gM hik Xe)
 obtain ⟨u46, rfl, g47⟩ := Dy r45
 replace h := h.bM 9 g47.up
 refine aa (i41 _ _ _ _ _ _ _ _ _ rfl rfl) (aa (jm (k := 0) (vs := [(I6 sZ.op), (I6 sZ.a), (I6 sZ.b), (I6 sZ.c), u46]) h 8 rfl qI rfl rfl rfl (bC rfl)) (bO h 10 qI fun w b48 h => aa (ae (v := (I6 i35)) rfl) (dn (vs := [(I6 sZ.op), (I6 sZ.a), (I6 sZ.b), (I6 sZ.c), u46]) h 10 [(I6 sZ.op), (I6 sZ.a), (I6 sZ.b), (I6 sZ.c), u46] rfl qI rfl rfl rfl rfl rfl (ai rfl (ai rfl (ai rfl (ai rfl (ai (h.fM 9 rfl).one aT))))) fun w h => nJ (aa (dh (vs := [(I6 sZ.op), (I6 sZ.a), (I6 sZ.b), (I6 sZ.c), u46]) h 10 rfl qI rfl rfl rfl) (aa (ah (v := (I6 i35)) rfl) (aa (ah (v := va) rfl) (aa (ag BG rfl) (aa (aA h 7 rfl aU rfl rfl) (aa (ag sQ rfl) (aa (aA h 7 rfl Cj rfl rfl) (aa (bT jF rfl (h.mM 6 rfl)) ?_)))))))))))
 obtain ⟨El, e50, hs⟩ := aJ hs
 refine aR fnOk86 rfl rfl (NA _ _ h.lt sZ u46 (h.mM 9 rfl) i35 va a (h.iM 1 rfl) zL.regs (zL.code.length : Int) _ e50) ?_
 rintro _ w ⟨k51, rfl⟩
 refine ⟨_, rfl, ?_⟩
 replace h := h.grow k51
 refine aa (ae (v := (I6 El)) rfl) (nJ (aa (ah (v := (I6 El)) rfl) (aa (iP rfl rfl) (nN (aH hs rfl (fun Ew hs => ?_) (fun Ew hs => ?_))))))
 refine nG (aa (ah (v := (I6 El)) rfl) (aa (ae (v := (I6 El)) rfl) (nR (aF (az (az (aF (az (aF (az (az (aF (az (bR (v := (I6 El)) Tryz.results63 rfl ?_))))))))))))))
 obtain rfl := fI hs
 exact ⟨h.grown, rfl⟩
 refine aI (ax (ak (aB (aa (dm rfl rfl e40r) (aa (ah (v := (I6 ((i35 + 1)))) rfl) (ay (au ?_)))))))
 subst Xg
 exact jQ ⟨O0 + 1, i35 + 1⟩ ⟨h.cn _, by omega, hs⟩ (by have := qE e39; dsimp only; omega)
 rw [gL (hik ▸ e39), nZ] at hs
 refine nE (aa (ag sQ rfl) (aa (aA h 7 rfl Cj rfl rfl) (aa (ag sQ rfl) (aa (aA h 7 rfl Cj rfl rfl) (aa (bT jF rfl (h.mM 6 rfl)) ?_)))))
 obtain ⟨a53, hs⟩ := bu hs
 refine aa (oO rfl rfl a53) ?_
 obtain ⟨x54, e55, hs⟩ := aJ hs
 obtain ⟨b57, o58, cs59, h, r60, i56⟩ := h.Fw 6 11 rfl jF rfl (aG e55).1 (aG e55).2
 obtain ⟨u61, rfl, g62⟩ := Dy r60
 replace h := h.bM 12 g62.up
 refine aa (i56 _ _ _ _ _ _ _ _ _ rfl rfl) (aa (ag qB rfl) (aa (eU (k := 0) h 11 rfl aU rfl rfl) (aa (ae (v := (I6 x54.op)) rfl) (nJ (aa (ah (v := (I6 x54.op)) rfl) (aa (iP rfl rfl) (aa (ah (v := (.bool (decide ((x54.op : Int) ≠ 8)))) rfl) (aC rfl rfl (fun q => ah (v := (I6 x54.op)) rfl) (aC rfl rfl (fun q => iP (dE q) rfl) (aa (gP rfl rfl nQ) (nN (aH hs rfl (fun c63 hs => ?_) (fun c63 hs => ?_)))))))))))))
 refine nG (aa (ae (v := (I6 4)) rfl) (nR (aF (az (az (aF (az (bR (v := (I6 4)) Tryz.results63 rfl ?_))))))))
 obtain rfl := fI hs
 exact ⟨h.grown, rfl⟩
 refine aI (ax (ak (aB (aa (dm rfl rfl e25r) (aa (ah (v := (I6 ((i20 + 1)))) rfl) (ay (au ?_)))))))
 subst WV
 exact jQ ⟨k19 + 1, i20 + 1⟩ ⟨h.cn _, by omega, hs⟩ (by have := qE e24; dsimp only; omega)
 rw [gL (hik ▸ e24), gT] at hs
 refine nE (aa (ae (v := (I6 0)) rfl) (nR (bR (v := (I6 0)) Tryz.results63 rfl ?_)))
 obtain rfl := fI hs
 exact ⟨h.grown, rfl⟩
def Xh (a : List bQ) : Option (LX.State × Int) :=
  (qP a).bind fun y2 => bif decide ((y2 : Int) ≠ 0) then some ((⟨[], [], 0, 0⟩ : LX.State), y2) else (idx a 0).bind fun x6 => gJ (0 ≤ x6.regs ∧ x6.regs * 16 ≤ 140737488355328) (some ((⟨[(⟨0, 0, (List.replicate x6.regs.toNat (⟨0, 0⟩ : Val)), 0⟩ : LX.Frame)], [], 0, 0⟩ : LX.State), 0))
theorem Xi (w0 : World) (M : BS) (hM : ∀ b, M b → b < w0.heap.size) (va : Value) (a : List bQ) (ha : fP jR w0 BE M va a) (r : LX.State × Int) (hs : Xh a = some r) :
    Calls Tryz.prog 29 #[va] w0 (fun e w' => Grow w0 w' ∧ ∃ yD, ∃ Cs, e = .returned (.tuple #[.agg #[yD, Cs, .int .i64 r.1.status, .int .i64 r.1.aQ], .int .i64 r.2]) ∧ eX eu w' M yD r.1.frames ∧ eX (oV bJ) w' M Cs r.1.cells) := by
 refine aL (args := [va]) Tryz.func29 rfl Tryz.ntmps29 (bC rfl) ?_
 have h := SH.init hM
 replace h := h.fG 1 ha bE
 have vE := ha.bW
 refine nG (bO h 2 bV fun w b1 h => aa (ae (v := (I6 0)) rfl) (nK (aa (ah (v := va) rfl) ?_)))
 obtain ⟨y2, e3, hs⟩ := aJ hs
 refine aR V7 rfl rfl (FV _ _ h.lt va a (h.iM 1 rfl) _ e3) ?_
 rintro _ w ⟨k4, rfl⟩
 refine ⟨_, rfl, ?_⟩
 replace h := h.grow k4
 refine aa (ae (v := (I6 y2)) rfl) (nJ (aa (ah (v := (I6 y2)) rfl) (aa (iP rfl rfl) (nN (aH hs rfl (fun c5 hs => ?_) (fun c5 hs => ?_))))))
 refine nG (aa (dH (pv := []) (out := [(.slice none 0 0), (.slice none 0 0), (I6 0), (I6 0)]) r9 rfl rfl) (aa (ah (v := (I6 y2)) rfl) (dn (vs := [(.slice none 0 0), (.slice none 0 0), (I6 0), (I6 0)]) h 2 [(.slice none 0 0), (.slice none 0 0), (I6 0), (I6 0)] rfl bV rfl rfl rfl rfl rfl (ai rfl (ai rfl (ai rfl (ai rfl aT)))) fun w h => aa (ae (v := (I6 y2)) rfl) (nR (az (jV (vs := [(.slice none 0 0), (.slice none 0 0), (I6 0), (I6 0)]) (v2 := (I6 y2)) Tryz.results29 rfl rfl h 2 rfl bV rfl ?_))))))
 obtain rfl := fI hs
 exact ⟨h.grown, _, _, rfl, fP.nil, fP.nil⟩
 refine nS (aa (ah (v := va) rfl) ?_)
 obtain ⟨x6, e7, hs⟩ := aJ hs
 obtain ⟨b9, o10, cs11, h, r12, i8⟩ := h.Br 1 3 rfl jW rfl (aG e7).1 (aG e7).2
 obtain ⟨Qa, rfl, g14⟩ := pg r12
 replace h := h.bM 4 g14.up
 refine aa (i8 _ _ _ _ _ _ _ _ _ rfl rfl) (aa (ag BG rfl) (aa (eU (k := 1) h 3 rfl aU rfl rfl) ?_))
 obtain ⟨a16, hs⟩ := bu hs
 refine Aa (R := bJ) (zs := [(I6 0), (I6 0)]) (a := (⟨0, 0⟩ : Val)) h 5 rZ bS rfl (by decide) rfl rfl a16 rfl (fun _ _ => rfl) fun w Fh h u15k u15f => aa (dH (pv := [(2, Fh)]) (out := [(I6 0), (I6 0), Fh, (I6 0)]) FM rfl ⟨2, 1, [Fh], rfl, (iW (h.dC 5 rfl).one), rfl, bC rfl, rfl⟩) ?_
 replace h := h.freeze 5 rfl
 refine sV (R := eu) (vs := [(.agg #[(I6 0), (I6 0), Fh, (I6 0)])]) (xs := [(⟨0, 0, (List.replicate x6.regs.toNat (⟨0, 0⟩ : Val)), 0⟩ : LX.Frame)]) h 6 oq rfl rfl rfl ⟨⟨_, rfl, (h.fM 5 rfl)⟩, trivial⟩ rfl fun w Bi h => aa (dH (pv := [(0, Bi)]) (out := [Bi, (.slice none 0 0), (I6 0), (I6 0)]) r9 rfl ⟨0, 1, [Bi], rfl, (iW (h.dC 6 rfl).one), rfl, bC rfl, rfl⟩) (dn (vs := [Bi, (.slice none 0 0), (I6 0), (I6 0)]) h 2 [Bi, (.slice none 0 0), (I6 0), (I6 0)] rfl bV rfl rfl rfl rfl rfl (ai (h.dC 6 rfl).one (ai rfl (ai rfl (ai rfl aT)))) fun w h => aa (ae (v := (I6 0)) rfl) (nR (jV (vs := [Bi, (.slice none 0 0), (I6 0), (I6 0)]) (v2 := (I6 0)) Tryz.results29 rfl rfl h 2 rfl bV rfl ?_)))
 replace h := h.freeze 6 rfl
 obtain rfl := fI hs
 exact ⟨h.grown, _, _, rfl, h.Vx 6 rfl, fP.nil⟩
def cz (a : Val) (b : Int) : Int :=
  bif decide ((a.kind : Int) = 0) then bif decide ((a.n : Int) ≠ 0) then 4 else 0 else bif decide ((a.kind : Int) = 1) then bif (decide ((a.n : Int) < -1000000000) || decide ((1000000000 : Int) < a.n)) then 3 else 0 else bif decide ((a.kind : Int) = 2) then bif (decide ((a.n : Int) < 0) || decide ((b : Int) ≤ a.n)) then 5 else 0 else 4
theorem BQ (w0 : World) (M : BS) (hM : ∀ b, M b → b < w0.heap.size) (a : Val) (b : Int) (r : Int) (hs : cz a b = r) :
    Calls Tryz.prog 81 #[(.agg #[(I6 a.kind), (I6 a.n)]), (I6 b)] w0 (fun e w' => Grow w0 w' ∧ e = .returned (.int .i64 r)) := by
 refine aL (args := [(.agg #[(I6 a.kind), (I6 a.n)]), (I6 b)]) Tryz.func81 rfl Tryz.ntmps81 (bC rfl) ?_
 have h := SH.init hM
 refine nG (oP (cs := [(I6 a.kind), (I6 a.n)]) h 1 rfl rfl fun w b1 h => aa (ae (v := (I6 0)) rfl) (nK (aa (ag sP rfl) (aa (aA h 1 rfl aU rfl rfl) (nN (aP (nG (aa (bD rfl rfl) (aa (ae (v := (.bool (decide ((a.kind : Int) = 0)))) rfl) (nN (aH hs rfl (fun c2 hs => ?_) (fun c2 hs => ?_))))))))))))
 refine nG (aa (ag iq rfl) (aa (aA h 1 rfl aU rfl rfl) (aa (iP rfl rfl) (nN (aH hs rfl (fun c3 hs => ?_) (fun c3 hs => ?_))))))
 refine nG (aa (ae (v := (I6 4)) rfl) (nR (aF (az (bR (v := (I6 4)) Tryz.results81 rfl ?_)))))
 obtain rfl := hs
 exact ⟨h.grown, rfl⟩
 refine aI (ax (ak (nG (aa (ae (v := (I6 0)) rfl) (nR (bR (v := (I6 0)) Tryz.results81 rfl ?_))))))
 obtain rfl := hs
 exact ⟨h.grown, rfl⟩
 refine nG (aa (bD rfl rfl) (aa (ae (v := (.bool (decide ((a.kind : Int) = 1)))) rfl) (nN (aH hs rfl (fun c4 hs => ?_) (fun c4 hs => ?_)))))
 refine nG (aa (ag iq rfl) (aa (aA h 1 rfl aU rfl rfl) (aa (dL rfl rfl) (aa (ah (v := (.bool (decide ((a.n : Int) < -1000000000)))) rfl) (aC rfl rfl (fun q => ag iq rfl) (aC rfl rfl (fun q => aA h 1 rfl aU (dE q) rfl) (aC rfl rfl (fun q => j5 (dE q) rfl) (aa (iy rfl rfl nQ) (nN (aH hs rfl (fun c5 hs => ?_) (fun c5 hs => ?_)))))))))))
 refine nG (aa (ae (v := (I6 3)) rfl) (nR (aF (az (bR (v := (I6 3)) Tryz.results81 rfl ?_)))))
 obtain rfl := hs
 exact ⟨h.grown, rfl⟩
 refine aI (ax (ak (nG (aa (ae (v := (I6 0)) rfl) (nR (bR (v := (I6 0)) Tryz.results81 rfl ?_))))))
 obtain rfl := hs
 exact ⟨h.grown, rfl⟩
 refine nG (aa (bD rfl rfl) (aa (ae (v := (.bool (decide ((a.kind : Int) = 2)))) rfl) (nN (aH hs rfl (fun c6 hs => ?_) (fun c6 hs => ?_)))))
 refine nG (aa (ag iq rfl) (aa (aA h 1 rfl aU rfl rfl) (aa (dL rfl rfl) (aa (ah (v := (.bool (decide ((a.n : Int) < 0)))) rfl) (aC rfl rfl (fun q => ag iq rfl) (aC rfl rfl (fun q => aA h 1 rfl aU (dE q) rfl) (aC rfl rfl (fun q => ah (v := (I6 b)) rfl) (aC rfl rfl (fun q => qy (dE q) (dE q)) (aa (iy rfl rfl nQ) (nN (aH hs rfl (fun c7 hs => ?_) (fun c7 hs => ?_))))))))))))
 refine nG (aa (ae (v := (I6 5)) rfl) (nR (aF (az (bR (v := (I6 5)) Tryz.results81 rfl ?_)))))
 obtain rfl := hs
 exact ⟨h.grown, rfl⟩
 refine aI (ax (ak (nG (aa (ae (v := (I6 0)) rfl) (nR (bR (v := (I6 0)) Tryz.results81 rfl ?_))))))
 obtain rfl := hs
 exact ⟨h.grown, rfl⟩
 refine nG (aa (ae (v := (I6 4)) rfl) (nR (aF (az (bR (v := (I6 4)) Tryz.results81 rfl ?_)))))
 obtain rfl := hs
 exact ⟨h.grown, rfl⟩
def ic (a : List (List Val)) (BR : Val) (s : Unit) (Wm : Unit → Int) : Int :=
  bif decide (((cz BR (a.length : Int)) : Int) ≠ 0) then (cz BR (a.length : Int)) else Wm ()
def gB (I4 : Unit → Int) (s : Unit) : Int :=
  I4 ()
def iV (a : List (List Val)) (x4 : List Val) (s : Unit) (I4 : Unit → Int) : Int :=
  bif (decide (((x4.length : Int) : Int) = 0) || decide ((4 : Int) < (x4.length : Int))) then 2 else each (ic a) (gB I4) x4 ()
def ig (s : Unit) : Int :=
  0
def dK (a : List (List Val)) : Int :=
  bif decide ((24 : Int) < (a.length : Int)) then 2 else each (iV a) ig a ()
theorem Cm (w0 : World) (M : BS) (hM : ∀ b, M b → b < w0.heap.size) (va : Value) (a : List (List Val)) (ha : fP (oV bJ) w0 BE M va a) (r : Int) (hs : dK a = r) :
    Calls Tryz.prog 80 #[va] w0 (fun e w' => Grow w0 w' ∧ e = .returned (.int .i64 r)) := by
 refine aL (args := [va]) Tryz.func80 rfl Tryz.ntmps80 (bC rfl) ?_
 have h := SH.init hM
 replace h := h.fG 1 ha bE
 have vE := ha.bW
 refine nG (aa (ae (v := (I6 0)) rfl) (nK (aa (ah (v := va) rfl) (aa (bT eB rfl (h.iM 1 rfl)) (aa (j5 rfl rfl) (nN (aH hs rfl (fun c1 hs => ?_) (fun c1 hs => ?_))))))))
 refine nG (aa (ae (v := (I6 2)) rfl) (nR (az (bR (v := (I6 2)) Tryz.results80 rfl ?_))))
 obtain rfl := hs
 exact ⟨h.grown, rfl⟩
 refine aI (ak (aO (nG (aa (ah (v := va) rfl) (aa (bT eB rfl (h.iM 1 rfl)) (aa (ah (v := (I6 0)) rfl) (nN (aP (fT (σ := Nat × Int) (inl ([2, 4, 6, 7] ++ rg 13 27)) (fun ⟨k2, i3⟩ => [(13, (I6 i3))]) (fun ⟨k2, i3⟩ w => SH w0 M BE w (hset [(1, .sr (oV bJ) va a)]) ∧ i3 = (k2 : Int) ∧ each (iV a) ig (a.drop k2) () = r) (fun ⟨k2, i3⟩ => a.length - k2) ⟨0, 0⟩ ⟨rfl, trivial⟩ ?_ ?_)))))))))
 exact ⟨h.cn _, rfl, hs⟩
 rintro ⟨k2, i3⟩ w dz ⟨h, hik, hs⟩
 refine nG ?_
 refine aa (dL rfl rfl) (nN ?_)
 refine aO (iw rfl (fun e7 => ?_) (fun e7 => ?_))
 refine aI (ak ?_)
 obtain ⟨x4, e8a, e8b⟩ := gK (hik ▸ e7)
 rw [e8b, dO] at hs
 generalize JG : each (iV a) ig (a.drop (k2 + 1)) = I4 at hs
 have Wo := gN ((h.iM 1 rfl)).bW hik e7
 refine aO (aP (nG ?_))
 obtain ⟨b10, o11, cs12, h, r13, i9⟩ := h.Br 1 2 rfl eB rfl (jb hik) (gM hik e8a)
 obtain ⟨LC, rfl, g15⟩ := r13
 replace h := h.bM 3 g15.up
 refine aa (i9 _ _ _ _ _ _ _ _ _ rfl rfl) (aa (eU (k := 0) h 2 rfl lC rfl rfl) (aa (ae (v := LC) rfl) (nK (aa (ah (v := LC) rfl) (aa (bT bH rfl (h.mM 3 rfl)) (aa (bD rfl rfl) (aa (ah (v := (.bool (decide (((x4.length : Int) : Int) = 0)))) rfl) (aC rfl rfl (fun q => ah (v := LC) rfl) (aC rfl rfl (fun q => bT bH (dE q) (h.mM 3 rfl)) (aC rfl rfl (fun q => j5 (dE q) rfl) (aa (iy rfl rfl nQ) (nN (aH hs rfl (fun c16 hs => ?_) (fun c16 hs => ?_))))))))))))))
 refine nG (aa (ae (v := (I6 2)) rfl) (nR (az (aF (az (az (aF (az (bR (v := (I6 2)) Tryz.results80 rfl ?_)))))))))
 obtain rfl := hs
 exact ⟨h.grown, rfl⟩
 refine nS (aa (ah (v := LC) rfl) (aa (bT bH rfl (h.mM 3 rfl)) (aa (ah (v := (I6 0)) rfl) (nN (aP (fT (σ := Nat × Int) (inl ([2, 6, 7] ++ rg 27 12)) (fun ⟨k17, i18⟩ => [(27, (I6 i18))]) (fun ⟨k17, i18⟩ w => SH w0 M BE w (hset [(1, .sr (oV bJ) va a), (3, .rd bJ LC x4)]) ∧ i18 = (k17 : Int) ∧ each (ic a) (gB I4) (x4.drop k17) () = r) (fun ⟨k17, i18⟩ => x4.length - k17) ⟨0, 0⟩ ⟨rfl, trivial⟩ ?_ ?_))))))
 exact ⟨h.cn _, rfl, hs⟩
 rintro ⟨k17, i18⟩ w dz ⟨h, hik, hs⟩
 refine nG ?_
 refine aa (dL rfl rfl) (nN ?_)
 refine aO (iw rfl (fun e22 => ?_) (fun e22 => ?_))
 refine aI (ak ?_)
 obtain ⟨BR, e23a, e23b⟩ := gK (hik ▸ e22)
 rw [e23b, dO] at hs
 generalize Wn : each (ic a) (gB I4) (x4.drop (k17 + 1)) = Wm at hs
 have e23r := gN ((h.mM 3 rfl)).bW hik e22
 refine aO (aP (nG ?_))
 obtain ⟨b25, o26, cs27, h, r28, i24⟩ := h.Fw 3 4 rfl bH rfl (jb hik) (gM hik e23a)
 obtain rfl := r28
 refine aa (i24 _ _ _ _ _ _ _ _ _ rfl rfl) (aa (jm (k := 0) (vs := [(I6 BR.kind), (I6 BR.n)]) h 4 rfl bS rfl rfl rfl (bC rfl)) (bO h 5 bS fun w b29 h => dn (vs := [(I6 BR.kind), (I6 BR.n)]) h 5 [(I6 BR.kind), (I6 BR.n)] rfl bS rfl rfl rfl rfl rfl (ai rfl (ai rfl aT)) fun w h => nJ (aa (dh (vs := [(I6 BR.kind), (I6 BR.n)]) h 5 rfl bS rfl rfl rfl) (aa (ah (v := va) rfl) (aa (bT eB rfl (h.iM 1 rfl)) (aR Qp rfl rfl (BQ _ _ h.lt BR (a.length : Int) _ rfl) ?_))))))
 rintro _ w ⟨k30, rfl⟩
 refine ⟨_, rfl, ?_⟩
 replace h := h.grow k30
 refine aa (ae (v := (I6 ((cz BR (a.length : Int))))) rfl) (nJ (aa (ah (v := (I6 ((cz BR (a.length : Int))))) rfl) (aa (iP rfl rfl) (nN (aH hs rfl (fun c31 hs => ?_) (fun c31 hs => ?_))))))
 refine nG (aa (ah (v := (I6 ((cz BR (a.length : Int))))) rfl) (aa (ae (v := (I6 ((cz BR (a.length : Int))))) rfl) (nR (aF (az (az (aF (aF (az (az (aF (az (bR (v := (I6 ((cz BR (a.length : Int))))) Tryz.results80 rfl ?_)))))))))))))
 obtain rfl := hs
 exact ⟨h.grown, rfl⟩
 refine aI (ax (ak (aB (aa (dm rfl rfl e23r) (aa (ah (v := (I6 ((i18 + 1)))) rfl) (ay (au ?_)))))))
 subst Wn
 exact jQ ⟨k17 + 1, i18 + 1⟩ ⟨h.cn _, by omega, hs⟩ (by have := qE e22; dsimp only; omega)
 rw [gL (hik ▸ e22), gT] at hs
 refine iT (bK (bK (dU (ax (ak (aB (aa (dm rfl rfl Wo) (aa (ah (v := (I6 ((i3 + 1)))) rfl) (ay (au ?_))))))))))
 subst JG
 exact jQ ⟨k2 + 1, i3 + 1⟩ ⟨h.cn _, by omega, hs⟩ (by have := qE e7; dsimp only; omega)
 rw [gL (hik ▸ e7), gT] at hs
 refine nE (aa (ae (v := (I6 0)) rfl) (nR (bR (v := (I6 0)) Tryz.results80 rfl ?_)))
 obtain rfl := hs
 exact ⟨h.grown, rfl⟩
def nA (b : LX.State) (x38 : Val) (s : Unit) (Xa : Unit → Option Int) : Option Int :=
  bif decide (((cz x38 (b.cells.length : Int)) : Int) ≠ 0) then some (cz x38 (b.cells.length : Int)) else Xa ()
def nC (JV : Unit → Option Int) (s : Unit) : Option Int :=
  JV ()
def rD (x9 : LX.Frame) (rW : bQ) (b : LX.State) (JV : Unit → Option Int) (Aj : Bool) : Option Int :=
  bif Aj then some 3 else bif decide (((x9.regs.length : Int) : Int) ≠ rW.regs) then some 4 else each (nA b) (nC JV) x9.regs ()
def rE (a : List bQ) (b : LX.State) (i8 : Int) (x9 : LX.Frame) (s : Unit) (JV : Unit → Option Int) : Option Int :=
  bif (decide ((x9.proc : Int) < 0) || decide (((a.length : Int) : Int) ≤ x9.proc)) then some 5 else (idx a x9.proc).bind fun rW => bif (((decide ((x9.at_ : Int) < 0) || decide (((rW.code.length : Int) : Int) ≤ x9.at_)) || decide ((x9.kP : Int) < 0)) || (decide ((i8 : Int) = 0) && decide ((x9.kP : Int) ≠ 0))) then rD x9 rW b JV true else bif decide ((0 : Int) < i8) then gJ (jI (i8 - 1)) ((idx b.frames (i8 - 1)).bind fun x54 => rD x9 rW b JV (decide (((x54.regs.length : Int) : Int) ≤ x9.kP))) else rD x9 rW b JV false
def uZ (s : Unit) : Option Int :=
  some 0
def yE (a : List bQ) (b : LX.State) : Option Int :=
  bif (((decide ((b.status : Int) < 0) || decide ((3 : Int) < b.status)) || decide ((b.aQ : Int) < -1000000000)) || decide ((1000000000 : Int) < b.aQ)) then some 3 else bif ((decide ((b.status : Int) ≠ 3) && decide ((b.aQ : Int) ≠ 0)) || (decide ((b.status : Int) = 1) != decide (((b.frames.length : Int) : Int) = 0))) then some 4 else bif decide ((10 : Int) < (b.frames.length : Int)) then some 2 else bif decide (((dK b.cells) : Int) ≠ 0) then some (dK b.cells) else fq (rE a b) uZ 0 b.frames ()
theorem QS (w0 : World) (M : BS) (hM : ∀ b, M b → b < w0.heap.size) (va : Value) (a : List bQ) (ha : fP jR w0 BE M va a) (b : LX.State) (vb0 vb1 : Value) (hb0 : fP eu w0 BE M vb0 b.frames) (hb1 : fP (oV bJ) w0 BE M vb1 b.cells) (r : Int) (hs : yE a b = some r) :
    Calls Tryz.prog 64 #[va, (.agg #[vb0, vb1, (I6 b.status), (I6 b.aQ)])] w0 (fun e w' => Grow w0 w' ∧ e = .returned (.int .i64 r)) := by
 refine aL (args := [va, (.agg #[vb0, vb1, (I6 b.status), (I6 b.aQ)])]) Tryz.func64 rfl Tryz.ntmps64 (bC rfl) ?_
 have h := SH.init hM
 replace h := h.fG 1 ha bE
 replace h := h.fG 2 hb0 (cO bE)
 replace h := h.fG 3 hb1 (cO (cO bE))
 have vE := ha.bW
 refine nG (oP (cs := [vb0, vb1, (I6 b.status), (I6 b.aQ)]) h 4 rfl rfl fun w b1 h => aa (ae (v := (I6 0)) rfl) (nK (aa (ag nV rfl) (aa (aA h 4 rfl aU rfl rfl) (aa (dL rfl rfl) (aa (ah (v := (.bool (decide ((b.status : Int) < 0)))) rfl) (aC rfl rfl (fun q => ag nV rfl) (aC rfl rfl (fun q => aA h 4 rfl aU (dE q) rfl) (aC rfl rfl (fun q => j5 (dE q) rfl) (aa (iy rfl rfl nQ) (aa (ah (v := (.bool ((decide ((b.status : Int) < 0) || decide ((3 : Int) < b.status))))) rfl) (aC rfl rfl (fun q => ag wC rfl) (aC rfl rfl (fun q => aA h 4 rfl aU (dE q) rfl) (aC rfl rfl (fun q => dL (dE q) rfl) (aa (iy rfl rfl nQ) (aa (ah (v := (.bool (((decide ((b.status : Int) < 0) || decide ((3 : Int) < b.status)) || decide ((b.aQ : Int) < -1000000000))))) rfl) (aC rfl rfl (fun q => ag wC rfl) ?_)))))))))))))))))
 refine aC rfl rfl (fun q => aA h 4 rfl aU (dE q) rfl) (aC rfl rfl (fun q => j5 (dE q) rfl) (aa (iy rfl rfl nQ) (nN (aH hs rfl (fun c2 hs => ?_) (fun c2 hs => ?_)))))
 refine nG (aa (ae (v := (I6 3)) rfl) (nR (az (bR (v := (I6 3)) Tryz.results64 rfl ?_))))
 obtain rfl := fI hs
 exact ⟨h.grown, rfl⟩
 refine aI (ak (aO (nG (aa (ag nV rfl) (aa (aA h 4 rfl aU rfl rfl) (aa (iP rfl rfl) (aa (ah (v := (.bool (decide ((b.status : Int) ≠ 3)))) rfl) (aC rfl rfl (fun q => ag wC rfl) (aC rfl rfl (fun q => aA h 4 rfl aU (dE q) rfl) (aC rfl rfl (fun q => iP (dE q) rfl) (aa (gP rfl rfl nQ) (aa (ah (v := (.bool ((decide ((b.status : Int) ≠ 3) && decide ((b.aQ : Int) ≠ 0))))) rfl) (aC rfl rfl (fun q => ag nV rfl) (aC rfl rfl (fun q => aA h 4 rfl aU (dE q) rfl) (aC rfl rfl (fun q => bD (dE q) rfl) (aC rfl rfl (fun q => ag ed rfl) (aC rfl rfl (fun q => aA h 4 rfl iU (dE q) rfl) (aC rfl rfl (fun q => bT df (dE q) (h.iM 2 rfl)) (aC rfl rfl (fun q => bD (dE q) rfl) (aC rfl rfl (fun q => r_neqb Tryz.underlying4 (dE q) (dE q)) (aa (iy rfl rfl nQ) (ay ?_))))))))))))))))))))))
 refine ak (aH hs rfl (fun c3 hs => ?_) (fun c3 hs => ?_))
 refine nG (aa (ae (v := (I6 4)) rfl) (nR (az (bR (v := (I6 4)) Tryz.results64 rfl ?_))))
 obtain rfl := fI hs
 exact ⟨h.grown, rfl⟩
 refine aI (ak (aO (nG (aa (ag ed rfl) (aa (aA h 4 rfl iU rfl rfl) (aa (bT df rfl (h.iM 2 rfl)) (aa (j5 rfl rfl) (nN (aH hs rfl (fun c4 hs => ?_) (fun c4 hs => ?_))))))))))
 refine nG (aa (ae (v := (I6 2)) rfl) (nR (az (bR (v := (I6 2)) Tryz.results64 rfl ?_))))
 obtain rfl := fI hs
 exact ⟨h.grown, rfl⟩
 refine aI (ak (aO (nG (aa (ag il rfl) (aa (aA h 4 rfl kr rfl rfl) (aR V8 rfl rfl (Cm _ _ h.lt vb1 b.cells (h.iM 3 rfl) _ rfl) ?_))))))
 rintro _ w ⟨k5, rfl⟩
 refine ⟨_, rfl, ?_⟩
 replace h := h.grow k5
 refine aa (ae (v := (I6 ((dK b.cells)))) rfl) (nJ (aa (ah (v := (I6 ((dK b.cells)))) rfl) (aa (iP rfl rfl) (nN (aH hs rfl (fun c6 hs => ?_) (fun c6 hs => ?_))))))
 refine nG (aa (ah (v := (I6 ((dK b.cells)))) rfl) (aa (ae (v := (I6 ((dK b.cells)))) rfl) (nR (az (bR (v := (I6 ((dK b.cells)))) Tryz.results64 rfl ?_)))))
 obtain rfl := fI hs
 exact ⟨h.grown, rfl⟩
 refine aI (ak (aO (nG (aa (ag ed rfl) (aa (aA h 4 rfl iU rfl rfl) (aa (bT df rfl (h.iM 2 rfl)) (aa (ah (v := (I6 0)) rfl) (nN (aP (fT (σ := Nat × Int) (inl ([4, 6, 7, 8, 10, 11] ++ rg 61 85)) (fun ⟨k7, i8⟩ => [(61, (I6 i8))]) (fun ⟨k7, i8⟩ w => SH w0 M BE w (hset [(1, .sr jR va a), (2, .sr eu vb0 b.frames), (3, .sr (oV bJ) vb1 b.cells), (4, .blk b1 [vb0, vb1, (I6 b.status), (I6 b.aQ)])]) ∧ i8 = (k7 : Int) ∧ fq (rE a b) uZ i8 (b.frames.drop k7) () = some r) (fun ⟨k7, i8⟩ => b.frames.length - k7) ⟨0, 0⟩ ⟨rfl, trivial⟩ ?_ ?_))))))))))
 exact ⟨h.cn _, rfl, hs⟩
 rintro ⟨k7, i8⟩ w dz ⟨h, hik, hs⟩
 refine nG ?_
 refine aa (dL rfl rfl) (nN ?_)
 refine aO (iw rfl (fun e12 => ?_) (fun e12 => ?_))
 refine aI (ak ?_)
 obtain ⟨x9, e13a, e13b⟩ := gK (hik ▸ e12)
 rw [e13b, ja] at hs
 generalize hnx11 : fq (rE a b) uZ (i8 + 1) (b.frames.drop (k7 + 1)) = JV at hs
 have e13r := gN ((h.iM 2 rfl)).bW hik e12
 refine aO (aP (nG (aa (ah (v := (I6 i8)) rfl) ?_)))
 obtain ⟨b15, o16, cs17, h, r18, i14⟩ := h.Br 2 5 rfl df rfl (jb hik) (gM hik e13a)
 obtain ⟨Ev, rfl, g20⟩ := wM r18
 replace h := h.bM 6 g20.up
 refine aa (i14 _ _ _ _ _ _ _ _ _ rfl rfl) (aa (jm (k := 0) (vs := [(I6 x9.proc), (I6 x9.at_), Ev, (I6 x9.kP)]) h 5 rfl iA rfl rfl rfl (bC rfl)) (bO h 7 iA fun w KT h => aa (ae (v := (I6 i8)) rfl) (dn (vs := [(I6 x9.proc), (I6 x9.at_), Ev, (I6 x9.kP)]) h 7 [(I6 x9.proc), (I6 x9.at_), Ev, (I6 x9.kP)] rfl iA rfl rfl rfl rfl rfl (ai rfl (ai rfl (ai (h.fM 6 rfl).one (ai rfl aT)))) fun w h => nK (aa (ag wD rfl) (aa (aA h 7 rfl aU rfl rfl) (aa (dL rfl rfl) (aa (ah (v := (.bool (decide ((x9.proc : Int) < 0)))) rfl) (aC rfl rfl (fun q => ag wD rfl) (aC rfl rfl (fun q => aA h 7 rfl aU (dE q) rfl) (aC rfl rfl (fun q => ah (v := va) rfl) (aC rfl rfl (fun q => bT jW (dE q) (h.iM 1 rfl)) (aC rfl rfl (fun q => qy (dE q) (dE q)) (aa (iy rfl rfl nQ) (nN (aH hs rfl (fun c22 hs => ?_) (fun c22 hs => ?_))))))))))))))))
 refine nG (aa (ae (v := (I6 5)) rfl) (nR (az (aF (az (az (aF (az (bR (v := (I6 5)) Tryz.results64 rfl ?_)))))))))
 obtain rfl := fI hs
 exact ⟨h.grown, rfl⟩
 refine nS (aa (ah (v := va) rfl) (aa (ag wD rfl) (aa (aA h 7 rfl aU rfl rfl) ?_)))
 obtain ⟨rW, e24, hs⟩ := aJ hs
 obtain ⟨b26, o27, Za, h, r29, i25⟩ := h.Br 1 8 rfl jW rfl (aG e24).1 (aG e24).2
 obtain ⟨u30, rfl, g31⟩ := pg r29
 replace h := h.bM 9 g31.up
 refine aa (i25 _ _ _ _ _ _ _ _ _ rfl rfl) (aa (jm (k := 0) (vs := [(I6 rW.params), (I6 rW.regs), u30]) h 8 rfl xy rfl rfl rfl (bC rfl)) (bO h 10 xy fun w b32 h => dn (vs := [(I6 rW.params), (I6 rW.regs), u30]) h 10 [(I6 rW.params), (I6 rW.regs), u30] rfl xy rfl rfl rfl rfl rfl (ai rfl (ai rfl (ai (h.fM 9 rfl).one aT))) fun w h => nN (aO (bX (σ := Bool) (inl (rg 81 42)) (fun Aj => [(98, (gv (((decide ((x9.at_ : Int) < 0) || decide (((rW.code.length : Int) : Int) ≤ x9.at_)) || decide ((x9.kP : Int) < 0)) == false) (I6 i8))), (100, (gv (((decide ((x9.at_ : Int) < 0) || decide (((rW.code.length : Int) : Int) ≤ x9.at_)) || decide ((x9.kP : Int) < 0)) == false) (.bool (decide ((i8 : Int) = 0))))), (122, (.bool (Aj)))]) (fun Aj w => SH w0 M BE w (hset [(1, .sr jR va a), (2, .sr eu vb0 b.frames), (3, .sr (oV bJ) vb1 b.cells), (4, .blk b1 [vb0, vb1, (I6 b.status), (I6 b.aQ)]), (6, .rd bJ Ev x9.regs), (7, .blk KT [(I6 x9.proc), (I6 x9.at_), Ev, (I6 x9.kP)]), (9, .rd jK u30 rW.code), (10, .blk b32 [(I6 rW.params), (I6 rW.regs), u30])]) ∧ rD x9 rW b JV Aj = some r) ?_ ?_))))
 rintro Aj w dz ⟨h, hs⟩
 refine aH hs rfl (fun c34 hs => ?_) (fun c34 hs => ?_)
 refine nG (aa (ae (v := (I6 3)) rfl) (nR (az (aF (az (az (aF (az (bR (v := (I6 3)) Tryz.results64 rfl ?_)))))))))
 obtain rfl := fI hs
 exact ⟨h.grown, rfl⟩
 refine aI (ak (aO (nG (aa (ag kT rfl) (aa (aA h 7 rfl lC rfl rfl) (aa (bT bH rfl (h.mM 6 rfl)) (aa (ag BG rfl) (aa (aA h 10 rfl aU rfl rfl) (aa (iP rfl rfl) (nN (aH hs rfl (fun c35 hs => ?_) (fun c35 hs => ?_))))))))))))
 refine nG (aa (ae (v := (I6 4)) rfl) (nR (az (aF (az (az (aF (az (bR (v := (I6 4)) Tryz.results64 rfl ?_)))))))))
 obtain rfl := fI hs
 exact ⟨h.grown, rfl⟩
 refine nS (aa (ag kT rfl) (aa (aA h 7 rfl lC rfl rfl) (aa (bT bH rfl (h.mM 6 rfl)) (aa (ah (v := (I6 0)) rfl) (nN (aP (fT (σ := Nat × Int) (inl ([4, 10, 11] ++ rg 132 13)) (fun ⟨Yt, i37⟩ => [(132, (I6 i37))]) (fun ⟨Yt, i37⟩ w => SH w0 M BE w (hset [(1, .sr jR va a), (2, .sr eu vb0 b.frames), (3, .sr (oV bJ) vb1 b.cells), (4, .blk b1 [vb0, vb1, (I6 b.status), (I6 b.aQ)]), (6, .rd bJ Ev x9.regs)]) ∧ i37 = (Yt : Int) ∧ each (nA b) (nC JV) (x9.regs.drop Yt) () = some r) (fun ⟨Yt, i37⟩ => x9.regs.length - Yt) ⟨0, 0⟩ ⟨rfl, trivial⟩ ?_ ?_)))))))
 exact ⟨h.cn _, rfl, hs⟩
 rintro ⟨Yt, i37⟩ w dz ⟨h, hik, hs⟩
 refine nG ?_
 refine aa (dL rfl rfl) (nN ?_)
 refine aO (iw rfl (fun e41 => ?_) (fun e41 => ?_))
 refine aI (ak ?_)
 obtain ⟨x38, e42a, e42b⟩ := gK (hik ▸ e41)
 rw [e42b, dO] at hs
 generalize Xb : each (nA b) (nC JV) (x9.regs.drop (Yt + 1)) = Xa at hs
 have e42r := gN ((h.mM 6 rfl)).bW hik e41
 refine aO (aP (nG ?_))
 obtain ⟨Ua, o45, cs46, h, r47, i43⟩ := h.Fw 6 11 rfl bH rfl (jb hik) (gM hik e42a)
 obtain rfl := r47
 refine aa (i43 _ _ _ _ _ _ _ _ _ rfl rfl) (aa (jm (k := 0) (vs := [(I6 x38.kind), (I6 x38.n)]) h 11 rfl bS rfl rfl rfl (bC rfl)) (bO h 12 bS fun w b48 h => dn (vs := [(I6 x38.kind), (I6 x38.n)]) h 12 [(I6 x38.kind), (I6 x38.n)] rfl bS rfl rfl rfl rfl rfl (ai rfl (ai rfl aT)) fun w h => nJ (aa (dh (vs := [(I6 x38.kind), (I6 x38.n)]) h 12 rfl bS rfl rfl rfl) (aa (ag il rfl) (aa (aA h 4 rfl kr rfl rfl) (aa (bT eB rfl (h.iM 3 rfl)) (aR Qp rfl rfl (BQ _ _ h.lt x38 (b.cells.length : Int) _ rfl) ?_)))))))
 rintro _ w ⟨k49, rfl⟩
 refine ⟨_, rfl, ?_⟩
 replace h := h.grow k49
 refine aa (ae (v := (I6 ((cz x38 (b.cells.length : Int))))) rfl) (nJ (aa (ah (v := (I6 ((cz x38 (b.cells.length : Int))))) rfl) (aa (iP rfl rfl) (nN (aH hs rfl (fun c50 hs => ?_) (fun c50 hs => ?_))))))
 refine nG (aa (ah (v := (I6 ((cz x38 (b.cells.length : Int))))) rfl) (aa (ae (v := (I6 ((cz x38 (b.cells.length : Int))))) rfl) (nR (aF (az (az (aF (aF (az (az (aF (az (bR (v := (I6 ((cz x38 (b.cells.length : Int))))) Tryz.results64 rfl ?_)))))))))))))
 obtain rfl := fI hs
 exact ⟨h.grown, rfl⟩
 refine aI (ax (ak (aB (aa (dm rfl rfl e42r) (aa (ah (v := (I6 ((i37 + 1)))) rfl) (ay (au ?_)))))))
 subst Xb
 exact jQ ⟨Yt + 1, i37 + 1⟩ ⟨h.cn _, by omega, hs⟩ (by have := qE e41; dsimp only; omega)
 rw [gL (hik ▸ e41), gT] at hs
 refine iT (bK (bK (dU (ax (ak (aB (aa (dm rfl rfl e13r) (aa (ah (v := (I6 ((i8 + 1)))) rfl) (ay (au ?_))))))))))
 subst hnx11
 exact jQ ⟨k7 + 1, i8 + 1⟩ ⟨h.cn _, by omega, hs⟩ (by have := qE e12; dsimp only; omega)
 refine Cz mixed (by kernel_rfl) h fun w h => aM (ag sO rfl) (aM (aA h 7 rfl aU rfl rfl) (aM (dL rfl rfl) (aM (ah (v := (.bool (decide ((x9.at_ : Int) < 0)))) rfl) (vN rfl rfl (fun q => ag sO rfl) (vN rfl rfl (fun q => aA h 7 rfl aU (dE q) rfl) (vN rfl rfl (fun q => ag sQ rfl) (vN rfl rfl (fun q => aA h 10 rfl Cj (dE q) rfl) (vN rfl rfl (fun q => bT jF (dE q) (h.mM 9 rfl)) (vN rfl rfl (fun q => qy (dE q) (dE q)) (aM (iy rfl rfl nQ) (aM (ah (v := (.bool ((decide ((x9.at_ : Int) < 0) || decide (((rW.code.length : Int) : Int) ≤ x9.at_))))) rfl) (vN rfl rfl (fun q => ag zt rfl) (vN rfl rfl (fun q => aA h 7 rfl aU (dE q) rfl) (vN rfl rfl (fun q => dL (dE q) rfl) (aM (iy rfl rfl nQ) (aM (ah (v := (.bool (((decide ((x9.at_ : Int) < 0) || decide (((rW.code.length : Int) : Int) ≤ x9.at_)) || decide ((x9.kP : Int) < 0))))) rfl) (vN rfl rfl (fun q => ah (v := (I6 i8)) rfl) (vN rfl rfl (fun q => bD (dE q) rfl) (vN rfl rfl (fun q => ah (v := (.bool (decide ((i8 : Int) = 0)))) (dE q)) (RV (((decide ((x9.at_ : Int) < 0) || decide (((rW.code.length : Int) : Int) ≤ x9.at_)) || decide ((x9.kP : Int) < 0)) == false) rfl rfl (fun q => ag zt rfl) (RV (((decide ((x9.at_ : Int) < 0) || decide (((rW.code.length : Int) : Int) ≤ x9.at_)) || decide ((x9.kP : Int) < 0)) == false) rfl rfl (fun q => aA h 7 rfl aU (dE q) rfl) (RV (((decide ((x9.at_ : Int) < 0) || decide (((rW.code.length : Int) : Int) ≤ x9.at_)) || decide ((x9.kP : Int) < 0)) == false) rfl rfl (fun q => iP (dE q) rfl) ?_))))))))))))))))))))))
 refine vN rfl rfl (fun q => gP (dE q) (Vg q) nQ) (aM (iy rfl rfl nQ) (aM (ah (v := (.bool ((((decide ((x9.at_ : Int) < 0) || decide (((rW.code.length : Int) : Int) ≤ x9.at_)) || decide ((x9.kP : Int) < 0)) || (decide ((i8 : Int) = 0) && decide ((x9.kP : Int) ≠ 0)))))) rfl) (jL (b := (((decide ((x9.at_ : Int) < 0) || decide (((rW.code.length : Int) : Int) ≤ x9.at_)) || decide ((x9.kP : Int) < 0)) || (decide ((i8 : Int) = 0) && decide ((x9.kP : Int) ≠ 0)))) hs (fun c51 hs => ?_) (fun c51 hs => ?_))))
 refine gD (b' := true) rfl (cB c51) rfl (gD (b' := true) rfl (cB c51) rfl (gD (b' := true) rfl (cB c51) rfl (sH rfl rfl (sH rfl rfl (sH rfl rfl (sH rfl rfl (sH rfl rfl (sH rfl rfl (sH rfl rfl (sH rfl rfl (sH rfl rfl (sH rfl rfl (sH rfl rfl (gD (b' := true) rfl (cB c51) rfl (aM (dJ (b := true) (v := (.bool (true))) (cB c51) rfl) (Bu (au ?_)))))))))))))))))
 exact bP true ⟨h.cn _, hs⟩
 refine jf rfl (cB c51) (aM (ah (v := (I6 i8)) rfl) (jf rfl (cB c51) (aM (j5 rfl rfl) (jf rfl (cB c51) (aM (ah (v := (.bool (decide ((0 : Int) < i8)))) rfl) (jL (b := decide ((0 : Int) < i8)) hs (fun Ew hs => ?_) (fun Ew hs => ?_)))))))
 refine jf rfl (cB Ew) (aM (ag zt rfl) (jf rfl (cB Ew) (aM (aA h 7 rfl aU rfl rfl) (jf rfl (cB Ew) (aM (ag ed rfl) (jf rfl (cB Ew) (aM (aA h 4 rfl iU rfl rfl) (jf rfl (cB Ew) (aM (ah (v := (I6 i8)) rfl) (jf rfl (cB Ew) ?_))))))))))
 obtain ⟨a53, hs⟩ := bu hs
 refine aM (oO rfl rfl a53) (jf rfl (cB Ew) ?_)
 obtain ⟨x54, e55, hs⟩ := aJ hs
 obtain ⟨b57, o58, cs59, h, r60, i56⟩ := h.Br 2 13 rfl df rfl (aG e55).1 (aG e55).2
 obtain ⟨u61, rfl, g62⟩ := wM r60
 replace h := h.bM 14 g62.up
 refine aM (i56 _ _ _ _ _ _ _ _ _ rfl rfl) (jf rfl (cB Ew) (aM (ag kT rfl) (jf rfl (cB Ew) (aM (eU (k := 2) h 13 rfl lC rfl rfl) (jf rfl (cB Ew) (aM (bT bH rfl (h.mM 14 rfl)) (jf rfl (cB Ew) (aM (qy rfl rfl) (jf rfl (cB c51) (aM (dJ (b := true) (v := (.bool (decide (((x54.regs.length : Int) : Int) ≤ x9.kP)))) (cB Ew) rfl) (aM (dJ (b := false) (v := (.bool (decide (((x54.regs.length : Int) : Int) ≤ x9.kP)))) (cB c51) rfl) (Bu (au ?_)))))))))))))
 exact bP (decide (((x54.regs.length : Int) : Int) ≤ x9.kP)) ⟨h.cn _, hs⟩
 refine gD (b' := false) rfl (cB Ew) rfl (gD (b' := false) rfl (cB Ew) rfl (gD (b' := false) rfl (cB Ew) rfl (gD (b' := false) rfl (cB Ew) rfl (gD (b' := false) rfl (cB Ew) rfl (gD (b' := false) rfl (cB Ew) rfl (gD (b' := false) rfl (cB Ew) rfl (gD (b' := false) rfl (cB Ew) rfl (gD (b' := false) rfl (cB Ew) rfl (gD (b' := false) rfl (cB Ew) rfl (gD (b' := false) rfl (cB Ew) rfl (jf rfl (cB c51) (aM (dJ (b := false) (v := (.bool (false))) (cB Ew) rfl) (aM (dJ (b := false) (v := (.bool (false))) (cB c51) rfl) (Bu (au ?_)))))))))))))))
 exact bP false ⟨h.cn _, hs⟩
 rw [gL (hik ▸ e12), nZ] at hs
 refine nE (aa (ae (v := (I6 0)) rfl) (nR (bR (v := (I6 0)) Tryz.results64 rfl ?_)))
 obtain rfl := fI hs
 exact ⟨h.grown, rfl⟩
def yF (a : List bQ) (b : LX.State) : Option Int :=
  (qP a).bind fun y2 => bif decide ((y2 : Int) ≠ 0) then some y2 else (yE a b).bind fun y6 => some y6
theorem EG (w0 : World) (M : BS) (hM : ∀ b, M b → b < w0.heap.size) (va : Value) (a : List bQ) (ha : fP jR w0 BE M va a) (b : LX.State) (vb0 vb1 : Value) (hb0 : fP eu w0 BE M vb0 b.frames) (hb1 : fP (oV bJ) w0 BE M vb1 b.cells) (r : Int) (hs : yF a b = some r) :
    Calls Tryz.prog 27 #[va, (.agg #[vb0, vb1, (I6 b.status), (I6 b.aQ)])] w0 (fun e w' => Grow w0 w' ∧ e = .returned (.int .i64 r)) := by
 refine aL (args := [va, (.agg #[vb0, vb1, (I6 b.status), (I6 b.aQ)])]) Tryz.func27 rfl Tryz.ntmps27 (bC rfl) ?_
 have h := SH.init hM
 replace h := h.fG 1 ha bE
 replace h := h.fG 2 hb0 (cO bE)
 replace h := h.fG 3 hb1 (cO (cO bE))
 have vE := ha.bW
 refine nG (oP (cs := [vb0, vb1, (I6 b.status), (I6 b.aQ)]) h 4 rfl rfl fun w b1 h => aa (ae (v := (I6 0)) rfl) (nK (aa (ah (v := va) rfl) ?_)))
 obtain ⟨y2, e3, hs⟩ := aJ hs
 refine aR V7 rfl rfl (FV _ _ h.lt va a (h.iM 1 rfl) _ e3) ?_
 rintro _ w ⟨k4, rfl⟩
 refine ⟨_, rfl, ?_⟩
 replace h := h.grow k4
 refine aa (ae (v := (I6 y2)) rfl) (nJ (aa (ah (v := (I6 y2)) rfl) (aa (iP rfl rfl) (nN (aH hs rfl (fun c5 hs => ?_) (fun c5 hs => ?_))))))
 refine nG (aa (ah (v := (I6 y2)) rfl) (aa (ae (v := (I6 y2)) rfl) (nR (az (bR (v := (I6 y2)) Tryz.results27 rfl ?_)))))
 obtain rfl := fI hs
 exact ⟨h.grown, rfl⟩
 refine nS (aa (ah (v := va) rfl) (aa (dh (vs := [vb0, vb1, (I6 b.status), (I6 b.aQ)]) h 4 rfl bV rfl rfl rfl) ?_))
 obtain ⟨y6, e7, hs⟩ := aJ hs
 refine aR fnOk64 rfl rfl (QS _ _ h.lt va a (h.iM 1 rfl) b vb0 vb1 (h.iM 2 rfl) (h.iM 3 rfl) _ e7) ?_
 rintro _ w ⟨k8, rfl⟩
 refine ⟨_, rfl, ?_⟩
 replace h := h.grow k8
 refine aa (ae (v := (I6 y6)) rfl) (nR (bR (v := (I6 y6)) Tryz.results27 rfl ?_))
 obtain rfl := fI hs
 exact ⟨h.grown, rfl⟩
theorem qQ (w0 : World) (M : BS) (hM : ∀ b, M b → b < w0.heap.size) (va : Value) (a : List LX.Frame) (ha : fP eu w0 BE M va a) (r : List LX.Frame) (hs : clone 48 a = some r) :
    Calls Tryz.prog 83 #[va] w0 (fun e w' => Grow w0 w' ∧ ∃ u0, e = .returned u0 ∧ dY eu 49 w' M u0 r ∧ (∀ b, ob u0 b → w0.heap.size ≤ b)) := by
  obtain ⟨hr, hs⟩ := bu hs
  cases hs
  refine aL (args := [va]) Tryz.func83 rfl Tryz.ntmps83 (bC rfl) ?_
  have h := (SH.init hM).fG 1 ha bE
  refine nG (aa (ae rfl) (nN ?_))
  refine aO (nG (aa (ah rfl) (aa (MU df rfl (h.iM 1 rfl) rfl) (nN ?_))))
  refine iw rfl (fun c => ?_) (fun c => ?_)
  · obtain ⟨c1, c2⟩ := Bt (h.iM 1 rfl) c
    refine nG (aa (ae rfl) (nR (az ?_)))
    refine bR (v := .slice none 0 0) Tryz.results83 rfl ?_
    rw [c2]
    exact ⟨h.grown, _, rfl, dY.nil, kz⟩
  · refine aI (ak ?_)
    refine nG ?_
    refine sV (R := eu) (vs := []) (xs := []) h 2 oq rfl rfl rfl trivial rfl fun w u h => ?_
    refine aa (ah rfl) ?_
    refine lg (R := eu) (m := a) h 2 rfl (h.iM 1 rfl) oq rfl rfl rfl hr.1 hr.2 fun w u h => ?_
    refine aa (ae rfl) (nR ?_)
    refine bR (v := u) Tryz.results83 rfl ?_
    exact ⟨h.grown, _, rfl, (h.mQ 2 rfl).1, (h.mQ 2 rfl).2⟩
theorem Ct (w0 : World) (M : BS) (hM : ∀ b, M b → b < w0.heap.size) (va : Value) (a : List (List Val)) (ha : fP (oV bJ) w0 BE M va a) (r : List (List Val)) (hs : clone 24 a = some r) :
    Calls Tryz.prog 114 #[va] w0 (fun e w' => Grow w0 w' ∧ ∃ u0, e = .returned u0 ∧ dY (oV bJ) 47 w' M u0 r ∧ (∀ b, ob u0 b → w0.heap.size ≤ b)) := by
  obtain ⟨hr, hs⟩ := bu hs
  cases hs
  refine aL (args := [va]) Tryz.func114 rfl Tryz.ntmps114 (bC rfl) ?_
  have h := (SH.init hM).fG 1 ha bE
  refine nG (aa (ae rfl) (nN ?_))
  refine aO (nG (aa (ah rfl) (aa (MU eB rfl (h.iM 1 rfl) rfl) (nN ?_))))
  refine iw rfl (fun c => ?_) (fun c => ?_)
  · obtain ⟨c1, c2⟩ := Bt (h.iM 1 rfl) c
    refine nG (aa (ae rfl) (nR (az ?_)))
    refine bR (v := .slice none 0 0) Tryz.results114 rfl ?_
    rw [c2]
    exact ⟨h.grown, _, rfl, dY.nil, kz⟩
  · refine aI (ak ?_)
    refine nG ?_
    refine sV (R := (oV bJ)) (vs := []) (xs := []) h 2 jS rfl rfl rfl trivial rfl fun w u h => ?_
    refine aa (ah rfl) ?_
    refine lg (R := (oV bJ)) (m := a) h 2 rfl (h.iM 1 rfl) jS rfl rfl rfl hr.1 hr.2 fun w u h => ?_
    refine aa (ae rfl) (nR ?_)
    refine bR (v := u) Tryz.results114 rfl ?_
    exact ⟨h.grown, _, rfl, (h.mQ 2 rfl).1, (h.mQ 2 rfl).2⟩
theorem wZ (w0 : World) (M : BS) (hM : ∀ b, M b → b < w0.heap.size) (va : Value) (a : List Val) (ha : fP bJ w0 BE M va a) (r : List Val) (hs : clone 16 a = some r) :
    Calls Tryz.prog 85 #[va] w0 (fun e w' => Grow w0 w' ∧ ∃ u0, e = .returned u0 ∧ dY bJ 51 w' M u0 r ∧ (∀ b, ob u0 b → w0.heap.size ≤ b)) := by
  obtain ⟨hr, hs⟩ := bu hs
  cases hs
  refine aL (args := [va]) Tryz.func85 rfl Tryz.ntmps85 (bC rfl) ?_
  have h := (SH.init hM).fG 1 ha bE
  refine nG (aa (ae rfl) (nN ?_))
  refine aO (nG (aa (ah rfl) (aa (MU bH rfl (h.iM 1 rfl) rfl) (nN ?_))))
  refine iw rfl (fun c => ?_) (fun c => ?_)
  · obtain ⟨c1, c2⟩ := Bt (h.iM 1 rfl) c
    refine nG (aa (ae rfl) (nR (az ?_)))
    refine bR (v := .slice none 0 0) Tryz.results85 rfl ?_
    rw [c2]
    exact ⟨h.grown, _, rfl, dY.nil, kz⟩
  · refine aI (ak ?_)
    refine nG ?_
    refine sV (R := bJ) (vs := []) (xs := []) h 2 rZ rfl rfl rfl trivial rfl fun w u h => ?_
    refine aa (ah rfl) ?_
    refine lg (R := bJ) (m := a) h 2 rfl (h.iM 1 rfl) rZ rfl rfl rfl hr.1 hr.2 fun w u h => ?_
    refine aa (ae rfl) (nR ?_)
    refine bR (v := u) Tryz.results85 rfl ?_
    exact ⟨h.grown, _, rfl, (h.mQ 2 rfl).1, (h.mQ 2 rfl).2⟩
def xU (a : List (List Val)) (i14 : Int) (s : Unit) (NC : Unit → Option (List (List Val))) : Option (List (List Val)) :=
  (idx a i14).bind fun x20 => (clone 16 x20).bind fun y31 => NC ()
def xV (a : List (List Val)) (s : Unit) : Option (List (List Val)) :=
  some a
def DK (a : List (List Val)) : Option (List (List Val)) :=
  (clone 24 a).bind fun y1 => upto (xU a) (xV a) 0 ((a.length : Int)).toNat ()
theorem CS (w0 : World) (M : BS) (hM : ∀ b, M b → b < w0.heap.size) (va : Value) (a : List (List Val)) (ha : fP (oV bJ) w0 BE M va a) (r : List (List Val)) (hs : DK a = some r) :
    Calls Tryz.prog 84 #[va] w0 (fun e w' => Grow w0 w' ∧ ∃ yD, ∃ FW, e = .returned (yD) ∧ Chunk.holds w' M (Chunk.own' ((.two (.own (eT Val).raw 47 yD (List.zip r FW)) (.ib (dB bJ 51 hn FW (List.map (eT Val).sub r)))) : Chunk)) ((.two (.own (eT Val).raw 47 yD (List.zip r FW)) (.ib (dB bJ 51 hn FW (List.map (eT Val).sub r)))) : Chunk) ∧ (∀ b, Chunk.own' ((.two (.own (eT Val).raw 47 yD (List.zip r FW)) (.ib (dB bJ 51 hn FW (List.map (eT Val).sub r)))) : Chunk) b → w0.heap.size ≤ b)) := by
 refine aL (args := [va]) Tryz.func84 rfl Tryz.ntmps84 (bC rfl) ?_
 have h := SH.init hM
 replace h := h.fG 1 ha bE
 have vE := ha.bW
 refine nG (aa (ae (v := (.slice none 0 0)) rfl) (nJ (aa (ah (v := va) rfl) ?_)))
 obtain ⟨y1, e2, hs⟩ := aJ hs
 have z3 := Ab e2
 subst z3
 refine aR YV rfl rfl (Ct _ _ h.lt va a (h.iM 1 rfl) _ e2) ?_
 rintro _ w ⟨k7, u4, rfl, g5, g6⟩
 refine ⟨_, rfl, ?_⟩
 replace h := h.kG 2 k7 g5 g6
 obtain ⟨us8, -, h⟩ := h.thaw (N := (eT Val)) (R := bJ) (Es := 51) 2 3 4 rfl (by decide) (by decide) (by decide) rfl YM
 refine aa (ae (v := u4) rfl) (nK (aa (ah (v := u4) rfl) (aa (oo (N := (eT Val)) eB rfl (h.dG 2 rfl) (h.gX 3 rfl)) (aa (ah (v := (I6 0)) rfl) (nN (aP ?_))))))
 have hli14 := (h.iM 1 rfl).bW
 refine fT (σ := Nat × Int × List Value) (inl ([3, 4] ++ rg 9 11)) (fun ⟨k13, i14, GY⟩ => [(9, (I6 i14))]) (fun ⟨k13, i14, GY⟩ w => SH w0 M BE w (hset [(2, .own (eT Val).raw 47 u4 (List.zip a GY)), (3, .ib (dB bJ 51 (hge (k13)) GY (List.map (eT Val).sub a))), (4, .ib (FE bJ (k13) GY (List.map (eT Val).sub a)))]) ∧ i14 = (k13 : Int) ∧ upto (xU a) (xV a) i14 (((a.length : Int)).toNat - k13) () = some r) (fun ⟨k13, i14, GY⟩ => ((a.length : Int)).toNat - k13) ⟨0, 0, us8⟩ ⟨rfl, trivial⟩ ?_ ?_
 exact ⟨h.cn _, rfl, hs⟩
 rintro ⟨k13, i14, GY⟩ w dz ⟨h, hik, hs⟩
 refine nG ?_
 refine aa (dL rfl rfl) (nN ?_)
 refine aO (iw rfl (fun e18 => ?_) (fun e18 => ?_))
 refine aI (ak ?_)
 rw [sJ (by have := qE e18; omega)] at hs
 generalize hnx17 : upto (xU a) (xV a) (i14 + 1) (((a.length : Int)).toNat - (k13 + 1)) = NC at hs
 have e19r : jI (i14 + 1) := (by have := qE e18; have := hli14; exact jI.mk (by omega) (by omega))
 refine aO (aP (nG (aa (ah (v := (I6 i14)) rfl) ?_)))
 obtain ⟨x20, e21, hs⟩ := aJ hs
 obtain ⟨u25, e260, r27⟩ := h.VU 4 x20 rfl (h.gX 3 rfl) (Lv hik (aG e21).2) rfl
 have e26 := Z7 hik e260
 replace h := h.bM 5 r27
 obtain ⟨Ej, q24, i22⟩ := h.xL 2 rfl eB rfl (aG e21).1 (fw (aG e21).2 e26)
 refine aa (i22 _ _ _ _ _ _ _ _ _ rfl rfl) ?_
 obtain ⟨Za, m29, r30⟩ := h.zV 2 rfl q24 (fw (aG e21).2 e26)
 obtain ⟨rfl, -⟩ := r30
 refine aa (qa (k := 0) m29 lC rfl rfl) (aa (ae (v := (I6 i14)) rfl) (aa (ae (v := u25) rfl) (nN (aB (aa (ah (v := u4) rfl) (aa (ah (v := (I6 i14)) rfl) (aa (ah (v := u25) rfl) ?_)))))))
 obtain ⟨y31, e32, hs⟩ := aJ hs
 have z33 := Ab e32
 subst z33
 refine aR Wd rfl rfl (wZ _ _ h.lt u25 x20 (h.mM 5 rfl) _ e32) ?_
 rintro _ w ⟨k37, u34, rfl, g35, g36⟩
 refine ⟨_, rfl, ?_⟩
 replace h := h.kG 6 k37 g35 g36
 obtain ⟨b39, q40, i38⟩ := h.xL 2 rfl eB rfl (aG e21).1 (fw (aG e21).2 e26)
 refine aa (i38 _ _ _ _ _ _ _ _ _ rfl rfl) ?_
 have o41 : (Value.oneCell' u34) = true := (h.dC 6 rfl).one
 refine Li (off := 0) (a' := (x20, u34)) h 2 rfl q40 rfl (fw (aG e21).2 e26) lC rfl rfl o41 rfl (by rintro _ ⟨rfl, _⟩; exact ⟨rfl, o41⟩) fun w h => ?_
 rw [Ou (aG e21).2, VR hik] at h
 replace h := h.Ox 3 4 6 rfl rfl rfl (by decide) (by decide) (by decide) (Lv hik (aG e21).2) (Lv hik e26) rfl
 generalize List.set GY k13 u34 = Ze at h
 refine ay (ax (ak (aB (aa (dm rfl rfl e19r) (aa (ah (v := (I6 ((i14 + 1)))) rfl) (ay (au ?_)))))))
 subst hnx17
 exact jQ ⟨k13 + 1, i14 + 1, Ze⟩ ⟨h.cn _, by omega, hs⟩ (by have := qE e18; dsimp only; omega)
 rw [sK (by have := of_decide_eq_false e18; omega)] at hs
 replace h := h.VQ 3 rfl (by have := of_decide_eq_false e18; omega)
 replace h := h.fH 4
 refine nE (aa (ah (v := u4) rfl) (aa (ae (v := u4) rfl) (nR (bR (v := u4) Tryz.results84 rfl ?_))))
 replace h := h.pair 2 3 (by decide)
 obtain rfl := fI hs
 obtain ⟨o1, o2, o3⟩ := h.o8 2 (C := (.two (.own (eT Val).raw 47 u4 (List.zip a GY)) (.ib (dB bJ 51 hn GY (List.map (eT Val).sub a))) : Chunk)) rfl ⟨trivial, trivial⟩
 exact ⟨o2, u4, GY, rfl, o1, M7 o3⟩
def BU (a : LX.State) (i13 : Int) (s : Unit) (nx16 : Unit → Option LX.State) : Option LX.State :=
  (idx a.frames i13).bind fun BR => (clone 16 BR.regs).bind fun Xj => nx16 ()
def BV (a : LX.State) (y7 : List (List Val)) (s : Unit) : Option LX.State :=
  some (⟨a.frames, y7, a.status, a.aQ⟩ : LX.State)
def EH (a : LX.State) (y7 : List (List Val)) : Option LX.State :=
  upto (BU a) (BV a y7) 0 ((a.frames.length : Int)).toNat ()
def DL (a : LX.State) : Option LX.State :=
  (clone 48 a.frames).bind fun Xk => (DK a.cells).bind fun qR => EH a qR
theorem GZ (w0 : World) (M : BS) (hM : ∀ b, M b → b < w0.heap.size) (a : LX.State) (Fp FX : Value) (ha0 : fP eu w0 BE M Fp a.frames) (ha1 : fP (oV bJ) w0 BE M FX a.cells) (r : LX.State) (hs : DL a = some r) :
    Calls Tryz.prog 49 #[(.agg #[Fp, FX, (I6 a.status), (I6 a.aQ)])] w0 (fun e w' => Grow w0 w' ∧ ∃ yD, ∃ Cs, ∃ FW, ∃ QT, e = .returned (.agg #[yD, Cs, .int .i64 r.status, .int .i64 r.aQ]) ∧ Chunk.holds w' M (Chunk.own' ((cU yD Cs r.frames FW r.cells QT) : Chunk)) ((cU yD Cs r.frames FW r.cells QT) : Chunk) ∧ (∀ b, Chunk.own' ((cU yD Cs r.frames FW r.cells QT) : Chunk) b → w0.heap.size ≤ b)) := by
 refine aL (args := [(.agg #[Fp, FX, (I6 a.status), (I6 a.aQ)])]) Tryz.func49 rfl Tryz.ntmps49 (bC rfl) ?_
 have h := SH.init hM
 replace h := h.fG 1 ha0 bE
 replace h := h.fG 2 ha1 (cO bE)
 refine nG (oP (cs := [Fp, FX, (I6 a.status), (I6 a.aQ)]) h 3 rfl rfl fun w b1 h => bO h 4 bV fun w b2 h => nN (bX (σ := Value × List Value × Value × List Value × List (List Val)) (inl (rg 5 8)) (fun ⟨v3, us4, v5, N9, y7⟩ => []) (fun ⟨v3, us4, v5, N9, y7⟩ w => SH w0 M BE w (hset [(3, .blk b1 [v3, v5, (I6 a.status), (I6 a.aQ)]), (4, .blk b2 [(.slice none 0 0), (.slice none 0 0), (I6 0), (I6 0)]), (29, .own bU.raw 49 v3 (List.zip a.frames us4)), (30, .ib (dB bJ 51 (hge (0)) us4 (List.map bU.sub a.frames))), (31, .ib (FE bJ (0) us4 (List.map bU.sub a.frames))), (65, .own (eT Val).raw 47 v5 (List.zip y7 N9)), (66, .ib (dB bJ 51 hn N9 (List.map (eT Val).sub y7)))]) ∧ EH a y7 = some r) ?_ ?_))
 rintro ⟨v3, us4, v5, N9, y7⟩ w dz ⟨h, hs⟩
 refine aO (nG (aa (ag ed rfl) (aa (aA h 3 rfl iU rfl rfl) (aa (oo (N := bU) df rfl (h.dG 29 rfl) (h.gX 30 rfl)) (aa (ah (v := (I6 0)) rfl) (nN (aP ?_)))))))
 have hli13 := JB (h.dG 29 rfl) (h.gX 30 rfl)
 refine fT (σ := Nat × Int × List Value) (inl ([3, 4] ++ rg 16 14)) (fun ⟨k12, i13, EI⟩ => [(16, (I6 i13))]) (fun ⟨k12, i13, EI⟩ w => SH w0 M BE w (hset [(3, .blk b1 [v3, v5, (I6 a.status), (I6 a.aQ)]), (4, .blk b2 [(.slice none 0 0), (.slice none 0 0), (I6 0), (I6 0)]), (29, .own bU.raw 49 v3 (List.zip a.frames EI)), (30, .ib (dB bJ 51 (hge (k12)) EI (List.map bU.sub a.frames))), (31, .ib (FE bJ (k12) EI (List.map bU.sub a.frames))), (65, .own (eT Val).raw 47 v5 (List.zip y7 N9)), (66, .ib (dB bJ 51 hn N9 (List.map (eT Val).sub y7)))]) ∧ i13 = (k12 : Int) ∧ upto (BU a) (BV a y7) i13 (((a.frames.length : Int)).toNat - k12) () = some r) (fun ⟨k12, i13, EI⟩ => ((a.frames.length : Int)).toNat - k12) ⟨0, 0, us4⟩ ⟨rfl, trivial⟩ ?_ ?_
 exact ⟨h.cn _, rfl, hs⟩
 rintro ⟨k12, i13, EI⟩ w dz ⟨h, hik, hs⟩
 refine nG ?_
 refine aa (dL rfl rfl) (nN ?_)
 refine aO (iw rfl (fun e17 => ?_) (fun e17 => ?_))
 refine aI (ak ?_)
 rw [sJ (by have := qE e17; omega)] at hs
 generalize hnx16 : upto (BU a) (BV a y7) (i13 + 1) (((a.frames.length : Int)).toNat - (k12 + 1)) = nx16 at hs
 have e18r : jI (i13 + 1) := (by have := qE e17; have := hli13; exact jI.mk (by omega) (by omega))
 refine aO (aP (nG (aa (ah (v := (I6 i13)) rfl) ?_)))
 obtain ⟨BR, e20, hs⟩ := aJ hs
 obtain ⟨u24, e250, r26⟩ := h.VU 31 BR.regs rfl (h.gX 30 rfl) (Lv hik (aG e20).2) rfl
 have e25 := Z7 hik e250
 replace h := h.bM 67 r26
 obtain ⟨b22, q23, i21⟩ := h.xL 29 rfl df rfl (aG e20).1 (fw (aG e20).2 e25)
 refine aa (i21 _ _ _ _ _ _ _ _ _ rfl rfl) ?_
 obtain ⟨cs27, m28, r29⟩ := h.zV 29 rfl q23 (fw (aG e20).2 e25)
 obtain ⟨rfl, -⟩ := r29
 refine aa (oZ (k := 0) (vs := [(I6 BR.proc), (I6 BR.at_), u24, (I6 BR.kP)]) m28 iA rfl rfl rfl (bC rfl)) (bO h 68 iA fun w b30 h => aa (ae (v := (I6 i13)) rfl) (dn (vs := [(I6 BR.proc), (I6 BR.at_), u24, (I6 BR.kP)]) h 68 [(I6 BR.proc), (I6 BR.at_), u24, (I6 BR.kP)] rfl iA rfl rfl rfl rfl rfl (ai rfl (ai rfl (ai (h.fM 67 rfl).one (ai rfl aT)))) fun w h => nN (kL (L := (ob v3)) mixed h fun w h => bA 0 (aD.refl _ _) rfl aj (by kernel_rfl) (by kernel_rfl) (by kernel_rfl) (fun w hk => ag ed rfl) (bA 1 (aD.refl _ _) rfl aj (by kernel_rfl) (by kernel_rfl) (by kernel_rfl) (fun w hk => have h := h.oQ 29 rfl hk; aA h 3 rfl iU rfl rfl) (bA 2 (aD.refl _ _) rfl aj (by kernel_rfl) (by kernel_rfl) (by kernel_rfl) (fun w hk => ah (v := (I6 i13)) rfl) (bA 3 (aD.refl _ _) rfl aj (by kernel_rfl) (by kernel_rfl) (by kernel_rfl) (fun w hk => ag kT rfl) (bA 4 (aD.refl _ _) rfl aj (by kernel_rfl) (by kernel_rfl) (by kernel_rfl) (fun w hk => have h := h.oQ 29 rfl hk; aA h 68 rfl lC rfl rfl) ?_)))))))
 obtain ⟨ws35, ws35e⟩ : ∃ x, x = w := ⟨_, rfl⟩
 have ND : aD (ob v3) ws35 w := ws35e ▸ aD.refl (ob v3) w
 refine rU ws35e.symm (bg 5 (by kernel_rfl) rfl aj ?_)
 obtain ⟨Xj, O1, hs⟩ := aJ hs
 have Xl := Ab O1
 subst Xl
 refine aR Wd rfl rfl (wZ _ _ h.lt u24 BR.regs (h.mM 67 rfl) _ O1) ?_
 rintro _ w ⟨O3, FY, rfl, Xm, O4⟩
 refine ⟨_, rfl, ?_⟩
 replace h := h.kG 129 O3 Xm O4
 have uq34x5_4q : ∀ b, ob FY b → ws35.heap.size ≤ b := fun b hb => Nat.le_trans ND.size (O4 b hb)
 replace ND := ND.grow O3
 refine ay (aN ND ?_)
 obtain ⟨bq34x6_2, Xn, Xo⟩ := h.xL 29 rfl df rfl (aG e20).1 (fw (aG e20).2 e25)
 refine cK 6 ND rfl (by kernel_rfl) (fun w hk => Xo _ _ _ _ _ _ _ _ _ rfl rfl) (cK 7 ND rfl (by kernel_rfl) (fun w hk => ag kT rfl) (bg 8 (by kernel_rfl) rfl aj ?_))
 have O5 : (Value.oneCell' FY) = true := (h.dC 129 rfl).one
 refine VA (a' := (BR, FY)) h 29 rfl Xn rfl (fw (aG e20).2 e25) lC rfl rfl O5 rfl (by rintro _ ⟨rfl, _⟩; exact ⟨rfl, O5⟩) fun w h Xp => ?_
 replace ND := ND.same Xp
 rw [Ou (aG e20).2, VR hik] at h
 replace h := h.Ox 30 31 129 rfl rfl rfl (by decide) (by decide) (by decide) (Lv hik (aG e20).2) (Lv hik e25) rfl
 generalize List.set EI k12 FY = Ub at h
 refine ay (aN ND (eY (by kernel_rfl) (ax (ak (aB (aa (dm rfl rfl e18r) (aa (ah (v := (I6 ((i13 + 1)))) rfl) (ay (au ?_)))))))))
 subst hnx16
 exact jQ ⟨k12 + 1, i13 + 1, Ub⟩ ⟨h.cn _, by omega, hs⟩ (by have := qE e17; dsimp only; omega)
 rw [sK (by have := of_decide_eq_false e17; omega)] at hs
 replace h := h.VQ 30 rfl (by have := of_decide_eq_false e17; omega)
 replace h := h.fH 31
 refine nE (aa (dh (vs := [v3, v5, (I6 a.status), (I6 a.aQ)]) h 3 rfl bV rfl rfl rfl) (dn (vs := [v3, v5, (I6 a.status), (I6 a.aQ)]) h 4 [v3, v5, (I6 a.status), (I6 a.aQ)] rfl bV rfl rfl rfl rfl rfl (ai (h.dC 29 rfl).one (ai (h.dC 65 rfl).one (ai rfl (ai rfl aT)))) fun w h => nR (Z5 (vs := [v3, v5, (I6 a.status), (I6 a.aQ)]) Tryz.results49 rfl h 4 rfl bV rfl ?_)))
 replace h := h.pair 29 30 (by decide)
 replace h := h.pair 29 65 (by decide)
 replace h := h.pair 29 66 (by decide)
 obtain rfl := fI hs
 obtain ⟨o1, o2, o3⟩ := h.o8 29 (C := (cU v3 v5 a.frames EI y7 N9)) rfl ⟨⟨⟨trivial, trivial⟩, trivial⟩, trivial⟩
 exact ⟨o2, v3, v5, EI, N9, rfl, o1, M7 o3⟩
 refine kL (L := (fun x => x = b1)) mixed h fun w h => bA 0 (aD.refl _ _) rfl aj (by kernel_rfl) (by kernel_rfl) (by kernel_rfl) (fun w hk => ag ed rfl) (bA 3 (aD.refl _ _) rfl aj (by kernel_rfl) (by kernel_rfl) (by kernel_rfl) (fun w hk => ag il rfl) ?_)
 obtain ⟨Xk, Av, hs⟩ := aJ hs
 obtain ⟨qR, JW, hs⟩ := aJ hs
 obtain ⟨Zf, ws43e⟩ : ∃ x, x = w := ⟨_, rfl⟩
 have kN : aD (fun x => x = b1) Zf w := ws43e ▸ aD.refl (fun x => x = b1) w
 refine rU ws43e.symm (lu 1 4 (by kernel_rfl) rfl aj rfl aj ?_ ?_)
 refine aa (aA h 3 rfl iU rfl rfl) (ay (aN kN (lu 2 4 (by kernel_rfl) rfl aj rfl aj ?_ ?_)))
 have CU := Ab Av
 subst CU
 refine aR Qq rfl rfl (qQ _ _ h.lt Fp a.frames (h.iM 1 rfl) _ Av) ?_
 rintro _ w ⟨w9, nD, rfl, CV, xc⟩
 refine ⟨_, rfl, ?_⟩
 replace h := h.kG 213 w9 CV xc
 have LJ : ∀ b, ob nD b → Zf.heap.size ≤ b := fun b hb => Nat.le_trans kN.size (xc b hb)
 replace kN := kN.grow w9
 obtain ⟨Aw, -, h⟩ := h.thaw (N := bU) (R := bJ) (Es := 51) 213 214 215 rfl (by decide) (by decide) (by decide) rfl GG
 refine ay (aN kN (bg 4 (by kernel_rfl) rfl aj (aa (aA h 3 rfl kr rfl rfl) (ay (aN kN (cK 6 kN rfl (by kernel_rfl) (fun w hk => ag ed rfl) (bg 5 (by kernel_rfl) rfl aj (aR Qr rfl rfl (CS _ _ h.lt FX a.cells (h.iM 2 rfl) _ JW) ?_))))))))
 rintro _ w ⟨xe, qU, oF, rfl, CW, CX⟩
 refine ⟨_, rfl, ?_⟩
 replace h := h.JA 249 (C := (.two (.own (eT Val).raw 47 qU (List.zip qR oF)) (.ib (dB bJ 51 hn oF (List.map (eT Val).sub qR))) : Chunk)) xe ⟨trivial, trivial⟩ CW CX
 replace h := h.bN 249 250 (by decide) rfl rfl
 replace kN := kN.grow xe
 refine ay (aN kN (bg 7 (by kernel_rfl) rfl aj (o7 h 3 [nD, FX, (I6 a.status), (I6 a.aQ)] rfl iU rfl rfl rfl rfl (h.dC 213 rfl).one fun w h CY => ?_)))
 replace kN := kN.same CY
 refine ay (aN kN (cK 8 kN rfl (by kernel_rfl) (fun w hk => ag il rfl) (bg 9 (by kernel_rfl) rfl aj (o7 h 3 [nD, qU, (I6 a.status), (I6 a.aQ)] rfl kr rfl rfl rfl rfl (h.dC 249 rfl).one fun w h CZ => ?_))))
 replace kN := kN.same CZ
 refine ay (aN kN (eY (by kernel_rfl) (au ?_)))
 replace h := (h.fH 29).moveC 213 29 rfl rfl (by decide)
 replace h := (h.fH 30).moveC 214 30 rfl rfl (by decide)
 replace h := (h.fH 31).moveC 215 31 rfl rfl (by decide)
 replace h := (h.fH 65).moveC 249 65 rfl rfl (by decide)
 replace h := (h.fH 66).moveC 250 66 rfl rfl (by decide)
 exact bP (nD, Aw, qU, oF, qR) ⟨h.cn _, hs⟩
 refine aa (aA h 3 rfl kr rfl rfl) (ay (aN kN (bg 2 (by kernel_rfl) rfl aj ?_)))
 have CU := Ab Av
 subst CU
 refine aR Qq rfl rfl (qQ _ _ h.lt Fp a.frames (h.iM 1 rfl) _ Av) ?_
 rintro _ w ⟨w9, nD, rfl, CV, xc⟩
 refine ⟨_, rfl, ?_⟩
 replace h := h.kG 213 w9 CV xc
 have LJ : ∀ b, ob nD b → Zf.heap.size ≤ b := fun b hb => Nat.le_trans kN.size (xc b hb)
 replace kN := kN.grow w9
 obtain ⟨Aw, -, h⟩ := h.thaw (N := bU) (R := bJ) (Es := 51) 213 214 215 rfl (by decide) (by decide) (by decide) rfl GG
 refine ay (aN kN (cK 6 kN rfl (by kernel_rfl) (fun w hk => ag ed rfl) (bg 5 (by kernel_rfl) rfl aj (aR Qr rfl rfl (CS _ _ h.lt FX a.cells (h.iM 2 rfl) _ JW) ?_))))
 rintro _ w ⟨xe, qU, oF, rfl, CW, CX⟩
 refine ⟨_, rfl, ?_⟩
 replace h := h.JA 249 (C := (.two (.own (eT Val).raw 47 qU (List.zip qR oF)) (.ib (dB bJ 51 hn oF (List.map (eT Val).sub qR))) : Chunk)) xe ⟨trivial, trivial⟩ CW CX
 replace h := h.bN 249 250 (by decide) rfl rfl
 replace kN := kN.grow xe
 refine ay (aN kN (bg 7 (by kernel_rfl) rfl aj (o7 h 3 [nD, FX, (I6 a.status), (I6 a.aQ)] rfl iU rfl rfl rfl rfl (h.dC 213 rfl).one fun w h CY => ?_)))
 replace kN := kN.same CY
 refine ay (aN kN (cK 8 kN rfl (by kernel_rfl) (fun w hk => ag il rfl) (bg 9 (by kernel_rfl) rfl aj (o7 h 3 [nD, qU, (I6 a.status), (I6 a.aQ)] rfl kr rfl rfl rfl rfl (h.dC 249 rfl).one fun w h CZ => ?_))))
 replace kN := kN.same CZ
 refine ay (aN kN (eY (by kernel_rfl) (au ?_)))
 replace h := (h.fH 29).moveC 213 29 rfl rfl (by decide)
 replace h := (h.fH 30).moveC 214 30 rfl rfl (by decide)
 replace h := (h.fH 31).moveC 215 31 rfl rfl (by decide)
 replace h := (h.fH 65).moveC 249 65 rfl rfl (by decide)
 replace h := (h.fH 66).moveC 250 66 rfl rfl (by decide)
 exact bP (nD, Aw, qU, oF, qR) ⟨h.cn _, hs⟩
 refine aa (aA h 3 rfl kr rfl rfl) (ay (aN kN (bg 1 (by kernel_rfl) rfl aj (aa (aA h 3 rfl iU rfl rfl) (ay (aN kN (bg 2 (by kernel_rfl) rfl aj ?_)))))))
 have CU := Ab Av
 subst CU
 refine aR Qq rfl rfl (qQ _ _ h.lt Fp a.frames (h.iM 1 rfl) _ Av) ?_
 rintro _ w ⟨w9, nD, rfl, CV, xc⟩
 refine ⟨_, rfl, ?_⟩
 replace h := h.kG 213 w9 CV xc
 have LJ : ∀ b, ob nD b → Zf.heap.size ≤ b := fun b hb => Nat.le_trans kN.size (xc b hb)
 replace kN := kN.grow w9
 obtain ⟨Aw, -, h⟩ := h.thaw (N := bU) (R := bJ) (Es := 51) 213 214 215 rfl (by decide) (by decide) (by decide) rfl GG
 refine ay (aN kN (cK 6 kN rfl (by kernel_rfl) (fun w hk => ag ed rfl) (bg 5 (by kernel_rfl) rfl aj (aR Qr rfl rfl (CS _ _ h.lt FX a.cells (h.iM 2 rfl) _ JW) ?_))))
 rintro _ w ⟨xe, qU, oF, rfl, CW, CX⟩
 refine ⟨_, rfl, ?_⟩
 replace h := h.JA 249 (C := (.two (.own (eT Val).raw 47 qU (List.zip qR oF)) (.ib (dB bJ 51 hn oF (List.map (eT Val).sub qR))) : Chunk)) xe ⟨trivial, trivial⟩ CW CX
 replace h := h.bN 249 250 (by decide) rfl rfl
 replace kN := kN.grow xe
 refine ay (aN kN (bg 7 (by kernel_rfl) rfl aj (o7 h 3 [nD, FX, (I6 a.status), (I6 a.aQ)] rfl iU rfl rfl rfl rfl (h.dC 213 rfl).one fun w h CY => ?_)))
 replace kN := kN.same CY
 refine ay (aN kN (cK 8 kN rfl (by kernel_rfl) (fun w hk => ag il rfl) (bg 9 (by kernel_rfl) rfl aj (o7 h 3 [nD, qU, (I6 a.status), (I6 a.aQ)] rfl kr rfl rfl rfl rfl (h.dC 249 rfl).one fun w h CZ => ?_))))
 replace kN := kN.same CZ
 refine ay (aN kN (eY (by kernel_rfl) (au ?_)))
 replace h := (h.fH 29).moveC 213 29 rfl rfl (by decide)
 replace h := (h.fH 30).moveC 214 30 rfl rfl (by decide)
 replace h := (h.fH 31).moveC 215 31 rfl rfl (by decide)
 replace h := (h.fH 65).moveC 249 65 rfl rfl (by decide)
 replace h := (h.fH 66).moveC 250 66 rfl rfl (by decide)
 exact bP (nD, Aw, qU, oF, qR) ⟨h.cn _, hs⟩
def Ay (x8 : Int) : Option (Val × Bool) :=
  some ((⟨1, x8⟩ : Val), (decide ((-1000000000 : Int) ≤ x8) && decide ((x8 : Int) ≤ 1000000000)))
def O6 (a : Int) (b : Val) (c : Val) : Option (Val × Bool) :=
  bif decide ((a : Int) = 5) then bif (decide (b.kind = c.kind) && decide (b.n = c.n)) then some ((⟨1, 1⟩ : Val), true) else some ((⟨1, 0⟩ : Val), true) else bif (decide ((b.kind : Int) ≠ 1) || decide ((c.kind : Int) ≠ 1)) then some ((⟨0, 0⟩ : Val), false) else bif decide ((a : Int) = 1) then gJ (jI (b.n + c.n)) (Ay (b.n + c.n)) else bif decide ((a : Int) = 2) then gJ (jI (b.n - c.n)) (Ay (b.n - c.n)) else bif decide ((a : Int) = 3) then gJ (jI (b.n * c.n)) (Ay (b.n * c.n)) else bif decide ((a : Int) = 4) then bif decide ((b.n : Int) < c.n) then some ((⟨1, 1⟩ : Val), true) else some ((⟨1, 0⟩ : Val), true) else Ay 0
end
end Go.Proofs.YtfclkapelkhlpaaGreatDoor
