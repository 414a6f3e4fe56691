/-
  What the law VmSays needs of our own library and of the walks, no more.
-/
import Derived.Test.YtfclkapelkhlpaaGreatDoorProg
import Derived.Test.YtfclkapelkhlpaaGreatDoorVmSaysTc
set_option linter.unusedSimpArgs false
set_option linter.unusedVariables false
set_option maxRecDepth 10000
namespace Go.Proofs.YtfclkapelkhlpaaGreatDoor
open Go Go.Proofs Go.LX
noncomputable section
theorem Cv (N : Nat) (w0 : World) (M : BS) (hM : ∀ b, M b → b < w0.heap.size) (hT : zo Tryz.prog 4 w0) (a : Str) (r : List iO × Int) (hs : oG N a = some r) :
    Calls Tryz.prog 77 #[(aV a)] w0 (fun e w' => Grow w0 w' ∧ ∃ u0, e = .returned (.tuple #[u0, .int .i64 r.2]) ∧ gW kY 113 w' M u0 r.1 ∧ (∀ b, ob u0 b → w0.heap.size ≤ b)) := by
 refine aQ (args := [(aV a)]) Tryz.func77 rfl Tryz.ntmps77 (bD rfl) ?_
 have h := SH.init hM
 refine nG (aa (ae (v := (.slice none 0 0)) rfl) (aa (ae (v := (I6 0)) rfl) (nJ (aa (ah (v := (aV a)) rfl) ?_))))
 obtain ⟨y1, e2, hs⟩ := aL hs
 refine aW fnOk101 rfl rfl (Lt _ _ h.lt (hT.go h.keep) a [32] _ e2) ?_
 rintro _ w ⟨k5, u3, rfl, g4⟩
 refine ⟨_, rfl, ?_⟩
 replace h := h.KX 1 k5 g4
 refine uj h 2 rD fun w b6 h => gP h 2 [u3] rfl rD rfl rfl rfl rfl (h.iN 1 rfl).one fun w h => nJ (uj h 3 CY fun w b7 h => nK (aa (az h 2 rfl rD rfl rfl) (aa (bM il rfl (h.kL 1 rfl)) (aa (ah (v := (I6 0)) rfl) (nN (aN ?_))))))
 replace h := h.yH (R := kY) (E := 113) 7
 refine gD (σ := Nat × Int × Value × List iO) (inl (rg 6 6 ++ rg 24 39)) (fun ⟨k16, i17, v14, Ay⟩ => [(24, (I6 i17))]) (fun ⟨k16, i17, v14, Ay⟩ w => SH w0 M BE w (hset [(1, .rd sO u3 y1), (2, .blk b6 [u3]), (3, .blk b7 [v14]), (7, .own kY 113 v14 Ay)]) ∧ i17 = (k16 : Int) ∧ dZ (l5 y1) (ko N y1 a) i17 (y1.drop k16) Ay = some r) (fun ⟨k16, i17, v14, Ay⟩ => y1.length - k16) ⟨0, 0, (.slice none 0 0), []⟩ ⟨rfl, trivial⟩ ?_ ?_
 exact ⟨h.cn _, rfl, hs⟩
 rintro ⟨k16, i17, v14, Ay⟩ w dR ⟨h, hik, hs⟩
 refine nG ?_
 refine aa (eO rfl rfl) (nN ?_)
 refine aM (gQ rfl (fun e21 => ?_) (fun e21 => ?_))
 refine aH (ak ?_)
 obtain ⟨AU, e22a, e22b⟩ := fG (hik ▸ e21)
 rw [e22b, iQ] at hs
 generalize hnx20 : dZ (l5 y1) (ko N y1 a) (i17 + 1) (y1.drop (k16 + 1)) = Oe at hs
 have e22r := fJ ((h.kL 1 rfl)).bT hik e21
 refine cu (σ := Value × List iO) (inl (rg 6 6 ++ rg 26 36)) (fun ⟨v23, y24⟩ => []) (fun ⟨v23, y24⟩ w => SH w0 M BE w (hset [(1, .rd sO u3 y1), (2, .blk b6 [u3]), (3, .blk b7 [v23]), (7, .own kY 113 v23 y24)]) ∧ qa Oe y24 = some r) ?_ ?_
 rintro ⟨v23, y24⟩ w dR ⟨h, hs⟩
 refine aD (aa (dQ rfl rfl e22r) (aa (ah (v := (I6 ((i17 + 1)))) rfl) (aA (au ?_))))
 subst hnx20
 exact jM ⟨k16 + 1, i17 + 1, v23, y24⟩ ⟨h.cn _, by omega, hs⟩ (by have := oD e21; dsimp only; omega)
 refine aN (nG (aa (ah (v := (I6 i17)) rfl) ?_))
 obtain ⟨b26, o27, cs28, h, r29, i25⟩ := h.Cn 1 8 rfl il rfl (ig hik) (fI hik e22a)
 obtain rfl := r29
 refine aa (i25 _ _ _ _ _ _ _ _ _ rfl rfl) (aa (fo (k := 0) h 8 rfl CZ rfl rfl) (aa (ae (v := (I6 i17)) rfl) (aa (ae (v := (aV AU)) rfl) (nN (cu (σ := Bool) (inl (rg 29 9)) (fun x30 => [(37, (.bool (x30)))]) (fun x30 w => SH w0 M BE w (hset [(1, .rd sO u3 y1), (2, .blk b6 [u3]), (3, .blk b7 [v14]), (7, .own kY 113 v14 Ay)]) ∧ qb y1 i17 Ay Oe x30 = some r) ?_ ?_)))))
 rintro x30 w dR ⟨h, hs⟩
 refine aI hs rfl (fun c31 hs => ?_) (fun c31 hs => ?_)
 refine nG (aa (az h 2 rfl rD rfl rfl) (aa (ah (v := (I6 i17)) rfl) (aa (dQ rfl rfl e22r) ?_)))
 obtain ⟨x32, e33, hs⟩ := aL hs
 obtain ⟨b35, o36, cs37, h, r38, i34⟩ := h.Cn 1 9 rfl il rfl (aC e33).1 (aC e33).2
 obtain rfl := r38
 refine aa (i34 _ _ _ _ _ _ _ _ _ rfl rfl) (aa (fo (k := 0) h 9 rfl CZ rfl rfl) ?_)
 obtain ⟨y39, e40, hs⟩ := aL hs
 refine aW I1 rfl rfl (uT _ _ h.lt (hT.go h.keep) x32 _ e40) ?_
 rintro _ w ⟨k43, u41, rfl, g42⟩
 refine ⟨_, rfl, ?_⟩
 replace h := h.grow k43
 refine aa (ah (v := (.tuple #[(I6 y39.1), u41])) rfl) (aa (bg rfl rfl) (aa (bg rfl rfl) (aa (ae (v := (I6 y39.1)) rfl) (aa (ae (v := u41) rfl) (nJ (aa (az h 2 rfl rD rfl rfl) (aa (ah (v := (I6 i17)) rfl) ?_)))))))
 obtain ⟨a44, hs⟩ := bG hs
 refine aa (dQ rfl rfl a44) ?_
 obtain ⟨x45, e46, hs⟩ := aL hs
 obtain ⟨b48, o49, cs50, h, r51, i47⟩ := h.Cn 1 10 rfl il rfl (aC e46).1 (aC e46).2
 obtain rfl := r51
 refine aa (i47 _ _ _ _ _ _ _ _ _ rfl rfl) (aa (fo (k := 0) h 10 rfl CZ rfl rfl) ?_)
 obtain ⟨DY, e53, hs⟩ := aL hs
 refine aW I1 rfl rfl (uT _ _ h.lt (hT.go h.keep) x45 _ e53) ?_
 rintro _ w ⟨k56, u54, rfl, g55⟩
 refine ⟨_, rfl, ?_⟩
 replace h := h.grow k56
 refine aa (ah (v := (.tuple #[(I6 DY.1), u54])) rfl) (aa (bg rfl rfl) (aa (bg rfl rfl) (aa (ae (v := (I6 DY.1)) rfl) (aa (ae (v := u54) rfl) (nN (aD (aa (az h 3 rfl CY rfl rfl) (aa (ah (v := (I6 y39.1)) rfl) (aa (ah (v := (I6 DY.1)) rfl) (aa (fe (pv := [(0, (I6 y39.1)), (1, (I6 DY.1))]) (out := [(I6 y39.1), (I6 DY.1), (.slice none 0 0)]) WX rfl ⟨0, 1, [(I6 y39.1)], rfl, rfl, rfl, bD rfl, ⟨1, 1, [(I6 DY.1)], rfl, rfl, rfl, bD rfl, rfl⟩⟩) (sV (R := kY) (vs := [(.agg #[(I6 y39.1), (I6 DY.1), (.slice none 0 0)])]) (xs := [(⟨y39.1, DY.1, []⟩ : iO)]) h 11 Rz rfl rfl rfl ⟨⟨_, rfl, gB.nil⟩, trivial⟩ rfl fun w u57 h => ?_)))))))))))
 obtain ⟨a58, hs⟩ := bG hs
 refine mW (R := kY) (m := [(⟨y39.1, DY.1, []⟩ : iO)]) h 7 rfl (h.eT 11 rfl) Rz rfl rfl rfl a58.1 a58.2 fun w u59 h => gP h 3 [u59] rfl CY rfl rfl rfl rfl (h.dD 7 rfl).one fun w h => aA (ax (au ?_))
 exact bS (u59, (Ay ++ [(⟨y39.1, DY.1, []⟩ : iO)])) ⟨h.cn _, hs⟩
 refine aH (ax (au ?_))
 exact bS (v14, Ay) ⟨h.cn _, hs⟩
 refine aD (aa (ah (v := (aV AU)) rfl) (aa (JG rfl rfl) (aa (ah (v := (.bool (decide ((AU : Str) = [102, 117, 110])))) rfl) (gT (b := decide ((AU : Str) = [102, 117, 110])) hs (fun I9 hs => ?_) (fun I9 hs => ?_)))))
 refine cz rfl (cB I9) (aa (ah (v := (I6 i17)) rfl) (cz rfl (cB I9) ?_))
 obtain ⟨a61, hs⟩ := bG hs
 refine aa (dQ rfl rfl a61) (cz rfl (cB I9) (aa (az h 2 rfl rD rfl rfl) (cz rfl (cB I9) (aa (bM il rfl (h.kL 1 rfl)) (cz rfl (cB I9) (aa (eO rfl rfl) (aa (bY (b := true) (v := (.bool (decide (((i17 + 2) : Int) < (y1.length : Int))))) (cB I9) rfl) (aA (au ?_)))))))))
 exact bS (decide (((i17 + 2) : Int) < (y1.length : Int))) ⟨h.cn _, hs⟩
 refine mO rfl (cB I9) rfl (mO rfl (cB I9) rfl (mO rfl (cB I9) rfl (mO rfl (cB I9) rfl (mO rfl (cB I9) rfl (aa (bY (b := false) (v := (.bool (false))) (cB I9) rfl) (aA (au ?_)))))))
 exact bS false ⟨h.cn _, hs⟩
 rw [fH (hik ▸ e21), ll] at hs
 refine jl (bQ (bQ (fq (ak (aM (nG (aa (az h 3 rfl CY rfl rfl) (aa (bM kE rfl (h.eT 7 rfl)) (aa (bu rfl rfl) (aa (ah (v := (.bool (decide (((Ay.length : Int) : Int) = 0)))) rfl) (aF rfl rfl (fun q => az h 3 rfl CY rfl rfl) (aF rfl rfl (fun q => bM kE (eu q) (h.eT 7 rfl)) (aF rfl rfl (fun q => mV (eu q) rfl) (aa (jD rfl rfl mY) (nN (aI hs rfl (fun c62 hs => ?_) (fun c62 hs => ?_)))))))))))))))))
 refine nG (aa (ae (v := (.slice none 0 0)) rfl) (aa (ae (v := (I6 1)) rfl) (nR (ay (JC (v1 := (.slice none 0 0)) (v2 := (I6 1)) Tryz.results77 rfl rfl ?_)))))
 obtain rfl := fM hs
 exact ⟨h.grown, _, rfl, gW.nil, qO⟩
 refine aH (ak (aM (nG (aa (az h 3 rfl CY rfl rfl) (aa (bM kE rfl (h.eT 7 rfl)) (aa (ah (v := (I6 0)) rfl) (nN (aN ?_))))))))
 have hli64 := (h.eT 7 rfl).bT
 refine gD (σ := Nat × Int) (inl ([2, 3, 13] ++ rg 73 9)) (fun ⟨k63, i64⟩ => [(73, (I6 i64))]) (fun ⟨k63, i64⟩ w => SH w0 M BE w (hset [(1, .rd sO u3 y1), (2, .blk b6 [u3]), (3, .blk b7 [v14]), (7, .own kY 113 v14 Ay)]) ∧ i64 = (k63 : Int) ∧ upto (lZ Ay) (kg N y1 a Ay) i64 (((Ay.length : Int)).toNat - k63) () = some r) (fun ⟨k63, i64⟩ => ((Ay.length : Int)).toNat - k63) ⟨0, 0⟩ ⟨rfl, trivial⟩ ?_ ?_
 exact ⟨h.cn _, rfl, hs⟩
 rintro ⟨k63, i64⟩ w dR ⟨h, hik, hs⟩
 refine nG ?_
 refine aa (eO rfl rfl) (nN ?_)
 refine aM (gQ rfl (fun e68 => ?_) (fun e68 => ?_))
 refine aH (ak ?_)
 rw [sW (by have := oD e68; omega)] at hs
 generalize hnx67 : upto (lZ Ay) (kg N y1 a Ay) (i64 + 1) (((Ay.length : Int)).toNat - (k63 + 1)) = nx67 at hs
 have e69r : kJ (i64 + 1) := (by have := oD e68; have := hli64; exact kJ.mk (by omega) (by omega))
 refine aM (aN (nG ?_))
 obtain ⟨x70, TG, hs⟩ := aL hs
 obtain ⟨b73, q74, i72⟩ := h.rO 7 rfl kE rfl (aC TG).1 (aC TG).2
 refine aa (i72 _ _ _ _ _ _ _ _ _ rfl rfl) ?_
 obtain ⟨cs75, m76, r77⟩ := h.uQ 7 rfl q74 (aC TG).2
 obtain ⟨L8, rfl, g79⟩ := w9 r77
 replace h := h.dh 12 g79
 refine aa (kS (k := 0) (vs := [(I6 x70.params), (I6 x70.locals), L8]) m76 qi rfl rfl rfl (bD rfl)) (bI h 13 qi fun w b80 h => dK (vs := [(I6 x70.params), (I6 x70.locals), L8]) h 13 [(I6 x70.params), (I6 x70.locals), L8] rfl qi rfl rfl rfl rfl rfl (ai rfl (ai rfl (ai (h.iN 12 rfl).one aS))) fun w h => nJ (aa (ag zq rfl) (aa (az h 13 rfl aR rfl rfl) (aW rZ rfl rfl (eH _ _ h.lt x70.params 0 3 _ rfl) ?_))))
 rintro _ w ⟨k81, rfl⟩
 refine ⟨_, rfl, ?_⟩
 replace h := h.grow k81
 refine aa (fw rfl) (nN (aI hs rfl (fun c82 hs => ?_) (fun c82 hs => ?_)))
 refine nG (aa (ae (v := (.slice none 0 0)) rfl) (aa (ae (v := (I6 1)) rfl) (nR (aB (ay (ay (aB (ay (JC (v1 := (.slice none 0 0)) (v2 := (I6 1)) Tryz.results77 rfl rfl ?_)))))))))
 obtain rfl := fM hs
 exact ⟨h.grown, _, rfl, gW.nil, qO⟩
 refine aH (ax (ak (aD (aa (dQ rfl rfl e69r) (aa (ah (v := (I6 ((i64 + 1)))) rfl) (aA (au ?_)))))))
 subst hnx67
 exact jM ⟨k63 + 1, i64 + 1⟩ ⟨h.cn _, by omega, hs⟩ (by have := oD e68; dsimp only; omega)
 rw [sZ (by have := of_decide_eq_false e68; omega)] at hs
 refine nE (uj h 14 aR fun w La h => gP h 14 [(I6 0)] rfl aR rfl rfl rfl rfl rfl fun w h => nJ (uj h 15 BQ fun w CJ h => gP h 15 [(.bool (true))] rfl BQ rfl rfl rfl rfl rfl fun w h => nJ (aa (sU (c1 := []) (c2 := [(.pointer (some ⟨La, 0, none⟩)), (.pointer (some ⟨b6, 0, none⟩)), (.pointer (some ⟨CJ, 0, none⟩))]) rfl rfl) (uj h 16 Eb fun w MN h => gP h 16 [(.func (.func 103) #[] #[(.pointer (some ⟨La, 0, none⟩)), (.pointer (some ⟨b6, 0, none⟩)), (.pointer (some ⟨CJ, 0, none⟩))])] rfl Eb rfl rfl rfl rfl rfl fun w h => nN ?_))))
 refine nG (aa (sU (c1 := []) (c2 := [(.pointer (some ⟨CJ, 0, none⟩)), (.pointer (some ⟨MN, 0, none⟩)), (.pointer (some ⟨b7, 0, none⟩))]) rfl rfl) (uj h 17 Qt fun w Xm h => gP h 17 [(.func (.func 104) #[] #[(.pointer (some ⟨CJ, 0, none⟩)), (.pointer (some ⟨MN, 0, none⟩)), (.pointer (some ⟨b7, 0, none⟩))])] rfl Qt rfl rfl rfl rfl rfl fun w h => nJ (uj h 18 MJ fun w Uz h => nJ (aa (sU (c1 := []) (c2 := [(.pointer (some ⟨MN, 0, none⟩)), (.pointer (some ⟨CJ, 0, none⟩)), (.pointer (some ⟨Xm, 0, none⟩)), (.pointer (some ⟨Uz, 0, none⟩))]) rfl rfl) (gP h 18 [(.func (.func 109) #[] #[(.pointer (some ⟨MN, 0, none⟩)), (.pointer (some ⟨CJ, 0, none⟩)), (.pointer (some ⟨Xm, 0, none⟩)), (.pointer (some ⟨Uz, 0, none⟩))])] rfl MJ rfl rfl rfl rfl rfl fun w h => nK (aa (az h 3 rfl CY rfl rfl) (aa (bM kE rfl (h.eT 7 rfl)) (aa (ah (v := (I6 0)) rfl) ?_))))))))
 refine nN (aN ?_)
 have hli101 := (h.eT 7 rfl).bT
 refine gD (σ := Nat × Int × List iO × Int × Bool) (inl ([19] ++ rg 87 17)) (fun ⟨RU, i101, uZ, y98, y99⟩ => [(87, (I6 i101))]) (fun ⟨RU, i101, uZ, y98, y99⟩ w => SH w0 M BE w (hset [(1, .rd sO u3 y1), (2, .blk b6 [u3]), (3, .blk b7 [v14]), (7, .own kY 113 v14 uZ), (14, .blk La [(I6 y98)]), (15, .blk CJ [(.bool (y99))]), (16, .blk MN [(.func (.func 103) #[] #[(.pointer (some ⟨La, 0, none⟩)), (.pointer (some ⟨b6, 0, none⟩)), (.pointer (some ⟨CJ, 0, none⟩))])]), (17, .blk Xm [(.func (.func 104) #[] #[(.pointer (some ⟨CJ, 0, none⟩)), (.pointer (some ⟨MN, 0, none⟩)), (.pointer (some ⟨b7, 0, none⟩))])]), (18, .blk Uz [(.func (.func 109) #[] #[(.pointer (some ⟨MN, 0, none⟩)), (.pointer (some ⟨CJ, 0, none⟩)), (.pointer (some ⟨Xm, 0, none⟩)), (.pointer (some ⟨Uz, 0, none⟩))])])]) ∧ i101 = (RU : Int) ∧ upto (j6 N y1) (lY N y1 a) i101 (((Ay.length : Int)).toNat - RU) (uZ, y98, y99) = some r) (fun ⟨RU, i101, uZ, y98, y99⟩ => ((Ay.length : Int)).toNat - RU) ⟨0, 0, Ay, 0, true⟩ ⟨rfl, trivial⟩ ?_ ?_
 exact ⟨h.cn _, rfl, hs⟩
 rintro ⟨RU, i101, uZ, y98, y99⟩ w dR ⟨h, hik, hs⟩
 refine nG ?_
 refine aa (eO rfl rfl) (nN ?_)
 refine aM (gQ rfl (fun JR => ?_) (fun JR => ?_))
 refine aH (ak ?_)
 rw [sW (by have := oD JR; omega)] at hs
 generalize hnx104 : upto (j6 N y1) (lY N y1 a) (i101 + 1) (((Ay.length : Int)).toNat - (RU + 1)) = oU at hs
 have e106r : kJ (i101 + 1) := (by have := oD JR; have := hli101; exact kJ.mk (by omega) (by omega))
 refine aM (aN (nG (aa (ah (v := (I6 i101)) rfl) (aa (ae (v := (I6 i101)) rfl) (nN (cu (σ := Int × Bool) (inl [90, 91, 92]) (fun ⟨rE, QF⟩ => []) (fun ⟨rE, QF⟩ w => SH w0 M BE w (hset [(1, .rd sO u3 y1), (2, .blk b6 [u3]), (3, .blk b7 [v14]), (7, .own kY 113 v14 uZ), (14, .blk La [(I6 rE)]), (15, .blk CJ [(.bool (QF))]), (16, .blk MN [(.func (.func 103) #[] #[(.pointer (some ⟨La, 0, none⟩)), (.pointer (some ⟨b6, 0, none⟩)), (.pointer (some ⟨CJ, 0, none⟩))])]), (17, .blk Xm [(.func (.func 104) #[] #[(.pointer (some ⟨CJ, 0, none⟩)), (.pointer (some ⟨MN, 0, none⟩)), (.pointer (some ⟨b7, 0, none⟩))])]), (18, .blk Uz [(.func (.func 109) #[] #[(.pointer (some ⟨MN, 0, none⟩)), (.pointer (some ⟨CJ, 0, none⟩)), (.pointer (some ⟨Xm, 0, none⟩)), (.pointer (some ⟨Uz, 0, none⟩))])])]) ∧ j4 N y1 uZ i101 oU rE QF = some r) ?_ ?_))))))
 rintro ⟨rE, QF⟩ w dR ⟨h, hs⟩
 refine cu (σ := Int × Bool) (inl [93, 94]) (fun ⟨Cu, QE⟩ => []) (fun ⟨Cu, QE⟩ w => SH w0 M BE w (hset [(1, .rd sO u3 y1), (2, .blk b6 [u3]), (3, .blk b7 [v14]), (7, .own kY 113 v14 uZ), (14, .blk La [(I6 Cu)]), (15, .blk CJ [(.bool (QE))]), (16, .blk MN [(.func (.func 103) #[] #[(.pointer (some ⟨La, 0, none⟩)), (.pointer (some ⟨b6, 0, none⟩)), (.pointer (some ⟨CJ, 0, none⟩))])]), (17, .blk Xm [(.func (.func 104) #[] #[(.pointer (some ⟨CJ, 0, none⟩)), (.pointer (some ⟨MN, 0, none⟩)), (.pointer (some ⟨b7, 0, none⟩))])]), (18, .blk Uz [(.func (.func 109) #[] #[(.pointer (some ⟨MN, 0, none⟩)), (.pointer (some ⟨CJ, 0, none⟩)), (.pointer (some ⟨Xm, 0, none⟩)), (.pointer (some ⟨Uz, 0, none⟩))])])]) ∧ j3 N y1 uZ i101 oU Cu QE = some r) ?_ ?_
 rintro ⟨Cu, QE⟩ w dR ⟨h, hs⟩
 refine cu (σ := Int × Bool) (inl [95, 96]) (fun ⟨LC, y112⟩ => []) (fun ⟨LC, y112⟩ w => SH w0 M BE w (hset [(1, .rd sO u3 y1), (2, .blk b6 [u3]), (3, .blk b7 [v14]), (7, .own kY 113 v14 uZ), (14, .blk La [(I6 LC)]), (15, .blk CJ [(.bool (y112))]), (16, .blk MN [(.func (.func 103) #[] #[(.pointer (some ⟨La, 0, none⟩)), (.pointer (some ⟨b6, 0, none⟩)), (.pointer (some ⟨CJ, 0, none⟩))])]), (17, .blk Xm [(.func (.func 104) #[] #[(.pointer (some ⟨CJ, 0, none⟩)), (.pointer (some ⟨MN, 0, none⟩)), (.pointer (some ⟨b7, 0, none⟩))])]), (18, .blk Uz [(.func (.func 109) #[] #[(.pointer (some ⟨MN, 0, none⟩)), (.pointer (some ⟨CJ, 0, none⟩)), (.pointer (some ⟨Xm, 0, none⟩)), (.pointer (some ⟨Uz, 0, none⟩))])])]) ∧ jZ N y1 uZ i101 oU LC y112 = some r) ?_ ?_
 rintro ⟨LC, y112⟩ w dR ⟨h, hs⟩
 refine lq (L := (fun b => b = La ∨ b = CJ ∨ ob v14 b)) mixed h fun w h => bH 0 (aP.refl _ _) rfl aj (by kernel_rfl) (by kernel_rfl) (by kernel_rfl) (fun w hk => have h := h.Zv 14 15 7 (by decide) (by decide) (by decide) rfl rfl rfl hk; az h 3 rfl CY rfl rfl) (bH 1 (aP.refl _ _) rfl aj (by kernel_rfl) (by kernel_rfl) (by kernel_rfl) (fun w hk => ah (v := (I6 i101)) rfl) (bH 2 (aP.refl _ _) rfl aj (by kernel_rfl) (by kernel_rfl) (by kernel_rfl) (fun w hk => have h := h.Zv 14 15 7 (by decide) (by decide) (by decide) rfl rfl rfl hk; az h 18 rfl MJ rfl rfl) ?_))
 obtain ⟨ws123, ws123e⟩ : ∃ x, x = w := ⟨_, rfl⟩
 have Lb : aP (fun b => b = La ∨ b = CJ ∨ ob v14 b) ws123 w := ws123e ▸ aP.refl (fun b => b = La ∨ b = CJ ∨ ob v14 b) w
 refine rU ws123e.symm (bE 3 (by kernel_rfl) rfl aj ?_)
 replace h := h.pair 14 15 (by decide)
 obtain ⟨UA, UB, UC⟩ := h.Aj 14 (C := (.two (.blk La [(I6 LC)]) (.blk CJ [(.bool (y112))]) : Chunk)) rfl ⟨trivial, trivial⟩
 obtain ⟨nT, Xn, hs⟩ := aL hs
 refine aW Ql rfl rfl (Ux N _ _ UC (hT.go h.keep) La CJ b6 MN b7 Xm Uz (⟨LC, y112⟩ : gF) UA UB u3 y1 (h.TU 14 1 rfl rfl) v14 uZ (h.ownSr 14 7 (by decide) rfl rfl) (h.uO 2 rfl) (fun hb => h.apart 14 2 (by decide) _ hb rfl) (h.uO 16 rfl) (fun hb => h.apart 14 16 (by decide) _ hb rfl) (h.uO 3 rfl) (fun hb => h.apart 14 3 (by decide) _ hb rfl) (h.uO 17 rfl) (fun hb => h.apart 14 17 (by decide) _ hb rfl) (h.uO 18 rfl) (fun hb => h.apart 14 18 (by decide) _ hb rfl) 1 (h.Mt hT (fun _ h => h.elim) 14 (C := (.two (.blk La [(I6 LC)]) (.blk CJ [(.bool (y112))]) : Chunk)) rfl) _ Xn) ?_
 rintro _ w ⟨O0, uq122x3_4, rfl, Xo, Xp, Xq⟩
 refine ⟨_, rfl, ?_⟩
 replace h := h.back 14 (C := (.two (.blk La [(I6 LC)]) (.blk CJ [(.bool (y112))]) : Chunk)) (C' := (.two (.blk La [(I6 nT.2.at_)]) (.blk CJ [(.bool (nT.2.ok))]) : Chunk)) rfl ⟨trivial, trivial⟩ Xo O0 Xp
 replace h := h.dh 55 (JH Xq)
 replace h := h.cK 14 15 (by decide) rfl rfl
 replace Lb := aP.step Lb O0 (fun _ hx _ => hx.elim (fun hx => .inl (hx)) (fun hx => .inr (.inl (hx))))
 refine aA (aT Lb ?_)
 obtain ⟨AV, JS, hs⟩ := aL hs
 obtain ⟨bq122x4_4, Xr, Xt⟩ := h.rO 7 rfl kE rfl (aC JS).1 (aC JS).2
 refine dN 4 Lb rfl (by kernel_rfl) (fun w hk => Xt _ _ _ _ _ _ _ _ _ rfl rfl) (dN 5 Lb rfl (by kernel_rfl) (fun w hk => ag Fa rfl) (bE 6 (by kernel_rfl) rfl aj (Zj (a' := { AV with body := nT.1 }) h 7 rfl Xr rfl (aC JS).2 uz rfl rfl (h.iN 55 rfl).one rfl (by rintro _ hq; obtain ⟨p2, rfl, q2⟩ := w9 hq; exact ⟨_, rfl, (h.iN 55 rfl)⟩) fun w h Xu => ?_)))
 replace Lb := aP.step Lb Xu (fun _ hx _ => .inr (.inr (hx)))
 refine aA (aT Lb (gG (by kernel_rfl) (ax (ak (aD (aa (dQ rfl rfl e106r) (aa (ah (v := (I6 ((i101 + 1)))) rfl) (aA (au ?_)))))))))
 subst hnx104
 exact jM ⟨RU + 1, i101 + 1, (uZ.set (i101).toNat { AV with body := nT.1 }), nT.2.at_, nT.2.ok⟩ ⟨h.cn _, by omega, hs⟩ (by have := oD JR; dsimp only; omega)
 refine aD (aa (az h 16 rfl Eb rfl rfl) (jY (args := [(.pointer (some ⟨La, 0, none⟩)), (.pointer (some ⟨b6, 0, none⟩)), (.pointer (some ⟨CJ, 0, none⟩))]) D9 rfl rfl (aQ (args := [(.pointer (some ⟨La, 0, none⟩)), (.pointer (some ⟨b6, 0, none⟩)), (.pointer (some ⟨CJ, 0, none⟩))]) Tryz.func103 rfl Tryz.ntmps103 (bD rfl) (nG (aa (ae (v := (aV [])) rfl) (nK (aa (az h 14 rfl aR rfl rfl) (aa (az h 2 rfl rD rfl rfl) (aa (bM il rfl (h.kL 1 rfl)) (aa (rH rfl rfl) (nN (aI hs rfl (fun wQ hs => ?_) (fun wQ hs => ?_)))))))))))))
 refine nG (gP h 15 [(.bool (false))] rfl BQ rfl rfl rfl rfl rfl fun w h => nJ (aa (ae (v := (aV [])) rfl) (nR (ay (bR (v := (aV [])) Tryz.results103 rfl (⟨_, rfl, ?_⟩))))))
 refine aA (au ?_)
 exact bS (Cu, false) ⟨h.cn _, hs⟩
 refine nS (aa (az h 14 rfl aR rfl rfl) ?_)
 obtain ⟨a126, hs⟩ := bG hs
 refine aa (dQ rfl rfl a126) (gP h 14 [(I6 ((Cu + 1)))] rfl aR rfl rfl rfl rfl rfl fun w h => nJ (aa (az h 2 rfl rD rfl rfl) (aa (az h 14 rfl aR rfl rfl) ?_)))
 obtain ⟨a127, hs⟩ := bG hs
 refine aa (oh rfl rfl a127) ?_
 obtain ⟨x128, e129, hs⟩ := aL hs
 obtain ⟨b131, o132, cs133, h, r134, i130⟩ := h.Cn 1 115 rfl il rfl (aC e129).1 (aC e129).2
 obtain rfl := r134
 refine aa (i130 _ _ _ _ _ _ _ _ _ rfl rfl) (aa (fo (k := 0) h 115 rfl CZ rfl rfl) (aa (ae (v := (aV x128)) rfl) (nR (bR (v := (aV x128)) Tryz.results103 rfl (⟨_, rfl, ?_⟩)))))
 refine aA (au ?_)
 exact bS ((Cu + 1), QE) ⟨h.cn _, hs⟩
 refine aD (aa (az h 16 rfl Eb rfl rfl) (jY (args := [(.pointer (some ⟨La, 0, none⟩)), (.pointer (some ⟨b6, 0, none⟩)), (.pointer (some ⟨CJ, 0, none⟩))]) D9 rfl rfl (aQ (args := [(.pointer (some ⟨La, 0, none⟩)), (.pointer (some ⟨b6, 0, none⟩)), (.pointer (some ⟨CJ, 0, none⟩))]) Tryz.func103 rfl Tryz.ntmps103 (bD rfl) (nG (aa (ae (v := (aV [])) rfl) (nK (aa (az h 14 rfl aR rfl rfl) (aa (az h 2 rfl rD rfl rfl) (aa (bM il rfl (h.kL 1 rfl)) (aa (rH rfl rfl) (nN (aI hs rfl (fun c135 hs => ?_) (fun c135 hs => ?_)))))))))))))
 refine nG (gP h 15 [(.bool (false))] rfl BQ rfl rfl rfl rfl rfl fun w h => nJ (aa (ae (v := (aV [])) rfl) (nR (ay (bR (v := (aV [])) Tryz.results103 rfl (⟨_, rfl, ?_⟩))))))
 refine aA (au ?_)
 exact bS (rE, false) ⟨h.cn _, hs⟩
 refine nS (aa (az h 14 rfl aR rfl rfl) ?_)
 obtain ⟨a136, hs⟩ := bG hs
 refine aa (dQ rfl rfl a136) (gP h 14 [(I6 ((rE + 1)))] rfl aR rfl rfl rfl rfl rfl fun w h => nJ (aa (az h 2 rfl rD rfl rfl) (aa (az h 14 rfl aR rfl rfl) ?_)))
 obtain ⟨a137, hs⟩ := bG hs
 refine aa (oh rfl rfl a137) ?_
 obtain ⟨sj, Xv, hs⟩ := aL hs
 obtain ⟨b141, o142, cs143, h, r144, i140⟩ := h.Cn 1 116 rfl il rfl (aC Xv).1 (aC Xv).2
 obtain rfl := r144
 refine aa (i140 _ _ _ _ _ _ _ _ _ rfl rfl) (aa (fo (k := 0) h 116 rfl CZ rfl rfl) (aa (ae (v := (aV sj)) rfl) (nR (bR (v := (aV sj)) Tryz.results103 rfl (⟨_, rfl, ?_⟩)))))
 refine aA (au ?_)
 exact bS ((rE + 1), QF) ⟨h.cn _, hs⟩
 refine cu (σ := Bool × Int × Bool) (inl [90, 91, 92]) (fun ⟨RS, LD, QG⟩ => [(92, (.bool (RS)))]) (fun ⟨RS, LD, QG⟩ w => SH w0 M BE w (hset [(1, .rd sO u3 y1), (2, .blk b6 [u3]), (3, .blk b7 [v14]), (7, .own kY 113 v14 uZ), (14, .blk La [(I6 LD)]), (15, .blk CJ [(.bool (QG))]), (16, .blk MN [(.func (.func 103) #[] #[(.pointer (some ⟨La, 0, none⟩)), (.pointer (some ⟨b6, 0, none⟩)), (.pointer (some ⟨CJ, 0, none⟩))])]), (17, .blk Xm [(.func (.func 104) #[] #[(.pointer (some ⟨CJ, 0, none⟩)), (.pointer (some ⟨MN, 0, none⟩)), (.pointer (some ⟨b7, 0, none⟩))])]), (18, .blk Uz [(.func (.func 109) #[] #[(.pointer (some ⟨MN, 0, none⟩)), (.pointer (some ⟨CJ, 0, none⟩)), (.pointer (some ⟨Xm, 0, none⟩)), (.pointer (some ⟨Uz, 0, none⟩))])])]) ∧ j5 N y1 uZ i101 oU RS LD QG = some r) ?_ ?_
 rintro ⟨RS, LD, QG⟩ w dR ⟨h, hs⟩
 refine aI hs rfl (fun c148 hs => ?_) (fun c148 hs => ?_)
 refine aD (gP h 15 [(.bool (false))] rfl BQ rfl rfl rfl rfl rfl fun w h => aA (au ?_))
 exact bS (LD, false) ⟨h.cn _, hs⟩
 refine aH (au ?_)
 exact bS (LD, QG) ⟨h.cn _, hs⟩
 refine aD (aa (az h 16 rfl Eb rfl rfl) (jY (args := [(.pointer (some ⟨La, 0, none⟩)), (.pointer (some ⟨b6, 0, none⟩)), (.pointer (some ⟨CJ, 0, none⟩))]) D9 rfl rfl (aQ (args := [(.pointer (some ⟨La, 0, none⟩)), (.pointer (some ⟨b6, 0, none⟩)), (.pointer (some ⟨CJ, 0, none⟩))]) Tryz.func103 rfl Tryz.ntmps103 (bD rfl) (nG (aa (ae (v := (aV [])) rfl) (nK (aa (az h 14 rfl aR rfl rfl) (aa (az h 2 rfl rD rfl rfl) (aa (bM il rfl (h.kL 1 rfl)) (aa (rH rfl rfl) (nN (aI hs rfl (fun c149 hs => ?_) (fun c149 hs => ?_)))))))))))))
 refine nG (gP h 15 [(.bool (false))] rfl BQ rfl rfl rfl rfl rfl fun w h => nJ (aa (ae (v := (aV [])) rfl) (nR (ay (bR (v := (aV [])) Tryz.results103 rfl (⟨_, rfl, ?_⟩))))))
 refine aa (Mr rfl rfl) (aA (au ?_))
 exact bS (true, y98, false) ⟨h.cn _, hs⟩
 refine nS (aa (az h 14 rfl aR rfl rfl) ?_)
 obtain ⟨a150, hs⟩ := bG hs
 refine aa (dQ rfl rfl a150) (gP h 14 [(I6 ((y98 + 1)))] rfl aR rfl rfl rfl rfl rfl fun w h => nJ (aa (az h 2 rfl rD rfl rfl) (aa (az h 14 rfl aR rfl rfl) ?_)))
 obtain ⟨a151, hs⟩ := bG hs
 refine aa (oh rfl rfl a151) ?_
 obtain ⟨x152, e153, hs⟩ := aL hs
 obtain ⟨b155, o156, cs157, h, r158, i154⟩ := h.Cn 1 117 rfl il rfl (aC e153).1 (aC e153).2
 obtain rfl := r158
 refine aa (i154 _ _ _ _ _ _ _ _ _ rfl rfl) (aa (fo (k := 0) h 117 rfl CZ rfl rfl) (aa (ae (v := (aV x152)) rfl) (nR (bR (v := (aV x152)) Tryz.results103 rfl (⟨_, rfl, ?_⟩)))))
 refine aa (Mr rfl rfl) (aA (au ?_))
 exact bS (decide ((x152 : Str) ≠ [102, 117, 110]), (y98 + 1), y99) ⟨h.cn _, hs⟩
 rw [sZ (by have := of_decide_eq_false JR; omega)] at hs
 refine jl (bQ (bQ (fq (ak (aM (cu (σ := Bool) (inl (rg 104 19)) (fun x159 => [(122, (.bool (x159)))]) (fun x159 w => SH w0 M BE w (hset [(3, .blk b7 [v14]), (7, .own kY 113 v14 uZ)]) ∧ lX uZ x159 = some r) ?_ ?_))))))
 rintro x159 w dR ⟨h, hs⟩
 refine aI hs rfl (fun c160 hs => ?_) (fun c160 hs => ?_)
 refine nG (aa (ae (v := (.slice none 0 0)) rfl) (aa (ae (v := (I6 1)) rfl) (nR (ay (JC (v1 := (.slice none 0 0)) (v2 := (I6 1)) Tryz.results77 rfl rfl ?_)))))
 obtain rfl := fM hs
 exact ⟨h.grown, _, rfl, gW.nil, qO⟩
 refine nS (aa (az h 3 rfl CY rfl rfl) (aa (ae (v := v14) rfl) (aa (ae (v := (I6 0)) rfl) (nR (JC (v1 := v14) (v2 := (I6 0)) Tryz.results77 rfl rfl ?_)))))
 obtain rfl := fM hs
 exact ⟨h.grown, _, rfl, (h.lQ 7 rfl).1, (h.lQ 7 rfl).2⟩
 refine aD (aa (az h 15 rfl BQ rfl rfl) (aa (fw rfl) (aa (ah (v := (.bool ((!y99)))) rfl) (aF rfl rfl (fun q => az h 14 rfl aR rfl rfl) (aF rfl rfl (fun q => az h 2 rfl rD rfl rfl) (aF rfl rfl (fun q => bM il (eu q) (h.kL 1 rfl)) (aF rfl rfl (fun q => eO (eu q) (eu q)) (aa (jD rfl rfl mY) (aa (ah (v := (.bool (((!y99) || decide ((y98 : Int) < (y1.length : Int)))))) rfl) (gT (b := ((!y99) || decide ((y98 : Int) < (y1.length : Int)))) hs (fun QH hs => ?_) (fun QH hs => ?_)))))))))))
 refine OT rfl (cB QH) rfl (OT rfl (cB QH) rfl (OT rfl (cB QH) rfl (aa (bY (b := true) (v := (.bool (true))) (cB QH) rfl) (aa (ah (v := (.bool (true))) rfl) (fK (b' := true) rfl rfl rfl (fK (b' := true) rfl rfl rfl (fK (b' := true) rfl rfl rfl (fK (b' := true) rfl rfl rfl (aa (bY (b := true) (v := (.bool (true))) rfl rfl) (aA (au ?_)))))))))))
 exact bS true ⟨h.cn _, hs⟩
 refine cz rfl (cB QH) (aa (az h 3 rfl CY rfl rfl) (cz rfl (cB QH) ?_))
 obtain ⟨y162, e163, hs⟩ := aL hs
 refine aW fnOk112 rfl rfl (BR N _ _ h.lt v14 uZ (h.eT 7 rfl) _ e163) ?_
 rintro _ w ⟨k164, rfl⟩
 refine ⟨_, rfl, ?_⟩
 replace h := h.grow k164
 refine cz rfl (cB QH) (aa (gM rfl rfl) (aa (bY (b := false) (v := (.bool (decide ((y162 : Int) ≠ 0)))) (cB QH) rfl) (aa (ah (v := (.bool (decide ((y162 : Int) ≠ 0)))) rfl) (gT (b := decide ((y162 : Int) ≠ 0)) hs (fun MU hs => ?_) (fun MU hs => ?_)))))
 refine OT rfl (cB MU) rfl (OT rfl (cB MU) rfl (OT rfl (cB MU) rfl (OT rfl (cB MU) rfl (aa (bY (b := true) (v := (.bool (true))) (cB MU) rfl) (aA (au ?_))))))
 exact bS true ⟨h.cn _, hs⟩
 refine cz rfl (cB MU) (aa (az h 3 rfl CY rfl rfl) (cz rfl (cB MU) ?_))
 obtain ⟨y166, e167, hs⟩ := aL hs
 refine aW fnOk113 rfl rfl (Cs N _ _ h.lt (hT.go h.keep) v14 uZ (h.eT 7 rfl) _ e167) ?_
 rintro _ w ⟨k168, rfl⟩
 refine ⟨_, rfl, ?_⟩
 replace h := h.grow k168
 refine cz rfl (cB MU) (aa (ah (v := (aV a)) rfl) (cz rfl (cB MU) (aa (Mr rfl rfl) (aa (bY (b := false) (v := (.bool (decide ((y166 : Str) ≠ a)))) (cB MU) rfl) (aA (au ?_))))))
 exact bS (decide ((y166 : Str) ≠ a)) ⟨h.cn _, hs⟩
def oo (N : Nat) : Option (List iO) :=
  (oG N [102, 117, 110, 32, 48, 32, 49, 32, 123, 32, 115, 101, 116, 32, 48, 32, 51, 32, 119, 104, 105, 108, 101, 32, 118, 48, 32, 123, 32, 115, 97, 121, 32, 102, 49, 32, 118, 48, 32, 118, 48, 32, 103, 111, 32, 118, 48, 32, 112, 97, 117, 115, 101, 32, 115, 101, 116, 32, 48, 32, 45, 32, 118, 48, 32, 49, 32, 125, 32, 125, 32, 102, 117, 110, 32, 50, 32, 50, 32, 123, 32, 114, 101, 116, 117, 114, 110, 32, 42, 32, 118, 48, 32, 118, 49, 32, 125]).bind fun y1 => some y1.1
theorem EL (N : Nat) (w0 : World) (M : BS) (hM : ∀ b, M b → b < w0.heap.size) (hT : zo Tryz.prog 4 w0)  (r : List iO) (hs : oo N = some r) :
    Calls Tryz.prog 40 #[] w0 (fun e w' => Grow w0 w' ∧ ∃ u0, e = .returned (u0) ∧ gW kY 113 w' M u0 r ∧ (∀ b, ob u0 b → w0.heap.size ≤ b)) := by
 refine aQ (args := []) Tryz.func40 rfl Tryz.ntmps40 (bD rfl) ?_
 have h := SH.init hM
 refine nG (aa (ae (v := (.slice none 0 0)) rfl) (nJ ?_))
 obtain ⟨y1, e2, hs⟩ := aL hs
 refine aW fnOk77 rfl rfl (Cv N _ _ h.lt (hT.go h.keep) [102, 117, 110, 32, 48, 32, 49, 32, 123, 32, 115, 101, 116, 32, 48, 32, 51, 32, 119, 104, 105, 108, 101, 32, 118, 48, 32, 123, 32, 115, 97, 121, 32, 102, 49, 32, 118, 48, 32, 118, 48, 32, 103, 111, 32, 118, 48, 32, 112, 97, 117, 115, 101, 32, 115, 101, 116, 32, 48, 32, 45, 32, 118, 48, 32, 49, 32, 125, 32, 125, 32, 102, 117, 110, 32, 50, 32, 50, 32, 123, 32, 114, 101, 116, 117, 114, 110, 32, 42, 32, 118, 48, 32, 118, 49, 32, 125] _ e2) ?_
 rintro _ w ⟨k6, u3, rfl, g4, g5⟩
 refine ⟨_, rfl, ?_⟩
 replace h := h.nz 1 k6 g4 g5
 refine aa (ah (v := (.tuple #[u3, (I6 y1.2)])) rfl) (aa (bg rfl rfl) (aa (bg rfl rfl) (aa (ae (v := u3) rfl) (aa (ae (v := (I6 y1.2)) rfl) (nJ (aa (ah (v := u3) rfl) (aa (ae (v := u3) rfl) (nR (bR (v := u3) Tryz.results40 rfl ?_)))))))))
 obtain rfl := fM hs
 exact ⟨h.grown, _, rfl, (h.lQ 1 rfl).1, (h.lQ 1 rfl).2⟩
def iY (x31 : List Ins) (c : Int) (x34 : Int) (DZ : Int) (N8 : Int) (wu : Int) (Gf : List Int) : Option (List Ins × Int) :=
  iK (Room 56 x31 [(⟨DZ, c, N8, wu, Gf⟩ : Ins)]) (some ((x31 ++ [(⟨DZ, c, N8, wu, Gf⟩ : Ins)]), x34))
def uC (F0 : List Tok → List iO → Int → Option (List Ins × Int)) (y9 : Int) (a : List Tok) (c : Int) (b : List iO) (x1 : Tok) (s : List Ins × List Int × Int × Int) (nx40 : List Ins × List Int × Int × Int → Option (List Ins × Int)) : Option (List Ins × Int) :=
  match s with | (x31, Da, x34, CF) => bif decide ((CF : Int) < y9) then (sub? a x34 (a.length : Int)).bind fun zZ => iK (kJ (c + CF)) ((F0 zZ b (c + CF)).bind fun wo => iK (Room 56 x31 wo.1) (iK (kJ (x34 + wo.2)) (iK (kJ (c + CF)) (iK (Room 8 Da [(c + CF)]) (iK (kJ (CF + 1)) (nx40 ((x31 ++ wo.1), (Da ++ [(c + CF)]), (x34 + wo.2), (CF + 1)))))))) else bif decide ((x1.kind : Int) = 1) then iY x31 c x34 1 x1.n 0 [] else bif decide ((x1.kind : Int) = 2) then iY x31 c x34 2 x1.n 0 [] else bif decide ((x1.kind : Int) = 5) then iY x31 c x34 5 x1.n 0 [] else bif decide ((x1.kind : Int) = 3) then iK (kJ (c + 1)) (iY x31 c x34 3 c (c + 1) [x1.n]) else bif decide ((x1.kind : Int) = 4) then iY x31 c x34 4 c x1.n [] else bif decide ((x1.kind : Int) = 6) then iY x31 c x34 7 x1.n 0 Da else iY x31 c x34 0 x1.n 0 []
def zF (N : Nat) (F0 : List Tok → List iO → Int → Option (List Ins × Int)) (a : List Tok) (b : List iO) (c : Int) : Option (List Ins × Int) :=
  (idx a 0).bind fun x1 => (vL x1 b).bind fun y9 => again (uC F0 y9 a c b x1) N ([], [], 1, 0)
def mQ : Nat → List Tok → List iO → Int → Option (List Ins × Int)
  | 0 => fun _ _ _ => none
  | N + 1 => zF N (mQ N)
theorem zG : ∀ (N : Nat) (w0 : World) (M : BS) (hM : ∀ b, M b → b < w0.heap.size) (va : Value) (a : List Tok) (ha : gB oz w0 BE M va a) (vb : Value) (b : List iO) (hb : gB kY w0 BE M vb b) (c : Int) (r : List Ins × Int) (hs : mQ N a b c = some r),
    Calls Tryz.prog 100 #[va, vb, (I6 c)] w0 (fun e w' => Grow w0 w' ∧ ∃ u0, e = .returned (.tuple #[u0, .int .i64 r.2]) ∧ gW kU 93 w' M u0 r.1 ∧ (∀ b, ob u0 b → w0.heap.size ≤ b)) := by
 intro N
 induction N with
 | zero => intro w0 M hM va a ha vb b hb c r hs; cases hs
 | succ N ih =>
 intro w0 M hM va a ha vb b hb c r hs
 replace hs : zF N (mQ N) a b c = some r := hs
 generalize mQ N = F0 at hs ih
 refine aQ (args := [va, vb, (I6 c)]) Tryz.func100 rfl Tryz.ntmps100 (bD rfl) ?_
 have h := SH.init hM
 replace h := h.fE 1 ha bA
 replace h := h.fE 2 hb (bN bA)
 have uU := ha.bT
 have ML := hb.bT
 refine nG (aa (ae (v := (.slice none 0 0)) rfl) (aa (ae (v := (I6 0)) rfl) (nJ (aa (ah (v := va) rfl) ?_))))
 obtain ⟨x1, e2, hs⟩ := aL hs
 obtain ⟨b4, o5, cs6, h, r7, i3⟩ := h.xI 1 3 rfl nZ rfl (aC e2).1 (aC e2).2
 obtain rfl := r7
 refine aa (i3 _ _ _ _ _ _ _ _ _ rfl rfl) (aa (jc (k := 0) (vs := [(I6 x1.kind), (I6 x1.n)]) h 3 rfl nQ rfl rfl rfl (bD rfl)) (bI h 4 nQ fun w b8 h => dK (vs := [(I6 x1.kind), (I6 x1.n)]) h 4 [(I6 x1.kind), (I6 x1.n)] rfl nQ rfl rfl rfl rfl rfl (ai rfl (ai rfl aS)) fun w h => nJ (aa (ae (v := (.slice none 0 0)) rfl) (nJ (aa (ae (v := (.slice none 0 0)) rfl) (nJ (aa (ae (v := (I6 1)) rfl) (nK ?_))))))))
 refine aa (bU (vs := [(I6 x1.kind), (I6 x1.n)]) h 4 rfl nQ rfl rfl rfl) (aa (ah (v := vb) rfl) ?_)
 obtain ⟨y9, e10, hs⟩ := aL hs
 refine aW Qk rfl rfl (wO _ _ h.lt x1 vb b (h.gV 2 rfl) _ e10) ?_
 rintro _ w ⟨k11, rfl⟩
 refine ⟨_, rfl, ?_⟩
 replace h := h.grow k11
 refine aa (ah (v := (I6 0)) rfl) (nN (aN ?_))
 replace h := h.yH (R := kU) (E := 93) 11
 replace h := h.yH (R := eY) (E := 3) 12
 refine gD (σ := Nat × Value × List Ins × Value × List Int × Int × Int) (inl (rg 9 6 ++ rg 22 27)) (fun ⟨m39, v30, x31, v32, Da, x34, CF⟩ => [(9, v30), (10, v32), (11, (I6 x34)), (22, (I6 CF))]) (fun ⟨m39, v30, x31, v32, Da, x34, CF⟩ w => SH w0 M BE w (hset [(1, .sr oz va a), (2, .sr kY vb b), (4, .blk b8 [(I6 x1.kind), (I6 x1.n)]), (11, .own kU 93 v30 x31), (12, .own eY 3 v32 Da)]) ∧ again (uC F0 y9 a c b x1) m39 (x31, Da, x34, CF) = some r) (fun ⟨m39, v30, x31, v32, Da, x34, CF⟩ => m39) ⟨N, (.slice none 0 0), [], (.slice none 0 0), [], 1, 0⟩ ⟨rfl, rfl, rfl, rfl, trivial⟩ ?_ ?_
 exact ⟨h.cn _, hs⟩
 rintro ⟨m39, v30, x31, v32, Da, x34, CF⟩ w dR ⟨h, hs⟩
 obtain ⟨m391, m39e, m39h⟩ := uq hs
 subst m39e
 replace hs := m39h
 generalize hnx40 : again (uC F0 y9 a c b x1) m391 = nx40 at hs
 refine nG (aa (eO rfl rfl) (nN (aM (aI hs rfl (fun c43 hs => ?_) (fun c43 hs => ?_)))))
 refine aH (ak (aM (aN (nG (aa (ah (v := (I6 CF)) rfl) (aa (ae (v := (I6 CF)) rfl) (nJ (aa (ah (v := va) rfl) (aa (ah (v := (I6 x34)) rfl) ?_)))))))))
 obtain ⟨zZ, e45, hs⟩ := aL hs
 obtain ⟨e48, e48a, e48b, e48c⟩ := VB e45
 obtain ⟨u46, h, i47⟩ := h.slS 1 13 rfl nZ rfl e48a e48b e48c
 rw [← e48] at h
 refine aa (i47 _ _ _ _ _ _ _ _ _ _ rfl (.inr (congrArg some rfl)) (.inl ⟨rfl, rfl⟩)) (aa (ah (v := vb) rfl) (aa (ah (v := (I6 c)) rfl) (aa (ah (v := (I6 CF)) rfl) ?_)))
 obtain ⟨a49, hs⟩ := bG hs
 refine aa (dQ rfl rfl a49) ?_
 obtain ⟨wo, e51, hs⟩ := aL hs
 refine aW Qi rfl rfl (ih _ _ h.lt u46 zZ (h.gV 13 rfl) vb b (h.gV 2 rfl) (c + CF) _ e51) ?_
 rintro _ w ⟨k55, u52, rfl, g53, g54⟩
 refine ⟨_, rfl, ?_⟩
 replace h := h.nz 14 k55 g53 g54
 refine aa (ah (v := (.tuple #[u52, (I6 wo.2)])) rfl) (aa (bg rfl rfl) (aa (bg rfl rfl) (aa (ae (v := u52) rfl) (aa (ae (v := (I6 wo.2)) rfl) (nN (aD (aa (ah (v := v30) rfl) (aa (ah (v := u52) rfl) ?_))))))))
 obtain ⟨a56, hs⟩ := bG hs
 refine mW (R := kU) (m := wo.1) h 11 rfl (h.eT 14 rfl) iH rfl rfl rfl a56.1 a56.2 fun w u57 h => aa (ah (v := (I6 x34)) rfl) (aa (ah (v := (I6 wo.2)) rfl) ?_)
 obtain ⟨a58, hs⟩ := bG hs
 refine aa (dQ rfl rfl a58) (aa (ah (v := v32) rfl) (aa (ah (v := (I6 c)) rfl) (aa (ah (v := (I6 CF)) rfl) ?_)))
 obtain ⟨a59, hs⟩ := bG hs
 refine aa (dQ rfl rfl a59) (sV (R := eY) (vs := [(I6 ((c + CF)))]) (xs := [(c + CF)]) h 15 kI rfl rfl rfl ⟨rfl, trivial⟩ rfl fun w u60 h => ?_)
 obtain ⟨a61, hs⟩ := bG hs
 refine mW (R := eY) (m := [(c + CF)]) h 12 rfl (h.eT 15 rfl) kI rfl rfl rfl a61.1 a61.2 fun w u62 h => aa (ae (v := u57) rfl) (aa (ae (v := (I6 ((x34 + wo.2)))) rfl) (aa (ae (v := u62) rfl) (aA (ax (ak (aD ?_))))))
 obtain ⟨a63, hs⟩ := bG hs
 refine aa (dQ rfl rfl a63) (aa (ah (v := (I6 ((CF + 1)))) rfl) (aA (au ?_)))
 subst hnx40
 exact jM ⟨m391, u57, (x31 ++ wo.1), u62, (Da ++ [(c + CF)]), (x34 + wo.2), (CF + 1)⟩ ⟨h.cn _, hs⟩
 refine nE (aa (ah (v := (I6 c)) rfl) (aa (ag rY rfl) (aa (az h 4 rfl aR rfl rfl) (aa (fe (pv := [(1, (I6 c)), (2, (I6 x1.n))]) (out := [(I6 0), (I6 c), (I6 x1.n), (I6 0), (.slice none 0 0)]) qW rfl ⟨1, 1, [(I6 c)], rfl, rfl, rfl, bD rfl, ⟨2, 1, [(I6 x1.n)], rfl, rfl, rfl, bD rfl, rfl⟩⟩) (bI h 16 oF fun w b64 h => dK (vs := [(I6 0), (I6 c), (I6 x1.n), (I6 0), (.slice none 0 0)]) h 16 [(I6 0), (I6 c), (I6 x1.n), (I6 0), (.slice none 0 0)] rfl oF rfl rfl rfl rfl rfl (ai rfl (ai rfl (ai rfl (ai rfl (ai rfl aS))))) fun w h => nN (cu (σ := Int × Int × Int × Value × List Int) (inl (rg 53 33)) (fun ⟨DZ, N8, wu, v68, Gf⟩ => []) (fun ⟨DZ, N8, wu, v68, Gf⟩ w => SH w0 M BE w (hset [(11, .own kU 93 v30 x31), (16, .blk b64 [(I6 DZ), (I6 c), (I6 N8), (I6 wu), v68]), (17, .own eY 3 v68 Gf)]) ∧ iY x31 c x34 DZ N8 wu Gf = some r) ?_ ?_))))))
 rintro ⟨DZ, N8, wu, v68, Gf⟩ w dR ⟨h, hs⟩
 refine nG (aa (ah (v := v30) rfl) (aa (bU (vs := [(I6 DZ), (I6 c), (I6 N8), (I6 wu), v68]) h 16 rfl oF rfl rfl rfl) ?_))
 replace h := h.freeze 17 rfl
 refine sV (R := kU) (vs := [(.agg #[(I6 DZ), (I6 c), (I6 N8), (I6 wu), v68])]) (xs := [(⟨DZ, c, N8, wu, Gf⟩ : Ins)]) h 18 iH rfl rfl rfl ⟨⟨_, rfl, (h.iN 17 rfl)⟩, trivial⟩ rfl fun w u70 h => ?_
 obtain ⟨a71, hs⟩ := bG hs
 refine mW (R := kU) (m := [(⟨DZ, c, N8, wu, Gf⟩ : Ins)]) h 11 rfl (h.eT 18 rfl) iH rfl rfl rfl a71.1 a71.2 fun w u72 h => aa (ah (v := (I6 x34)) rfl) (aa (ae (v := u72) rfl) (aa (ae (v := (I6 x34)) rfl) (nR (JC (v1 := u72) (v2 := (I6 x34)) Tryz.results100 rfl rfl ?_))))
 obtain rfl := fM hs
 exact ⟨h.grown, _, rfl, (h.lQ 11 rfl).1, (h.lQ 11 rfl).2⟩
 refine nG (aa (ag IZ rfl) (aa (az h 4 rfl aR rfl rfl) (nN (aN (nG (aa (bu rfl rfl) (aa (ae (v := (.bool (decide ((x1.kind : Int) = 1)))) rfl) (nN (aI hs rfl (fun c73 hs => ?_) (fun c73 hs => ?_))))))))))
 refine aD (aa (ag ni rfl) (gP h 16 [(I6 1), (I6 c), (I6 x1.n), (I6 0), (.slice none 0 0)] rfl aR rfl rfl rfl rfl rfl fun w h => aA (ax (au ?_))))
 replace h := h.yH (R := eY) (E := 3) 17
 exact bS (1, x1.n, 0, (.slice none 0 0), []) ⟨h.cn _, hs⟩
 refine nG (aa (bu rfl rfl) (aa (ae (v := (.bool (decide ((x1.kind : Int) = 2)))) rfl) (nN (aI hs rfl (fun c74 hs => ?_) (fun c74 hs => ?_)))))
 refine aD (aa (ag ni rfl) (gP h 16 [(I6 2), (I6 c), (I6 x1.n), (I6 0), (.slice none 0 0)] rfl aR rfl rfl rfl rfl rfl fun w h => aA (ax (au ?_))))
 replace h := h.yH (R := eY) (E := 3) 17
 exact bS (2, x1.n, 0, (.slice none 0 0), []) ⟨h.cn _, hs⟩
 refine nG (aa (bu rfl rfl) (aa (ae (v := (.bool (decide ((x1.kind : Int) = 5)))) rfl) (nN (aI hs rfl (fun c75 hs => ?_) (fun c75 hs => ?_)))))
 refine aD (aa (ag ni rfl) (gP h 16 [(I6 5), (I6 c), (I6 x1.n), (I6 0), (.slice none 0 0)] rfl aR rfl rfl rfl rfl rfl fun w h => aA (ax (au ?_))))
 replace h := h.yH (R := eY) (E := 3) 17
 exact bS (5, x1.n, 0, (.slice none 0 0), []) ⟨h.cn _, hs⟩
 refine nG (aa (bu rfl rfl) (aa (ae (v := (.bool (decide ((x1.kind : Int) = 3)))) rfl) (nN (aI hs rfl (fun c76 hs => ?_) (fun c76 hs => ?_)))))
 refine aD (aa (ah (v := (I6 c)) rfl) (aa (ah (v := (I6 c)) rfl) (aa (ah (v := (I6 c)) rfl) ?_)))
 obtain ⟨a77, hs⟩ := bG hs
 refine aa (dQ rfl rfl a77) (aa (ag rY rfl) (aa (az h 4 rfl aR rfl rfl) (sV (R := eY) (vs := [(I6 x1.n)]) (xs := [x1.n]) h 19 kI rfl rfl rfl ⟨rfl, trivial⟩ rfl fun w L8 h => aa (fe (pv := [(0, (I6 3)), (1, (I6 c)), (2, (I6 c)), (3, (I6 ((c + 1)))), (4, L8)]) (out := [(I6 3), (I6 c), (I6 c), (I6 ((c + 1))), L8]) qW rfl ⟨0, 1, [(I6 3)], rfl, rfl, rfl, bD rfl, ⟨1, 1, [(I6 c)], rfl, rfl, rfl, bD rfl, ⟨2, 1, [(I6 c)], rfl, rfl, rfl, bD rfl, ⟨3, 1, [(I6 ((c + 1)))], rfl, rfl, rfl, bD rfl, ⟨4, 1, [L8], rfl, (gH (h.dD 19 rfl).one), rfl, bD rfl, rfl⟩⟩⟩⟩⟩) (dK (vs := [(I6 3), (I6 c), (I6 c), (I6 ((c + 1))), L8]) h 16 [(I6 3), (I6 c), (I6 c), (I6 ((c + 1))), L8] rfl oF rfl rfl rfl rfl rfl (ai rfl (ai rfl (ai rfl (ai rfl (ai (h.dD 19 rfl).one aS))))) fun w h => aA (ax (au ?_))))))
 replace h := h.GQ 19 17 rfl rfl (by decide)
 exact bS (3, c, (c + 1), L8, [x1.n]) ⟨h.cn _, hs⟩
 refine nG (aa (bu rfl rfl) (aa (ae (v := (.bool (decide ((x1.kind : Int) = 4)))) rfl) (nN (aI hs rfl (fun c79 hs => ?_) (fun c79 hs => ?_)))))
 refine aD (aa (ah (v := (I6 c)) rfl) (aa (ah (v := (I6 c)) rfl) (aa (ag rY rfl) (aa (az h 4 rfl aR rfl rfl) (aa (fe (pv := [(0, (I6 4)), (1, (I6 c)), (2, (I6 c)), (3, (I6 x1.n))]) (out := [(I6 4), (I6 c), (I6 c), (I6 x1.n), (.slice none 0 0)]) qW rfl ⟨0, 1, [(I6 4)], rfl, rfl, rfl, bD rfl, ⟨1, 1, [(I6 c)], rfl, rfl, rfl, bD rfl, ⟨2, 1, [(I6 c)], rfl, rfl, rfl, bD rfl, ⟨3, 1, [(I6 x1.n)], rfl, rfl, rfl, bD rfl, rfl⟩⟩⟩⟩) (dK (vs := [(I6 4), (I6 c), (I6 c), (I6 x1.n), (.slice none 0 0)]) h 16 [(I6 4), (I6 c), (I6 c), (I6 x1.n), (.slice none 0 0)] rfl oF rfl rfl rfl rfl rfl (ai rfl (ai rfl (ai rfl (ai rfl (ai rfl aS))))) fun w h => aA (ax (au ?_))))))))
 replace h := h.yH (R := eY) (E := 3) 17
 exact bS (4, c, x1.n, (.slice none 0 0), []) ⟨h.cn _, hs⟩
 refine nG (aa (bu rfl rfl) (aa (ae (v := (.bool (decide ((x1.kind : Int) = 6)))) rfl) (nN (aI hs rfl (fun c80 hs => ?_) (fun c80 hs => ?_)))))
 refine aD (aa (ah (v := v32) rfl) (aa (ag ni rfl) (gP h 16 [(I6 7), (I6 c), (I6 x1.n), (I6 0), (.slice none 0 0)] rfl aR rfl rfl rfl rfl rfl fun w h => aa (ag rQ rfl) (gP h 16 [(I6 7), (I6 c), (I6 x1.n), (I6 0), v32] rfl qU rfl rfl rfl rfl (h.dD 12 rfl).one fun w h => aA (ax (au ?_))))))
 replace h := h.GQ 12 17 rfl rfl (by decide)
 exact bS (7, x1.n, 0, v32, Da) ⟨h.cn _, hs⟩
 refine aH (ax (au ?_))
 replace h := h.yH (R := eY) (E := 3) 17
 exact bS (0, x1.n, 0, (.slice none 0 0), []) ⟨h.cn _, hs⟩
def gY (x8 : List Ins) (p8 : List Ins → Option (List Ins)) (x34 : List Ins) : Option (List Ins) :=
  iK (Room 56 x8 x34) (p8 (x8 ++ x34))
def tT (x32 : List Ins) (c : Int) (d : Int) (x8 : List Ins) (ET : List Ins) (V7 : List Ins) (p8 : List Ins → Option (List Ins)) (x90 : Int) : Option (List Ins) :=
  iK (Room 56 x32 [(⟨13, c, (((((d + (x8.length : Int)) + (x32.length : Int)) + 1) + (ET.length : Int)) + 1), 0, []⟩ : Ins)]) (iK (Room 56 (x32 ++ [(⟨13, c, (((((d + (x8.length : Int)) + (x32.length : Int)) + 1) + (ET.length : Int)) + 1), 0, []⟩ : Ins)]) ET) (iK (Room 56 ((x32 ++ [(⟨13, c, (((((d + (x8.length : Int)) + (x32.length : Int)) + 1) + (ET.length : Int)) + 1), 0, []⟩ : Ins)]) ++ ET) [(⟨12, 0, x90, 0, []⟩ : Ins)]) (iK (Room 56 (((x32 ++ [(⟨13, c, (((((d + (x8.length : Int)) + (x32.length : Int)) + 1) + (ET.length : Int)) + 1), 0, []⟩ : Ins)]) ++ ET) ++ [(⟨12, 0, x90, 0, []⟩ : Ins)]) V7) (gY x8 p8 ((((x32 ++ [(⟨13, c, (((((d + (x8.length : Int)) + (x32.length : Int)) + 1) + (ET.length : Int)) + 1), 0, []⟩ : Ins)]) ++ ET) ++ [(⟨12, 0, x90, 0, []⟩ : Ins)]) ++ V7)))))
def tV (F0 : List cO → List iO → Int → Int → Option (List Ins)) (d : Int) (x8 : List Ins) (x32 : List Ins) (fT : cO) (a : List cO) (b : List iO) (c : Int) (p8 : List Ins → Option (List Ins)) (x69 : Bool) : Option (List Ins) :=
  bif x69 then iK (kJ ((d + (x8.length : Int)) + (x32.length : Int))) (iK (kJ (((d + (x8.length : Int)) + (x32.length : Int)) + 1)) ((F0 fT.a b c (((d + (x8.length : Int)) + (x32.length : Int)) + 1)).bind fun ET => iK (kJ ((d + (x8.length : Int)) + (x32.length : Int))) (iK (kJ (((d + (x8.length : Int)) + (x32.length : Int)) + 1)) (iK (kJ ((((d + (x8.length : Int)) + (x32.length : Int)) + 1) + (ET.length : Int))) (iK (kJ (((((d + (x8.length : Int)) + (x32.length : Int)) + 1) + (ET.length : Int)) + 1)) ((F0 fT.b b c (((((d + (x8.length : Int)) + (x32.length : Int)) + 1) + (ET.length : Int)) + 1)).bind fun V7 => iK (kJ ((((((d + (x8.length : Int)) + (x32.length : Int)) + 1) + (ET.length : Int)) + 1) + (V7.length : Int))) (bif decide ((fT.kind : Int) = 7) then tT x32 c d x8 ET V7 p8 (d + (x8.length : Int)) else tT x32 c d x8 ET V7 p8 ((((((d + (x8.length : Int)) + (x32.length : Int)) + 1) + (ET.length : Int)) + 1) + (V7.length : Int))))))))) else gY x8 p8 x32
def tX (N : Nat) (F0 : List cO → List iO → Int → Int → Option (List Ins)) (fT : cO) (c : Int) (x8 : List Ins) (p8 : List Ins → Option (List Ins)) (b : List iO) (d : Int) (a : List cO) (x32 : List Ins) : Option (List Ins) :=
  bif decide ((fT.kind : Int) = 1) then iK (Room 56 x32 [(⟨2, fT.n, c, 0, []⟩ : Ins)]) (gY x8 p8 (x32 ++ [(⟨2, fT.n, c, 0, []⟩ : Ins)])) else bif decide ((fT.kind : Int) = 2) then iK (kJ (c + 1)) ((mQ N fT.f b (c + 1)).bind fun Ed => iK (kJ (c + 1)) (iK (Room 56 x32 Ed.1) (iK (Room 56 (x32 ++ Ed.1) [(⟨6, c, (c + 1), fT.n, []⟩ : Ins)]) (gY x8 p8 ((x32 ++ Ed.1) ++ [(⟨6, c, (c + 1), fT.n, []⟩ : Ins)]))))) else bif decide ((fT.kind : Int) = 3) then iK (Room 56 x32 [(⟨9, c, 0, 0, []⟩ : Ins)]) (gY x8 p8 (x32 ++ [(⟨9, c, 0, 0, []⟩ : Ins)])) else bif decide ((fT.kind : Int) = 4) then iK (Room 56 x32 [(⟨10, 0, 0, 0, []⟩ : Ins)]) (gY x8 p8 (x32 ++ [(⟨10, 0, 0, 0, []⟩ : Ins)])) else bif decide ((fT.kind : Int) = 5) then iK (Room 56 x32 [(⟨11, c, 0, 0, []⟩ : Ins)]) (gY x8 p8 (x32 ++ [(⟨11, c, 0, 0, []⟩ : Ins)])) else bif decide ((fT.kind : Int) = 8) then iK (Room 56 x32 [(⟨8, c, 0, 0, []⟩ : Ins)]) (gY x8 p8 (x32 ++ [(⟨8, c, 0, 0, []⟩ : Ins)])) else bif decide ((fT.kind : Int) = 6) then tV F0 d x8 x32 fT a b c p8 (decide ((fT.kind : Int) = 6)) else tV F0 d x8 x32 fT a b c p8 (decide ((fT.kind : Int) = 7))
def tY (N : Nat) (F0 : List cO → List iO → Int → Int → Option (List Ins)) (d : Int) (b : List iO) (c : Int) (a : List cO) (fT : cO) (x8 : List Ins) (p8 : List Ins → Option (List Ins)) : Option (List Ins) :=
  iK (kJ (d + (x8.length : Int))) (bif decide ((0 : Int) < (fT.e.length : Int)) then (mQ N fT.e b c).bind fun y104 => tX N F0 fT c x8 p8 b d a y104.1 else tX N F0 fT c x8 p8 b d a [])
def tZ (x8 : List Ins) : Option (List Ins) :=
  some x8
def zH (N : Nat) (F0 : List cO → List iO → Int → Int → Option (List Ins)) (a : List cO) (b : List iO) (c : Int) (d : Int) : Option (List Ins) :=
  each (tY N F0 d b c a) tZ a []
def qc : Nat → List cO → List iO → Int → Int → Option (List Ins)
  | 0 => fun _ _ _ _ => none
  | N + 1 => zH N (qc N)
theorem zI : ∀ (N : Nat) (w0 : World) (M : BS) (hM : ∀ b, M b → b < w0.heap.size) (va : Value) (a : List cO) (ha : gB ik w0 BE M va a) (vb : Value) (b : List iO) (hb : gB kY w0 BE M vb b) (c : Int) (d : Int) (r : List Ins) (hs : qc N a b c d = some r),
    Calls Tryz.prog 76 #[va, vb, (I6 c), (I6 d)] w0 (fun e w' => Grow w0 w' ∧ ∃ u0, e = .returned (u0) ∧ gW kU 93 w' M u0 r ∧ (∀ b, ob u0 b → w0.heap.size ≤ b)) := by
 intro N
 induction N with
 | zero => intro w0 M hM va a ha vb b hb c d r hs; cases hs
 | succ N ih =>
 intro w0 M hM va a ha vb b hb c d r hs
 replace hs : zH N (qc N) a b c d = some r := hs
 generalize qc N = F0 at hs ih
 refine aQ (args := [va, vb, (I6 c), (I6 d)]) Tryz.func76 rfl Tryz.ntmps76 (bD rfl) ?_
 have h := SH.init hM
 replace h := h.fE 1 ha bA
 replace h := h.fE 2 hb (bN bA)
 have uU := ha.bT
 have ML := hb.bT
 refine nG (aa (ae (v := (.slice none 0 0)) rfl) (nJ (aa (ae (v := (.slice none 0 0)) rfl) (nK (aa (ah (v := va) rfl) (aa (bM oZ rfl (h.gV 1 rfl)) (aa (ah (v := (I6 0)) rfl) (nN (aN ?_)))))))))
 replace h := h.yH (R := kU) (E := 93) 6
 refine gD (σ := Nat × Int × Value × List Ins) (inl ([9] ++ rg 11 9 ++ rg 22 134)) (fun ⟨k9, i10, v7, x8⟩ => [(9, v7), (22, (I6 i10))]) (fun ⟨k9, i10, v7, x8⟩ w => SH w0 M BE w (hset [(1, .sr ik va a), (2, .sr kY vb b), (6, .own kU 93 v7 x8)]) ∧ i10 = (k9 : Int) ∧ each (tY N F0 d b c a) tZ (a.drop k9) x8 = some r) (fun ⟨k9, i10, v7, x8⟩ => a.length - k9) ⟨0, 0, (.slice none 0 0), []⟩ ⟨rfl, rfl, trivial⟩ ?_ ?_
 exact ⟨h.cn _, rfl, hs⟩
 rintro ⟨k9, i10, v7, x8⟩ w dR ⟨h, hik, hs⟩
 refine nG ?_
 refine aa (eO rfl rfl) (nN ?_)
 refine aM (gQ rfl (fun e14 => ?_) (fun e14 => ?_))
 refine aH (ak ?_)
 obtain ⟨fT, Qx, Qy⟩ := fG (hik ▸ e14)
 rw [Qy, dU] at hs
 generalize I5 : each (tY N F0 d b c a) tZ (a.drop (k9 + 1)) = p8 at hs
 have Qz := fJ ((h.gV 1 rfl)).bT hik e14
 refine aM (aN (nG ?_))
 obtain ⟨b17, o18, cs19, h, Xd, i16⟩ := h.xI 1 7 rfl oZ rfl (ig hik) (fI hik Qx)
 obtain ⟨u21, u23, u25, u27, rfl, g22, g24, g26, g28⟩ := D5 Xd
 replace h := h.dh 8 g22.up
 replace h := h.dh 9 g24.up.up
 replace h := h.dh 10 g26.up.up.up
 replace h := h.dh 11 g28.up.up.up.up
 refine aa (i16 _ _ _ _ _ _ _ _ _ rfl rfl) (aa (jc (k := 0) (vs := [(I6 fT.kind), (I6 fT.n), u21, u23, u25, u27]) h 7 rfl tu rfl rfl rfl (bD rfl)) (bI h 12 tu fun w b29 h => dK (vs := [(I6 fT.kind), (I6 fT.n), u21, u23, u25, u27]) h 12 [(I6 fT.kind), (I6 fT.n), u21, u23, u25, u27] rfl tu rfl rfl rfl rfl rfl (ai rfl (ai rfl (ai (h.iN 8 rfl).one (ai (h.iN 9 rfl).one (ai (h.iN 10 rfl).one (ai (h.iN 11 rfl).one aS)))))) fun w h => nJ (aa (ah (v := (I6 d)) rfl) (aa (ah (v := v7) rfl) (aa (bM iD rfl (h.eT 6 rfl)) ?_)))))
 obtain ⟨a30, hs⟩ := bG hs
 refine aa (dQ rfl rfl a30) (aa (ae (v := (I6 ((d + (x8.length : Int))))) rfl) (nJ (aa (ae (v := (.slice none 0 0)) rfl) (nN (cu (σ := Value × List Ins) (inl ([13] ++ rg 30 12)) (fun ⟨v31, x32⟩ => [(13, v31)]) (fun ⟨v31, x32⟩ w => SH w0 M BE w (hset [(1, .sr ik va a), (2, .sr kY vb b), (6, .own kU 93 v7 x8), (8, .rd oz u21 fT.e), (9, .rd oz u23 fT.f), (10, .rd ik u25 fT.a), (11, .rd ik u27 fT.b), (12, .blk b29 [(I6 fT.kind), (I6 fT.n), u21, u23, u25, u27]), (13, .own kU 93 v31 x32)]) ∧ tX N F0 fT c x8 p8 b d a x32 = some r) ?_ ?_)))))
 rintro ⟨v31, x32⟩ w dR ⟨h, hs⟩
 refine cu (σ := Value × List Ins) (inl (rg 13 7 ++ rg 42 110)) (fun ⟨v33, x34⟩ => [(13, v33)]) (fun ⟨v33, x34⟩ w => SH w0 M BE w (hset [(1, .sr ik va a), (2, .sr kY vb b), (6, .own kU 93 v7 x8), (13, .own kU 93 v33 x34)]) ∧ gY x8 p8 x34 = some r) ?_ ?_
 rintro ⟨v33, x34⟩ w dR ⟨h, hs⟩
 refine aD (aa (ah (v := v7) rfl) (aa (ah (v := v33) rfl) ?_))
 obtain ⟨a35, hs⟩ := bG hs
 refine mW (R := kU) (m := x34) h 6 rfl (h.eT 13 rfl) iH rfl rfl rfl a35.1 a35.2 fun w u36 h => aa (ae (v := u36) rfl) (aA (ax (ak (aD (aa (dQ rfl rfl Qz) (aa (ah (v := (I6 ((i10 + 1)))) rfl) (aA (au ?_))))))))
 subst I5
 exact jM ⟨k9 + 1, i10 + 1, u36, (x8 ++ x34)⟩ ⟨h.cn _, by omega, hs⟩ (by have := oD e14; dsimp only; omega)
 refine nG (aa (ag nC rfl) (aa (az h 12 rfl aR rfl rfl) (nN (aN (nG (aa (bu rfl rfl) (aa (ae (v := (.bool (decide ((fT.kind : Int) = 1)))) rfl) (nN (aI hs rfl (fun c37 hs => ?_) (fun c37 hs => ?_))))))))))
 refine aD (aa (ah (v := v31) rfl) (aa (ag zt rfl) (aa (az h 12 rfl aR rfl rfl) (aa (ah (v := (I6 c)) rfl) (aa (fe (pv := [(0, (I6 2)), (1, (I6 fT.n)), (2, (I6 c))]) (out := [(I6 2), (I6 fT.n), (I6 c), (I6 0), (.slice none 0 0)]) qW rfl ⟨0, 1, [(I6 2)], rfl, rfl, rfl, bD rfl, ⟨1, 1, [(I6 fT.n)], rfl, rfl, rfl, bD rfl, ⟨2, 1, [(I6 c)], rfl, rfl, rfl, bD rfl, rfl⟩⟩⟩) (sV (R := kU) (vs := [(.agg #[(I6 2), (I6 fT.n), (I6 c), (I6 0), (.slice none 0 0)])]) (xs := [(⟨2, fT.n, c, 0, []⟩ : Ins)]) h 14 iH rfl rfl rfl ⟨⟨_, rfl, gB.nil⟩, trivial⟩ rfl fun w u38 h => ?_))))))
 obtain ⟨a39, hs⟩ := bG hs
 refine mW (R := kU) (m := [(⟨2, fT.n, c, 0, []⟩ : Ins)]) h 13 rfl (h.eT 14 rfl) iH rfl rfl rfl a39.1 a39.2 fun w u40 h => aa (ae (v := u40) rfl) (aA (ax (au ?_)))
 exact bS (u40, (x32 ++ [(⟨2, fT.n, c, 0, []⟩ : Ins)])) ⟨h.cn _, hs⟩
 refine nG (aa (bu rfl rfl) (aa (ae (v := (.bool (decide ((fT.kind : Int) = 2)))) rfl) (nN (aI hs rfl (fun c41 hs => ?_) (fun c41 hs => ?_)))))
 refine nG (aa (ag Fb rfl) (aa (az h 12 rfl Be rfl rfl) (aa (ah (v := vb) rfl) (aa (ah (v := (I6 c)) rfl) ?_))))
 obtain ⟨a42, hs⟩ := bG hs
 refine aa (dQ rfl rfl a42) ?_
 obtain ⟨Ed, e44, hs⟩ := aL hs
 refine aW Qi rfl rfl (zG N _ _ h.lt u23 fT.f (h.kL 9 rfl) vb b (h.gV 2 rfl) (c + 1) _ e44) ?_
 rintro _ w ⟨k48, u45, rfl, g46, g47⟩
 refine ⟨_, rfl, ?_⟩
 replace h := h.nz 15 k48 g46 g47
 refine aa (ah (v := (.tuple #[u45, (I6 Ed.2)])) rfl) (aa (bg rfl rfl) (aa (bg rfl rfl) (aa (ae (v := u45) rfl) (aa (ae (v := (I6 Ed.2)) rfl) (nN (lq (L := (ob v31)) mixed h fun w h => bH 0 (aP.refl _ _) rfl aj (by kernel_rfl) (by kernel_rfl) (by kernel_rfl) (fun w hk => ah (v := v31) rfl) (bH 1 (aP.refl _ _) rfl aj (by kernel_rfl) (by kernel_rfl) (by kernel_rfl) (fun w hk => ah (v := u45) rfl) (bH 3 (aP.refl _ _) rfl aj (by kernel_rfl) (by kernel_rfl) (by kernel_rfl) (fun w hk => ah (v := (I6 c)) rfl) (bH 4 (aP.refl _ _) rfl aj (by kernel_rfl) (by kernel_rfl) (by kernel_rfl) (fun w hk => ah (v := (I6 c)) rfl) ?_)))))))))
 obtain ⟨aq50x5_1, hs⟩ := bG hs
 refine bH 5 (aP.refl _ _) rfl aj (by kernel_rfl) (by kernel_rfl) (by kernel_rfl) (fun w hk => dQ rfl rfl aq50x5_1) (bH 6 (aP.refl _ _) rfl aj (by kernel_rfl) (by kernel_rfl) (by kernel_rfl) (fun w hk => ag zt rfl) (bH 7 (aP.refl _ _) rfl aj (by kernel_rfl) (by kernel_rfl) (by kernel_rfl) (fun w hk => have h := h.qR 13 rfl hk; az h 12 rfl aR rfl rfl) (bH 8 (aP.refl _ _) rfl aj (by kernel_rfl) (by kernel_rfl) (by kernel_rfl) (fun w hk => fe (pv := [(0, (I6 6)), (1, (I6 c)), (2, (I6 ((c + 1)))), (3, (I6 fT.n))]) (out := [(I6 6), (I6 c), (I6 ((c + 1))), (I6 fT.n), (.slice none 0 0)]) qW rfl ⟨0, 1, [(I6 6)], rfl, rfl, rfl, bD rfl, ⟨1, 1, [(I6 c)], rfl, rfl, rfl, bD rfl, ⟨2, 1, [(I6 ((c + 1)))], rfl, rfl, rfl, bD rfl, ⟨3, 1, [(I6 fT.n)], rfl, rfl, rfl, bD rfl, rfl⟩⟩⟩⟩) ?_)))
 obtain ⟨Ja, hs⟩ := bG hs
 obtain ⟨Gg, hs⟩ := bG hs
 obtain ⟨UD, ws51e⟩ : ∃ x, x = w := ⟨_, rfl⟩
 have xG : aP (ob v31) UD w := ws51e ▸ aP.refl (ob v31) w
 refine rU ws51e.symm (om 2 9 (by kernel_rfl) rfl aj rfl aj ?_ ?_)
 have Xw := xG.size
 refine ng (R := kU) (m := Ed.1) h 13 rfl (h.eT 15 rfl) iH rfl rfl rfl Ja.1 Ja.2 fun w MV h JU JV => ?_
 have Di : ∀ b, ob MV b → b < UD.heap.size → ob v31 b := fun b hb hl => JV b hb (Nat.lt_of_lt_of_le hl (xG).size)
 replace xG := xG.same JU
 refine aA (aT xG (bE 9 (by kernel_rfl) rfl aj (xL (R := kU) (vs := [(.agg #[(I6 6), (I6 c), (I6 ((c + 1))), (I6 fT.n), (.slice none 0 0)])]) (xs := [(⟨6, c, (c + 1), fT.n, []⟩ : Ins)]) h 124 iH rfl rfl rfl ⟨⟨_, rfl, gB.nil⟩, trivial⟩ rfl fun w MW h JW JX => ?_)))
 have Xx : ∀ b, ob MW b → UD.heap.size ≤ b := fun b hb => Nat.le_trans xG.size (JX b hb)
 replace xG := xG.grow JW
 refine aA (aT xG (bE 10 (by kernel_rfl) rfl aj ?_))
 have UE := xG.size
 refine ng (R := kU) (m := [(⟨6, c, (c + 1), fT.n, []⟩ : Ins)]) h 13 rfl (h.eT 124 rfl) iH rfl rfl rfl Gg.1 Gg.2 fun w yK h Hd He => ?_
 have UF : ∀ b, ob yK b → b < UD.heap.size → ob v31 b := fun b hb hl => Di b (He b hb (Nat.lt_of_lt_of_le hl (xG).size)) hl
 replace xG := aP.step xG Hd (fun x hx hl => Di x hx hl)
 refine aA (aT xG (dN 11 xG rfl (by kernel_rfl) (fun w hk => ae (v := yK) rfl) (gG (by kernel_rfl) (ax (au ?_)))))
 exact bS (yK, ((x32 ++ Ed.1) ++ [(⟨6, c, (c + 1), fT.n, []⟩ : Ins)])) ⟨h.cn _, hs⟩
 refine xL (R := kU) (vs := [(.agg #[(I6 6), (I6 c), (I6 ((c + 1))), (I6 fT.n), (.slice none 0 0)])]) (xs := [(⟨6, c, (c + 1), fT.n, []⟩ : Ins)]) h 124 iH rfl rfl rfl ⟨⟨_, rfl, gB.nil⟩, trivial⟩ rfl fun w MW h JW JX => ?_
 have Xx : ∀ b, ob MW b → UD.heap.size ≤ b := fun b hb => Nat.le_trans xG.size (JX b hb)
 replace xG := xG.grow JW
 refine aA (aT xG (bE 2 (by kernel_rfl) rfl aj ?_))
 have Xw := xG.size
 refine ng (R := kU) (m := Ed.1) h 13 rfl (h.eT 15 rfl) iH rfl rfl rfl Ja.1 Ja.2 fun w MV h JU JV => ?_
 have Di : ∀ b, ob MV b → b < UD.heap.size → ob v31 b := fun b hb hl => JV b hb (Nat.lt_of_lt_of_le hl (xG).size)
 replace xG := xG.same JU
 refine aA (aT xG (bE 10 (by kernel_rfl) rfl aj ?_))
 have UE := xG.size
 refine ng (R := kU) (m := [(⟨6, c, (c + 1), fT.n, []⟩ : Ins)]) h 13 rfl (h.eT 124 rfl) iH rfl rfl rfl Gg.1 Gg.2 fun w yK h Hd He => ?_
 have UF : ∀ b, ob yK b → b < UD.heap.size → ob v31 b := fun b hb hl => Di b (He b hb (Nat.lt_of_lt_of_le hl (xG).size)) hl
 replace xG := aP.step xG Hd (fun x hx hl => Di x hx hl)
 refine aA (aT xG (dN 11 xG rfl (by kernel_rfl) (fun w hk => ae (v := yK) rfl) (gG (by kernel_rfl) (ax (au ?_)))))
 exact bS (yK, ((x32 ++ Ed.1) ++ [(⟨6, c, (c + 1), fT.n, []⟩ : Ins)])) ⟨h.cn _, hs⟩
 refine nG (aa (bu rfl rfl) (aa (ae (v := (.bool (decide ((fT.kind : Int) = 3)))) rfl) (nN (aI hs rfl (fun c53 hs => ?_) (fun c53 hs => ?_)))))
 refine aD (aa (ah (v := v31) rfl) (aa (ah (v := (I6 c)) rfl) (aa (fe (pv := [(0, (I6 9)), (1, (I6 c))]) (out := [(I6 9), (I6 c), (I6 0), (I6 0), (.slice none 0 0)]) qW rfl ⟨0, 1, [(I6 9)], rfl, rfl, rfl, bD rfl, ⟨1, 1, [(I6 c)], rfl, rfl, rfl, bD rfl, rfl⟩⟩) (sV (R := kU) (vs := [(.agg #[(I6 9), (I6 c), (I6 0), (I6 0), (.slice none 0 0)])]) (xs := [(⟨9, c, 0, 0, []⟩ : Ins)]) h 172 iH rfl rfl rfl ⟨⟨_, rfl, gB.nil⟩, trivial⟩ rfl fun w u54 h => ?_))))
 obtain ⟨a55, hs⟩ := bG hs
 refine mW (R := kU) (m := [(⟨9, c, 0, 0, []⟩ : Ins)]) h 13 rfl (h.eT 172 rfl) iH rfl rfl rfl a55.1 a55.2 fun w u56 h => aa (ae (v := u56) rfl) (aA (ax (au ?_)))
 exact bS (u56, (x32 ++ [(⟨9, c, 0, 0, []⟩ : Ins)])) ⟨h.cn _, hs⟩
 refine nG (aa (bu rfl rfl) (aa (ae (v := (.bool (decide ((fT.kind : Int) = 4)))) rfl) (nN (aI hs rfl (fun c57 hs => ?_) (fun c57 hs => ?_)))))
 refine aD (aa (ah (v := v31) rfl) (aa (fe (pv := [(0, (I6 10))]) (out := [(I6 10), (I6 0), (I6 0), (I6 0), (.slice none 0 0)]) qW rfl ⟨0, 1, [(I6 10)], rfl, rfl, rfl, bD rfl, rfl⟩) (sV (R := kU) (vs := [(.agg #[(I6 10), (I6 0), (I6 0), (I6 0), (.slice none 0 0)])]) (xs := [(⟨10, 0, 0, 0, []⟩ : Ins)]) h 173 iH rfl rfl rfl ⟨⟨_, rfl, gB.nil⟩, trivial⟩ rfl fun w u58 h => ?_)))
 obtain ⟨a59, hs⟩ := bG hs
 refine mW (R := kU) (m := [(⟨10, 0, 0, 0, []⟩ : Ins)]) h 13 rfl (h.eT 173 rfl) iH rfl rfl rfl a59.1 a59.2 fun w u60 h => aa (ae (v := u60) rfl) (aA (ax (au ?_)))
 exact bS (u60, (x32 ++ [(⟨10, 0, 0, 0, []⟩ : Ins)])) ⟨h.cn _, hs⟩
 refine nG (aa (bu rfl rfl) (aa (ae (v := (.bool (decide ((fT.kind : Int) = 5)))) rfl) (nN (aI hs rfl (fun RV hs => ?_) (fun RV hs => ?_)))))
 refine aD (aa (ah (v := v31) rfl) (aa (ah (v := (I6 c)) rfl) (aa (fe (pv := [(0, (I6 11)), (1, (I6 c))]) (out := [(I6 11), (I6 c), (I6 0), (I6 0), (.slice none 0 0)]) qW rfl ⟨0, 1, [(I6 11)], rfl, rfl, rfl, bD rfl, ⟨1, 1, [(I6 c)], rfl, rfl, rfl, bD rfl, rfl⟩⟩) (sV (R := kU) (vs := [(.agg #[(I6 11), (I6 c), (I6 0), (I6 0), (.slice none 0 0)])]) (xs := [(⟨11, c, 0, 0, []⟩ : Ins)]) h 174 iH rfl rfl rfl ⟨⟨_, rfl, gB.nil⟩, trivial⟩ rfl fun w u62 h => ?_))))
 obtain ⟨a63, hs⟩ := bG hs
 refine mW (R := kU) (m := [(⟨11, c, 0, 0, []⟩ : Ins)]) h 13 rfl (h.eT 174 rfl) iH rfl rfl rfl a63.1 a63.2 fun w u64 h => aa (ae (v := u64) rfl) (aA (ax (au ?_)))
 exact bS (u64, (x32 ++ [(⟨11, c, 0, 0, []⟩ : Ins)])) ⟨h.cn _, hs⟩
 refine nG (aa (bu rfl rfl) (aa (ae (v := (.bool (decide ((fT.kind : Int) = 8)))) rfl) (nN (aI hs rfl (fun Aw hs => ?_) (fun Aw hs => ?_)))))
 refine aD (aa (ah (v := v31) rfl) (aa (ah (v := (I6 c)) rfl) (aa (fe (pv := [(0, (I6 8)), (1, (I6 c))]) (out := [(I6 8), (I6 c), (I6 0), (I6 0), (.slice none 0 0)]) qW rfl ⟨0, 1, [(I6 8)], rfl, rfl, rfl, bD rfl, ⟨1, 1, [(I6 c)], rfl, rfl, rfl, bD rfl, rfl⟩⟩) (sV (R := kU) (vs := [(.agg #[(I6 8), (I6 c), (I6 0), (I6 0), (.slice none 0 0)])]) (xs := [(⟨8, c, 0, 0, []⟩ : Ins)]) h 175 iH rfl rfl rfl ⟨⟨_, rfl, gB.nil⟩, trivial⟩ rfl fun w u66 h => ?_))))
 obtain ⟨a67, hs⟩ := bG hs
 refine mW (R := kU) (m := [(⟨8, c, 0, 0, []⟩ : Ins)]) h 13 rfl (h.eT 175 rfl) iH rfl rfl rfl a67.1 a67.2 fun w u68 h => aa (ae (v := u68) rfl) (aA (ax (au ?_)))
 exact bS (u68, (x32 ++ [(⟨8, c, 0, 0, []⟩ : Ins)])) ⟨h.cn _, hs⟩
 refine cu (σ := Bool) (inl [102, 103, 104]) (fun x69 => [(102, (.bool (x69)))]) (fun x69 w => SH w0 M BE w (hset [(1, .sr ik va a), (2, .sr kY vb b), (6, .own kU 93 v7 x8), (8, .rd oz u21 fT.e), (9, .rd oz u23 fT.f), (10, .rd ik u25 fT.a), (11, .rd ik u27 fT.b), (12, .blk b29 [(I6 fT.kind), (I6 fT.n), u21, u23, u25, u27]), (13, .own kU 93 v31 x32)]) ∧ tV F0 d x8 x32 fT a b c p8 x69 = some r) ?_ ?_
 rintro x69 w dR ⟨h, hs⟩
 refine aI hs rfl (fun c70 hs => ?_) (fun c70 hs => ?_)
 refine nG (aa (ag CW rfl) (aa (az h 12 rfl uz rfl rfl) (aa (ah (v := vb) rfl) (aa (ah (v := (I6 c)) rfl) (aa (ah (v := (I6 ((d + (x8.length : Int))))) rfl) (aa (ah (v := v31) rfl) (aa (bM iD rfl (h.eT 13 rfl)) ?_)))))))
 obtain ⟨a71, hs⟩ := bG hs
 refine aa (dQ rfl rfl a71) ?_
 obtain ⟨a72, hs⟩ := bG hs
 refine aa (dQ rfl rfl a72) ?_
 obtain ⟨ET, e74, hs⟩ := aL hs
 refine aW Qs rfl rfl (ih _ _ h.lt u25 fT.a (h.kL 10 rfl) vb b (h.gV 2 rfl) c (((d + (x8.length : Int)) + (x32.length : Int)) + 1) _ e74) ?_
 rintro _ w ⟨k78, u75, rfl, g76, g77⟩
 refine ⟨_, rfl, ?_⟩
 replace h := h.nz 176 k78 g76 g77
 refine aa (ae (v := u75) rfl) (nJ (aa (ah (v := (I6 ((d + (x8.length : Int))))) rfl) (aa (ah (v := v31) rfl) (aa (bM iD rfl (h.eT 13 rfl)) ?_))))
 obtain ⟨a79, hs⟩ := bG hs
 refine aa (dQ rfl rfl a79) ?_
 obtain ⟨a80, hs⟩ := bG hs
 refine aa (dQ rfl rfl a80) (aa (ah (v := u75) rfl) (aa (bM iD rfl (h.eT 176 rfl)) ?_))
 obtain ⟨a81, hs⟩ := bG hs
 refine aa (dQ rfl rfl a81) ?_
 obtain ⟨a82, hs⟩ := bG hs
 refine aa (dQ rfl rfl a82) (aa (ae (v := (I6 ((((((d + (x8.length : Int)) + (x32.length : Int)) + 1) + (ET.length : Int)) + 1)))) rfl) (nJ (aa (ag CX rfl) (aa (az h 12 rfl uz rfl rfl) (aa (ah (v := vb) rfl) (aa (ah (v := (I6 c)) rfl) (aa (ah (v := (I6 ((((((d + (x8.length : Int)) + (x32.length : Int)) + 1) + (ET.length : Int)) + 1)))) rfl) ?_)))))))
 obtain ⟨V7, e84, hs⟩ := aL hs
 refine aW Qs rfl rfl (ih _ _ h.lt u27 fT.b (h.kL 11 rfl) vb b (h.gV 2 rfl) c (((((d + (x8.length : Int)) + (x32.length : Int)) + 1) + (ET.length : Int)) + 1) _ e84) ?_
 rintro _ w ⟨k88, u85, rfl, g86, g87⟩
 refine ⟨_, rfl, ?_⟩
 replace h := h.nz 177 k88 g86 g87
 refine aa (ae (v := u85) rfl) (nJ (aa (ah (v := (I6 ((((((d + (x8.length : Int)) + (x32.length : Int)) + 1) + (ET.length : Int)) + 1)))) rfl) (aa (ah (v := u85) rfl) (aa (bM iD rfl (h.eT 177 rfl)) ?_))))
 obtain ⟨a89, hs⟩ := bG hs
 refine aa (dQ rfl rfl a89) (aa (ae (v := (I6 (((((((d + (x8.length : Int)) + (x32.length : Int)) + 1) + (ET.length : Int)) + 1) + (V7.length : Int))))) rfl) (nN (cu (σ := Int) (inl [19, 134, 135, 136, 137]) (fun x90 => [(19, (I6 x90))]) (fun x90 w => SH w0 M BE w (hset [(1, .sr ik va a), (2, .sr kY vb b), (6, .own kU 93 v7 x8), (13, .own kU 93 v31 x32), (176, .own kU 93 u75 ET), (177, .own kU 93 u85 V7)]) ∧ tT x32 c d x8 ET V7 p8 x90 = some r) ?_ ?_)))
 rintro x90 w dR ⟨h, hs⟩
 refine aD (aa (ah (v := v31) rfl) (aa (ah (v := (I6 c)) rfl) (aa (ah (v := (I6 ((((((d + (x8.length : Int)) + (x32.length : Int)) + 1) + (ET.length : Int)) + 1)))) rfl) (aa (fe (pv := [(0, (I6 13)), (1, (I6 c)), (2, (I6 ((((((d + (x8.length : Int)) + (x32.length : Int)) + 1) + (ET.length : Int)) + 1))))]) (out := [(I6 13), (I6 c), (I6 ((((((d + (x8.length : Int)) + (x32.length : Int)) + 1) + (ET.length : Int)) + 1))), (I6 0), (.slice none 0 0)]) qW rfl ⟨0, 1, [(I6 13)], rfl, rfl, rfl, bD rfl, ⟨1, 1, [(I6 c)], rfl, rfl, rfl, bD rfl, ⟨2, 1, [(I6 ((((((d + (x8.length : Int)) + (x32.length : Int)) + 1) + (ET.length : Int)) + 1)))], rfl, rfl, rfl, bD rfl, rfl⟩⟩⟩) (sV (R := kU) (vs := [(.agg #[(I6 13), (I6 c), (I6 ((((((d + (x8.length : Int)) + (x32.length : Int)) + 1) + (ET.length : Int)) + 1))), (I6 0), (.slice none 0 0)])]) (xs := [(⟨13, c, (((((d + (x8.length : Int)) + (x32.length : Int)) + 1) + (ET.length : Int)) + 1), 0, []⟩ : Ins)]) h 178 iH rfl rfl rfl ⟨⟨_, rfl, gB.nil⟩, trivial⟩ rfl fun w u91 h => ?_)))))
 obtain ⟨a92, hs⟩ := bG hs
 refine mW (R := kU) (m := [(⟨13, c, (((((d + (x8.length : Int)) + (x32.length : Int)) + 1) + (ET.length : Int)) + 1), 0, []⟩ : Ins)]) h 13 rfl (h.eT 178 rfl) iH rfl rfl rfl a92.1 a92.2 fun w u93 h => aa (ah (v := u75) rfl) ?_
 obtain ⟨a94, hs⟩ := bG hs
 refine mW (R := kU) (m := ET) h 13 rfl (h.eT 176 rfl) iH rfl rfl rfl a94.1 a94.2 fun w u95 h => aa (ah (v := (I6 x90)) rfl) (aa (fe (pv := [(0, (I6 12)), (2, (I6 x90))]) (out := [(I6 12), (I6 0), (I6 x90), (I6 0), (.slice none 0 0)]) qW rfl ⟨0, 1, [(I6 12)], rfl, rfl, rfl, bD rfl, ⟨2, 1, [(I6 x90)], rfl, rfl, rfl, bD rfl, rfl⟩⟩) (sV (R := kU) (vs := [(.agg #[(I6 12), (I6 0), (I6 x90), (I6 0), (.slice none 0 0)])]) (xs := [(⟨12, 0, x90, 0, []⟩ : Ins)]) h 179 iH rfl rfl rfl ⟨⟨_, rfl, gB.nil⟩, trivial⟩ rfl fun w u96 h => ?_))
 obtain ⟨a97, hs⟩ := bG hs
 refine mW (R := kU) (m := [(⟨12, 0, x90, 0, []⟩ : Ins)]) h 13 rfl (h.eT 179 rfl) iH rfl rfl rfl a97.1 a97.2 fun w u98 h => aa (ah (v := u85) rfl) ?_
 obtain ⟨a99, hs⟩ := bG hs
 refine mW (R := kU) (m := V7) h 13 rfl (h.eT 177 rfl) iH rfl rfl rfl a99.1 a99.2 fun w u100 h => aa (ae (v := u100) rfl) (aA (ax (au ?_)))
 exact bS (u100, ((((x32 ++ [(⟨13, c, (((((d + (x8.length : Int)) + (x32.length : Int)) + 1) + (ET.length : Int)) + 1), 0, []⟩ : Ins)]) ++ ET) ++ [(⟨12, 0, x90, 0, []⟩ : Ins)]) ++ V7)) ⟨h.cn _, hs⟩
 refine nG (aa (ag nC rfl) (aa (az h 12 rfl aR rfl rfl) (aa (bu rfl rfl) (nN (aI hs rfl (fun c101 hs => ?_) (fun c101 hs => ?_))))))
 refine aD (aa (ah (v := (I6 ((d + (x8.length : Int))))) rfl) (aa (ae (v := (I6 ((d + (x8.length : Int))))) rfl) (aA (au ?_))))
 exact bS (d + (x8.length : Int)) ⟨h.cn _, hs⟩
 refine aH (au ?_)
 exact bS ((((((d + (x8.length : Int)) + (x32.length : Int)) + 1) + (ET.length : Int)) + 1) + (V7.length : Int)) ⟨h.cn _, hs⟩
 refine aH (ax (au ?_))
 exact bS (v31, x32) ⟨h.cn _, hs⟩
 refine nG (aa (bu rfl rfl) (aa (ae (v := (.bool (decide ((fT.kind : Int) = 6)))) rfl) (nN (aI hs rfl (fun Ff hs => ?_) (fun Ff hs => ?_)))))
 refine aH (au ?_)
 exact bS (decide ((fT.kind : Int) = 6)) ⟨h.cn _, hs⟩
 refine aD (aa (bu rfl rfl) (aa (ae (v := (.bool (decide ((fT.kind : Int) = 7)))) rfl) (aA (au ?_))))
 exact bS (decide ((fT.kind : Int) = 7)) ⟨h.cn _, hs⟩
 refine nG (aa (ag CV rfl) (aa (az h 12 rfl Be rfl rfl) (aa (bM nZ rfl (h.kL 8 rfl)) (aa (mV rfl rfl) (nN (aI hs rfl (fun Xk hs => ?_) (fun Xk hs => ?_)))))))
 refine aD (aa (ag CV rfl) (aa (az h 12 rfl Be rfl rfl) (aa (ah (v := vb) rfl) (aa (ah (v := (I6 c)) rfl) ?_))))
 obtain ⟨y104, JR, hs⟩ := aL hs
 refine aW Qi rfl rfl (zG N _ _ h.lt u21 fT.e (h.kL 8 rfl) vb b (h.gV 2 rfl) c _ JR) ?_
 rintro _ w ⟨k109, u106, rfl, g107, g108⟩
 refine ⟨_, rfl, ?_⟩
 replace h := h.nz 180 k109 g107 g108
 refine aa (ah (v := (.tuple #[u106, (I6 y104.2)])) rfl) (aa (bg rfl rfl) (aa (bg rfl rfl) (aa (ae (v := u106) rfl) (aA (au ?_)))))
 replace h := h.GQ 180 13 rfl rfl (by decide)
 exact bS (u106, y104.1) ⟨h.cn _, hs⟩
 refine aH (au ?_)
 replace h := h.yH (R := kU) (E := 93) 13
 exact bS ((.slice none 0 0), []) ⟨h.cn _, hs⟩
 rw [fH (hik ▸ e14), fO] at hs
 refine nE (aa (ah (v := v7) rfl) (aa (ae (v := v7) rfl) (nR (bR (v := v7) Tryz.results76 rfl ?_))))
 obtain rfl := fM hs
 exact ⟨h.grown, _, rfl, (h.lQ 6 rfl).1, (h.lQ 6 rfl).2⟩
def yE (x8 : List bX) (fT : iO) (p8 : List bX → Option (List bX)) (Q6 : List Ins) : Option (List bX) :=
  iK (Room 40 x8 [(⟨fT.params, 30, Q6⟩ : bX)]) (p8 (x8 ++ [(⟨fT.params, 30, Q6⟩ : bX)]))
def uD (N : Nat) (a : List iO) (fT : iO) (x8 : List bX) (p8 : List bX → Option (List bX)) : Option (List bX) :=
  (qc N fT.body a fT.locals 0).bind fun Fg => iK (Room 56 Fg [(⟨1, fT.locals, 0, 0, []⟩ : Ins), (⟨8, fT.locals, 0, 0, []⟩ : Ins)]) (yE x8 fT p8 (Fg ++ [(⟨1, fT.locals, 0, 0, []⟩ : Ins), (⟨8, fT.locals, 0, 0, []⟩ : Ins)]))
def uE (x8 : List bX) : Option (List bX) :=
  some x8
def Ce (N : Nat) (a : List iO) : Option (List bX) :=
  each (uD N a) uE a []
theorem GD (N : Nat) (w0 : World) (M : BS) (hM : ∀ b, M b → b < w0.heap.size) (va : Value) (a : List iO) (ha : gB kY w0 BE M va a) (r : List bX) (hs : Ce N a = some r) :
    Calls Tryz.prog 39 #[va] w0 (fun e w' => Grow w0 w' ∧ ∃ u0, e = .returned (u0) ∧ gW jE 57 w' M u0 r ∧ (∀ b, ob u0 b → w0.heap.size ≤ b)) := by
 refine aQ (args := [va]) Tryz.func39 rfl Tryz.ntmps39 (bD rfl) ?_
 have h := SH.init hM
 replace h := h.fE 1 ha bA
 have uU := ha.bT
 refine nG (aa (ae (v := (.slice none 0 0)) rfl) (nJ (aa (ae (v := (.slice none 0 0)) rfl) (nK (aa (ah (v := va) rfl) (aa (bM kE rfl (h.gV 1 rfl)) (aa (ah (v := (I6 0)) rfl) (nN (aN ?_)))))))))
 replace h := h.yH (R := jE) (E := 57) 5
 refine gD (σ := Nat × Int × Value × List bX) (inl ([3, 5, 6] ++ rg 9 27)) (fun ⟨k9, i10, v7, x8⟩ => [(3, v7), (9, (I6 i10))]) (fun ⟨k9, i10, v7, x8⟩ w => SH w0 M BE w (hset [(1, .sr kY va a), (5, .own jE 57 v7 x8)]) ∧ i10 = (k9 : Int) ∧ each (uD N a) uE (a.drop k9) x8 = some r) (fun ⟨k9, i10, v7, x8⟩ => a.length - k9) ⟨0, 0, (.slice none 0 0), []⟩ ⟨rfl, rfl, trivial⟩ ?_ ?_
 exact ⟨h.cn _, rfl, hs⟩
 rintro ⟨k9, i10, v7, x8⟩ w dR ⟨h, hik, hs⟩
 refine nG ?_
 refine aa (eO rfl rfl) (nN ?_)
 refine aM (gQ rfl (fun e14 => ?_) (fun e14 => ?_))
 refine aH (ak ?_)
 obtain ⟨fT, Qx, Qy⟩ := fG (hik ▸ e14)
 rw [Qy, dU] at hs
 generalize I5 : each (uD N a) uE (a.drop (k9 + 1)) = p8 at hs
 have Qz := fJ ((h.gV 1 rfl)).bT hik e14
 refine aM (aN (nG ?_))
 obtain ⟨b17, o18, cs19, h, Xd, i16⟩ := h.xI 1 6 rfl kE rfl (ig hik) (fI hik Qx)
 obtain ⟨u21, rfl, g22⟩ := w9 Xd
 replace h := h.dh 7 g22.up
 refine aa (i16 _ _ _ _ _ _ _ _ _ rfl rfl) (aa (jc (k := 0) (vs := [(I6 fT.params), (I6 fT.locals), u21]) h 6 rfl qi rfl rfl rfl (bD rfl)) (bI h 8 qi fun w Gd h => dK (vs := [(I6 fT.params), (I6 fT.locals), u21]) h 8 [(I6 fT.params), (I6 fT.locals), u21] rfl qi rfl rfl rfl rfl rfl (ai rfl (ai rfl (ai (h.iN 7 rfl).one aS))) fun w h => nJ (aa (ag zq rfl) (aa (az h 8 rfl aR rfl rfl) (aa (fe (pv := [(0, (I6 fT.params)), (1, (I6 30))]) (out := [(I6 fT.params), (I6 30), (.slice none 0 0)]) Z5 rfl ⟨0, 1, [(I6 fT.params)], rfl, rfl, rfl, bD rfl, ⟨1, 1, [(I6 30)], rfl, rfl, rfl, bD rfl, rfl⟩⟩) (bI h 9 tC fun w b24 h => dK (vs := [(I6 fT.params), (I6 30), (.slice none 0 0)]) h 9 [(I6 fT.params), (I6 30), (.slice none 0 0)] rfl tC rfl rfl rfl rfl rfl (ai rfl (ai rfl (ai rfl aS))) fun w h => nN (cu (σ := Value × List Ins) (inl (rg 16 15)) (fun ⟨v25, Q6⟩ => []) (fun ⟨v25, Q6⟩ w => SH w0 M BE w (hset [(1, .sr kY va a), (5, .own jE 57 v7 x8), (9, .blk b24 [(I6 fT.params), (I6 30), v25]), (70, .own kU 93 v25 Q6)]) ∧ yE x8 fT p8 Q6 = some r) ?_ ?_)))))))
 rintro ⟨v25, Q6⟩ w dR ⟨h, hs⟩
 refine aD (aa (ah (v := v7) rfl) (aa (bU (vs := [(I6 fT.params), (I6 30), v25]) h 9 rfl tC rfl rfl rfl) ?_))
 replace h := h.freeze 70 rfl
 refine sV (R := jE) (vs := [(.agg #[(I6 fT.params), (I6 30), v25])]) (xs := [(⟨fT.params, 30, Q6⟩ : bX)]) h 71 Ry rfl rfl rfl ⟨⟨_, rfl, (h.iN 70 rfl)⟩, trivial⟩ rfl fun w u27 h => ?_
 obtain ⟨a28, hs⟩ := bG hs
 refine mW (R := jE) (m := [(⟨fT.params, 30, Q6⟩ : bX)]) h 5 rfl (h.eT 71 rfl) Ry rfl rfl rfl a28.1 a28.2 fun w u29 h => aa (ae (v := u29) rfl) (aA (ax (ak (aD (aa (dQ rfl rfl Qz) (aa (ah (v := (I6 ((i10 + 1)))) rfl) (aA (au ?_))))))))
 subst I5
 exact jM ⟨k9 + 1, i10 + 1, u29, (x8 ++ [(⟨fT.params, 30, Q6⟩ : bX)])⟩ ⟨h.cn _, by omega, hs⟩ (by have := oD e14; dsimp only; omega)
 refine lq (L := (fun x => x = b24)) mixed h fun w h => bH 0 (aP.refl _ _) rfl aj (by kernel_rfl) (by kernel_rfl) (by kernel_rfl) (fun w hk => ag Fa rfl) (bH 1 (aP.refl _ _) rfl aj (by kernel_rfl) (by kernel_rfl) (by kernel_rfl) (fun w hk => have h := h.qR 9 rfl hk; az h 8 rfl uz rfl rfl) (bH 2 (aP.refl _ _) rfl aj (by kernel_rfl) (by kernel_rfl) (by kernel_rfl) (fun w hk => ah (v := va) rfl) (bH 3 (aP.refl _ _) rfl aj (by kernel_rfl) (by kernel_rfl) (by kernel_rfl) (fun w hk => ag CU rfl) (bH 4 (aP.refl _ _) rfl aj (by kernel_rfl) (by kernel_rfl) (by kernel_rfl) (fun w hk => have h := h.qR 9 rfl hk; az h 8 rfl aR rfl rfl) (bH 6 (aP.refl _ _) rfl aj (by kernel_rfl) (by kernel_rfl) (by kernel_rfl) (fun w hk => ag CU rfl) (bH 7 (aP.refl _ _) rfl aj (by kernel_rfl) (by kernel_rfl) (by kernel_rfl) (fun w hk => have h := h.qR 9 rfl hk; az h 8 rfl aR rfl rfl) (bH 8 (aP.refl _ _) rfl aj (by kernel_rfl) (by kernel_rfl) (by kernel_rfl) (fun w hk => fe (pv := [(0, (I6 1)), (1, (I6 fT.locals))]) (out := [(I6 1), (I6 fT.locals), (I6 0), (I6 0), (.slice none 0 0)]) qW rfl ⟨0, 1, [(I6 1)], rfl, rfl, rfl, bD rfl, ⟨1, 1, [(I6 fT.locals)], rfl, rfl, rfl, bD rfl, rfl⟩⟩) (bH 9 (aP.refl _ _) rfl aj (by kernel_rfl) (by kernel_rfl) (by kernel_rfl) (fun w hk => ag CU rfl) (bH 10 (aP.refl _ _) rfl aj (by kernel_rfl) (by kernel_rfl) (by kernel_rfl) (fun w hk => have h := h.qR 9 rfl hk; az h 8 rfl aR rfl rfl) (bH 11 (aP.refl _ _) rfl aj (by kernel_rfl) (by kernel_rfl) (by kernel_rfl) (fun w hk => fe (pv := [(0, (I6 8)), (1, (I6 fT.locals))]) (out := [(I6 8), (I6 fT.locals), (I6 0), (I6 0), (.slice none 0 0)]) qW rfl ⟨0, 1, [(I6 8)], rfl, rfl, rfl, bD rfl, ⟨1, 1, [(I6 fT.locals)], rfl, rfl, rfl, bD rfl, rfl⟩⟩) ?_))))))))))
 obtain ⟨Fg, RX, hs⟩ := aL hs
 obtain ⟨Gh, hs⟩ := bG hs
 obtain ⟨Uj, RH⟩ : ∃ x, x = w := ⟨_, rfl⟩
 have rM : aP (fun x => x = b24) Uj w := RH ▸ aP.refl (fun x => x = b24) w
 refine rU RH.symm (om 5 12 (by kernel_rfl) rfl aj rfl aj ?_ ?_)
 refine aW Qs rfl rfl (zI N _ _ h.lt u21 fT.body (h.kL 7 rfl) va a (h.gV 1 rfl) fT.locals 0 _ RX) ?_
 rintro _ w ⟨Fh, MX, rfl, MZ, Fj⟩
 refine ⟨_, rfl, ?_⟩
 replace h := h.nz 132 Fh MZ Fj
 have Dj : ∀ b, ob MX b → Uj.heap.size ≤ b := fun b hb => Nat.le_trans rM.size (Fj b hb)
 replace rM := rM.grow Fh
 refine aA (aT rM (bE 12 (by kernel_rfl) rfl aj (xL (R := kU) (vs := [(.agg #[(I6 1), (I6 fT.locals), (I6 0), (I6 0), (.slice none 0 0)]), (.agg #[(I6 8), (I6 fT.locals), (I6 0), (I6 0), (.slice none 0 0)])]) (xs := [(⟨1, fT.locals, 0, 0, []⟩ : Ins), (⟨8, fT.locals, 0, 0, []⟩ : Ins)]) h 216 iH rfl rfl rfl ⟨⟨_, rfl, gB.nil⟩, ⟨⟨_, rfl, gB.nil⟩, trivial⟩⟩ rfl fun w JY h Hf Hg => ?_)))
 have UG : ∀ b, ob JY b → Uj.heap.size ≤ b := fun b hb => Nat.le_trans rM.size (Hg b hb)
 replace rM := rM.grow Hf
 refine aA (aT rM (bE 13 (by kernel_rfl) rfl aj ?_))
 have Hl := rM.size
 refine ng (R := kU) (m := [(⟨1, fT.locals, 0, 0, []⟩ : Ins), (⟨8, fT.locals, 0, 0, []⟩ : Ins)]) h 132 rfl (h.eT 216 rfl) iH rfl rfl rfl Gh.1 Gh.2 fun w Dk h Hm Ho => ?_
 replace rM := rM.Zi Hm Dj
 have UH := OH Hl Dj Ho
 refine aA (aT rM (dN 14 rM rfl (by kernel_rfl) (fun w hk => ag nP rfl) (bE 15 (by kernel_rfl) rfl aj (oC h 9 [(I6 fT.params), (I6 30), Dk] rfl xh rfl rfl rfl rfl (h.dD 132 rfl).one fun w h JZ => ?_))))
 replace rM := rM.same JZ
 refine aA (aT rM (gG (by kernel_rfl) (au ?_)))
 replace h := h.GQ 132 70 rfl rfl (by decide)
 exact bS (Dk, (Fg ++ [(⟨1, fT.locals, 0, 0, []⟩ : Ins), (⟨8, fT.locals, 0, 0, []⟩ : Ins)])) ⟨h.cn _, hs⟩
 refine xL (R := kU) (vs := [(.agg #[(I6 1), (I6 fT.locals), (I6 0), (I6 0), (.slice none 0 0)]), (.agg #[(I6 8), (I6 fT.locals), (I6 0), (I6 0), (.slice none 0 0)])]) (xs := [(⟨1, fT.locals, 0, 0, []⟩ : Ins), (⟨8, fT.locals, 0, 0, []⟩ : Ins)]) h 216 iH rfl rfl rfl ⟨⟨_, rfl, gB.nil⟩, ⟨⟨_, rfl, gB.nil⟩, trivial⟩⟩ rfl fun w JY h Hf Hg => ?_
 have UG : ∀ b, ob JY b → Uj.heap.size ≤ b := fun b hb => Nat.le_trans rM.size (Hg b hb)
 replace rM := rM.grow Hf
 refine aA (aT rM (bE 5 (by kernel_rfl) rfl aj (aW Qs rfl rfl (zI N _ _ h.lt u21 fT.body (h.kL 7 rfl) va a (h.gV 1 rfl) fT.locals 0 _ RX) ?_)))
 rintro _ w ⟨Fh, MX, rfl, MZ, Fj⟩
 refine ⟨_, rfl, ?_⟩
 replace h := h.nz 132 Fh MZ Fj
 have Dj : ∀ b, ob MX b → Uj.heap.size ≤ b := fun b hb => Nat.le_trans rM.size (Fj b hb)
 replace rM := rM.grow Fh
 refine aA (aT rM (bE 13 (by kernel_rfl) rfl aj ?_))
 have Hl := rM.size
 refine ng (R := kU) (m := [(⟨1, fT.locals, 0, 0, []⟩ : Ins), (⟨8, fT.locals, 0, 0, []⟩ : Ins)]) h 132 rfl (h.eT 216 rfl) iH rfl rfl rfl Gh.1 Gh.2 fun w Dk h Hm Ho => ?_
 replace rM := rM.Zi Hm Dj
 have UH := OH Hl Dj Ho
 refine aA (aT rM (dN 14 rM rfl (by kernel_rfl) (fun w hk => ag nP rfl) (bE 15 (by kernel_rfl) rfl aj (oC h 9 [(I6 fT.params), (I6 30), Dk] rfl xh rfl rfl rfl rfl (h.dD 132 rfl).one fun w h JZ => ?_))))
 replace rM := rM.same JZ
 refine aA (aT rM (gG (by kernel_rfl) (au ?_)))
 replace h := h.GQ 132 70 rfl rfl (by decide)
 exact bS (Dk, (Fg ++ [(⟨1, fT.locals, 0, 0, []⟩ : Ins), (⟨8, fT.locals, 0, 0, []⟩ : Ins)])) ⟨h.cn _, hs⟩
 rw [fH (hik ▸ e14), fO] at hs
 refine nE (aa (ah (v := v7) rfl) (aa (ae (v := v7) rfl) (nR (bR (v := v7) Tryz.results39 rfl ?_))))
 obtain rfl := fM hs
 exact ⟨h.grown, _, rfl, (h.lQ 5 rfl).1, (h.lQ 5 rfl).2⟩
def dX (x6 : Bool) : Bool × Bool × Bool × Bool :=
  bif x6 then (false, false, false, true) else (false, false, false, false)
def dS (a : Int) (x3 : Bool) : Bool × Bool × Bool × Bool :=
  bif x3 then (true, true, false, true) else bif decide ((a : Int) = 3) then (true, true, true, true) else bif decide ((a : Int) = 10) then dX (decide ((a : Int) = 10)) else dX (decide ((a : Int) = 12))
def dH (a : Int) (x1 : Bool) : Bool × Bool × Bool × Bool :=
  bif x1 then (true, false, false, true) else bif decide ((a : Int) = 2) then dS a (decide ((a : Int) = 2)) else bif decide ((a : Int) = 4) then dS a (decide ((a : Int) = 4)) else dS a (decide ((a : Int) = 6))
def bK (a : Int) : Bool × Bool × Bool × Bool :=
  bif decide ((a : Int) = 1) then dH a (decide ((a : Int) = 1)) else bif decide ((a : Int) = 5) then dH a (decide ((a : Int) = 5)) else bif decide ((a : Int) = 8) then dH a (decide ((a : Int) = 8)) else bif decide ((a : Int) = 9) then dH a (decide ((a : Int) = 9)) else bif decide ((a : Int) = 11) then dH a (decide ((a : Int) = 11)) else bif decide ((a : Int) = 13) then dH a (decide ((a : Int) = 13)) else dH a (decide ((a : Int) = 7))
theorem RY (w0 : World) (M : BS) (hM : ∀ b, M b → b < w0.heap.size) (a : Int) (r : Bool × Bool × Bool × Bool) (hs : bK a = r) :
    Calls Tryz.prog 115 #[(I6 a)] w0 (fun e w' => Grow w0 w' ∧ e = .returned (.tuple #[.bool r.1, .bool r.2.1, .bool r.2.2.1, .bool r.2.2.2])) := by
 refine aQ (args := [(I6 a)]) Tryz.func115 rfl Tryz.ntmps115 (bD rfl) ?_
 have h := SH.init hM
 refine nG (aa (ae (v := (.bool (false))) rfl) (aa (ae (v := (.bool (false))) rfl) (aa (ae (v := (.bool (false))) rfl) (aa (ae (v := (.bool (false))) rfl) (nK (aa (ah (v := (I6 a)) rfl) (nN (aN (cu (σ := Bool) (inl (rg 7 8)) (fun x1 => [(7, (.bool (x1)))]) (fun x1 w => SH w0 M BE w (hset []) ∧ dH a x1 = r) ?_ ?_)))))))))
 rintro x1 w dR ⟨h, hs⟩
 refine aI hs rfl (fun c2 hs => ?_) (fun c2 hs => ?_)
 refine nG (aa (ae (v := (.bool (true))) rfl) (aa (ae (v := (.bool (false))) rfl) (aa (ae (v := (.bool (false))) rfl) (aa (ae (v := (.bool (true))) rfl) (nR (aB (ay (Zt (v1 := (.bool (true))) (v2 := (.bool (false))) (v3 := (.bool (false))) (v4 := (.bool (true))) Tryz.results115 rfl rfl rfl rfl ?_))))))))
 obtain rfl := hs
 exact ⟨h.grown, rfl⟩
 refine cu (σ := Bool) (inl [15, 16, 17, 18]) (fun x3 => [(15, (.bool (x3)))]) (fun x3 w => SH w0 M BE w (hset []) ∧ dS a x3 = r) ?_ ?_
 rintro x3 w dR ⟨h, hs⟩
 refine aI hs rfl (fun c4 hs => ?_) (fun c4 hs => ?_)
 refine nG (aa (ae (v := (.bool (true))) rfl) (aa (ae (v := (.bool (true))) rfl) (aa (ae (v := (.bool (false))) rfl) (aa (ae (v := (.bool (true))) rfl) (nR (aB (ay (Zt (v1 := (.bool (true))) (v2 := (.bool (true))) (v3 := (.bool (false))) (v4 := (.bool (true))) Tryz.results115 rfl rfl rfl rfl ?_))))))))
 obtain rfl := hs
 exact ⟨h.grown, rfl⟩
 refine nG (aa (bu rfl rfl) (aa (ae (v := (.bool (decide ((a : Int) = 3)))) rfl) (nN (aI hs rfl (fun c5 hs => ?_) (fun c5 hs => ?_)))))
 refine nG (aa (ae (v := (.bool (true))) rfl) (aa (ae (v := (.bool (true))) rfl) (aa (ae (v := (.bool (true))) rfl) (aa (ae (v := (.bool (true))) rfl) (nR (aB (ay (Zt (v1 := (.bool (true))) (v2 := (.bool (true))) (v3 := (.bool (true))) (v4 := (.bool (true))) Tryz.results115 rfl rfl rfl rfl ?_))))))))
 obtain rfl := hs
 exact ⟨h.grown, rfl⟩
 refine cu (σ := Bool) (inl [21, 22, 23]) (fun x6 => [(21, (.bool (x6)))]) (fun x6 w => SH w0 M BE w (hset []) ∧ dX x6 = r) ?_ ?_
 rintro x6 w dR ⟨h, hs⟩
 refine aI hs rfl (fun c7 hs => ?_) (fun c7 hs => ?_)
 refine nG (aa (ae (v := (.bool (false))) rfl) (aa (ae (v := (.bool (false))) rfl) (aa (ae (v := (.bool (false))) rfl) (aa (ae (v := (.bool (true))) rfl) (nR (aB (ay (Zt (v1 := (.bool (false))) (v2 := (.bool (false))) (v3 := (.bool (false))) (v4 := (.bool (true))) Tryz.results115 rfl rfl rfl rfl ?_))))))))
 obtain rfl := hs
 exact ⟨h.grown, rfl⟩
 refine aH (ax (ak (nG (aa (ae (v := (.bool (false))) rfl) (aa (ae (v := (.bool (false))) rfl) (aa (ae (v := (.bool (false))) rfl) (aa (ae (v := (.bool (false))) rfl) (nR (Zt (v1 := (.bool (false))) (v2 := (.bool (false))) (v3 := (.bool (false))) (v4 := (.bool (false))) Tryz.results115 rfl rfl rfl rfl ?_)))))))))
 obtain rfl := hs
 exact ⟨h.grown, rfl⟩
 refine nG (aa (bu rfl rfl) (aa (ae (v := (.bool (decide ((a : Int) = 10)))) rfl) (nN (aI hs rfl (fun c8 hs => ?_) (fun c8 hs => ?_)))))
 refine aH (au ?_)
 exact bS (decide ((a : Int) = 10)) ⟨h.cn _, hs⟩
 refine aD (aa (bu rfl rfl) (aa (ae (v := (.bool (decide ((a : Int) = 12)))) rfl) (aA (au ?_))))
 exact bS (decide ((a : Int) = 12)) ⟨h.cn _, hs⟩
 refine nG (aa (bu rfl rfl) (aa (ae (v := (.bool (decide ((a : Int) = 2)))) rfl) (nN (aI hs rfl (fun c9 hs => ?_) (fun c9 hs => ?_)))))
 refine aH (au ?_)
 exact bS (decide ((a : Int) = 2)) ⟨h.cn _, hs⟩
 refine nG (aa (bu rfl rfl) (aa (ae (v := (.bool (decide ((a : Int) = 4)))) rfl) (nN (aI hs rfl (fun c10 hs => ?_) (fun c10 hs => ?_)))))
 refine aH (au ?_)
 exact bS (decide ((a : Int) = 4)) ⟨h.cn _, hs⟩
 refine aD (aa (bu rfl rfl) (aa (ae (v := (.bool (decide ((a : Int) = 6)))) rfl) (aA (au ?_))))
 exact bS (decide ((a : Int) = 6)) ⟨h.cn _, hs⟩
 refine nG (aa (bu rfl rfl) (aa (ae (v := (.bool (decide ((a : Int) = 1)))) rfl) (nN (aI hs rfl (fun c11 hs => ?_) (fun c11 hs => ?_)))))
 refine aH (au ?_)
 exact bS (decide ((a : Int) = 1)) ⟨h.cn _, hs⟩
 refine nG (aa (bu rfl rfl) (aa (ae (v := (.bool (decide ((a : Int) = 5)))) rfl) (nN (aI hs rfl (fun c12 hs => ?_) (fun c12 hs => ?_)))))
 refine aH (au ?_)
 exact bS (decide ((a : Int) = 5)) ⟨h.cn _, hs⟩
 refine nG (aa (bu rfl rfl) (aa (ae (v := (.bool (decide ((a : Int) = 8)))) rfl) (nN (aI hs rfl (fun c13 hs => ?_) (fun c13 hs => ?_)))))
 refine aH (au ?_)
 exact bS (decide ((a : Int) = 8)) ⟨h.cn _, hs⟩
 refine nG (aa (bu rfl rfl) (aa (ae (v := (.bool (decide ((a : Int) = 9)))) rfl) (nN (aI hs rfl (fun c14 hs => ?_) (fun c14 hs => ?_)))))
 refine aH (au ?_)
 exact bS (decide ((a : Int) = 9)) ⟨h.cn _, hs⟩
 refine nG (aa (bu rfl rfl) (aa (ae (v := (.bool (decide ((a : Int) = 11)))) rfl) (nN (aI hs rfl (fun c15 hs => ?_) (fun c15 hs => ?_)))))
 refine aH (au ?_)
 exact bS (decide ((a : Int) = 11)) ⟨h.cn _, hs⟩
 refine nG (aa (bu rfl rfl) (aa (ae (v := (.bool (decide ((a : Int) = 13)))) rfl) (nN (aI hs rfl (fun c16 hs => ?_) (fun c16 hs => ?_)))))
 refine aH (au ?_)
 exact bS (decide ((a : Int) = 13)) ⟨h.cn _, hs⟩
 refine aD (aa (bu rfl rfl) (aa (ae (v := (.bool (decide ((a : Int) = 7)))) rfl) (aA (au ?_))))
 exact bS (decide ((a : Int) = 7)) ⟨h.cn _, hs⟩
def dM (a : Bool) (b : Int) (nM : Int) : Bool :=
  ((!a) || (decide ((0 : Int) ≤ b) && decide ((b : Int) < nM)))
theorem EG (w0 : World) (M : BS) (hM : ∀ b, M b → b < w0.heap.size) (a : Bool) (b : Int) (nM : Int) (q0 : Nat) (hq0 : ∃ E, w0.heap[q0]? = some (.cells #[(I6 nM)] E (0, 0))) (r : Bool) (hs : dM a b nM = r) :
    Calls Tryz.prog 116 #[(.bool (a)), (I6 b), (.pointer (some ⟨q0, 0, none⟩))] w0 (fun e w' => Grow w0 w' ∧ e = .returned (.bool r)) := by
 refine aQ (args := [(.bool (a)), (I6 b), (.pointer (some ⟨q0, 0, none⟩))]) Tryz.func116 rfl Tryz.ntmps116 (bD rfl) ?_
 have h := SH.init hM
 replace h := h.Mk 1 (cs := [(I6 nM)]) hq0 bA
 refine nG (aa (ae (v := (.bool (false))) rfl) (nJ (aa (ah (v := (.bool (a))) rfl) (aa (fw rfl) (aa (ah (v := (.bool ((!a)))) rfl) (aF rfl rfl (fun q => ah (v := (I6 b)) rfl) (aF rfl rfl (fun q => rH (eu q) rfl) (aF rfl rfl (fun q => ah (v := (.bool (decide ((0 : Int) ≤ b)))) (eu q)) (lS ((!a) == false) rfl rfl (fun q => ah (v := (I6 b)) rfl) (lS ((!a) == false) rfl rfl (fun q => fo (k := 0) h 1 rfl aR rfl rfl) (lS ((!a) == false) rfl rfl (fun q => eO (eu q) (eu q)) (aF rfl rfl (fun q => fZ (eu q) (TP q) mY) (aa (jD rfl rfl mY) (aa (ae (v := (.bool (((!a) || (decide ((0 : Int) ≤ b) && decide ((b : Int) < nM)))))) rfl) (nR (bR (v := (.bool (((!a) || (decide ((0 : Int) ≤ b) && decide ((b : Int) < nM)))))) Tryz.results116 rfl ?_))))))))))))))))
 obtain rfl := hs
 exact ⟨h.grown, rfl⟩
def lT (d : Int) (x20 : Int) (s : Unit) (nx22 : Unit → Option Int) : Option Int :=
  bif (!(decide ((0 : Int) ≤ x20) && decide ((x20 : Int) < d))) then some 3 else nx22 ()
def oV (s : Unit) : Option Int :=
  some 0
def dI (x9 : Bool) (a : Ins) (b : Int) (L9 : Int) (c : List bX) (y13 : Int) (Al : Int) (d : Int) (Y2 : Int) : Option Int :=
  bif (!x9) then some 3 else bif (((decide ((a.a : Int) ≠ Y2) || decide ((a.b : Int) ≠ L9)) || decide ((a.c : Int) ≠ y13)) || decide (((a.args.length : Int) : Int) ≠ Al)) then some 4 else bif decide ((a.op : Int) = 7) then each (lT d) oV a.args () else some 0
def bO (a : Ins) (b : Int) (c : List bX) (d : Int) (x9 : Bool) (Al : Int) (jF : Int) (L9 : Int) (y13 : Int) : Option Int :=
  bif decide ((a.op : Int) = 12) then dI x9 a b L9 c y13 Al d 0 else dI x9 a b L9 c y13 Al d jF
def df (a : Ins) (b : Int) (c : List bX) (d : Int) (u6 : Bool) : Option Int :=
  bif u6 then bO a b c d ((bK a.op).2.2.2) 0 a.a 0 0 else bif decide ((a.op : Int) = 10) then bO a b c d ((bK a.op).2.2.2) 0 0 0 0 else bO a b c d ((bK a.op).2.2.2) 0 a.a a.b 0
def di (a : Ins) (b : Int) (c : List bX) (d : Int) (e : Int) (x50 : Bool) : Option Int :=
  bif x50 then bO a b c d (decide ((0 : Int) ≤ a.b) && decide ((a.b : Int) < e)) 0 a.a a.b 0 else bif decide ((a.op : Int) = 7) then bif (decide ((a.b : Int) < 0) || decide (((c.length : Int) : Int) ≤ a.b)) then some 5 else (idx c a.b).bind fun x54 => bO a b c d ((bK a.op).2.2.2) x54.params a.a a.b 0 else bif decide ((a.op : Int) = 8) then df a b c d (decide ((a.op : Int) = 8)) else bif decide ((a.op : Int) = 9) then df a b c d (decide ((a.op : Int) = 9)) else df a b c d (decide ((a.op : Int) = 11))
def dm (a : Ins) (b : Int) (c : List bX) (d : Int) (e : Int) (x34 : Bool) : Option Int :=
  bif x34 then bO a b c d (decide ((0 : Int) ≤ a.c) && decide ((a.c : Int) < 4)) 0 a.a a.b a.c else bif decide ((a.op : Int) = 3) then bif decide (((a.args.length : Int) : Int) = 1) then (idx a.args 0).bind fun x38 => bO a b c d (decide ((1 : Int) ≤ x38) && decide ((x38 : Int) ≤ 5)) 1 a.a a.b a.c else bO a b c d false 1 a.a a.b a.c else bif decide ((a.op : Int) = 12) then di a b c d e (decide ((a.op : Int) = 12)) else di a b c d e (decide ((a.op : Int) = 13))
def eX (a : Ins) (b : Int) (c : List bX) (d : Int) (e : Int) : Option Int :=
  bif (!(bK a.op).2.2.2) then some 4 else bif (((!((!(bK a.op).1) || (decide ((0 : Int) ≤ a.a) && decide ((a.a : Int) < d)))) || (!(dM ((bK a.op).2.1) a.b d))) || (!(dM ((bK a.op).2.2.1) a.c d))) then some 3 else bif decide ((a.op : Int) = 1) then bO a b c d (decide ((-1000000000 : Int) ≤ a.b) && decide ((a.b : Int) ≤ 1000000000)) 0 a.a a.b 0 else bif decide ((a.op : Int) = 5) then bO a b c d (decide ((1 : Int) ≤ a.b) && decide ((a.b : Int) ≤ 4)) 0 a.a a.b 0 else bif decide ((a.op : Int) = 4) then dm a b c d e (decide ((a.op : Int) = 4)) else dm a b c d e (decide ((a.op : Int) = 6))
theorem QI (w0 : World) (M : BS) (hM : ∀ b, M b → b < w0.heap.size) (a : Ins) (AX : Value) (ha4 : gB eY w0 BE M AX a.args) (b : Int) (vc : Value) (c : List bX) (hc : gB jE w0 BE M vc c) (d : Int) (e : Int) (r : Int) (hs : eX a b c d e = some r) :
    Calls Tryz.prog 86 #[(.agg #[(I6 a.op), (I6 a.a), (I6 a.b), (I6 a.c), AX]), (I6 b), vc, (I6 d), (I6 e)] w0 (fun e w' => Grow w0 w' ∧ e = .returned (.int .i64 r)) := by
 refine aQ (args := [(.agg #[(I6 a.op), (I6 a.a), (I6 a.b), (I6 a.c), AX]), (I6 b), vc, (I6 d), (I6 e)]) Tryz.func86 rfl Tryz.ntmps86 (bD rfl) ?_
 have h := SH.init hM
 replace h := h.fE 1 ha4 bA
 replace h := h.fE 2 hc (bN bA)
 have hl_c := hc.bT
 refine nG (kM (cs := [(I6 a.op), (I6 a.a), (I6 a.b), (I6 a.c), AX]) h 3 rfl rfl fun w b1 h => kM (cs := [(I6 d)]) h 4 rfl rfl fun w b2 h => aa (ae (v := (I6 0)) rfl) (nJ (aa (ag ni rfl) (aa (az h 3 rfl aR rfl rfl) (aW fnOk115 rfl rfl (RY _ _ h.lt a.op _ rfl) ?_)))))
 rintro _ w ⟨k3, rfl⟩
 refine ⟨_, rfl, ?_⟩
 replace h := h.grow k3
 refine aa (ah (v := (.tuple #[(.bool ((bK a.op).1)), (.bool ((bK a.op).2.1)), (.bool ((bK a.op).2.2.1)), (.bool ((bK a.op).2.2.2))])) rfl) (aa (bg rfl rfl) (aa (bg rfl rfl) (aa (bg rfl rfl) (aa (bg rfl rfl) (aa (ae (v := (.bool ((bK a.op).1))) rfl) (aa (ae (v := (.bool ((bK a.op).2.1))) rfl) (aa (ae (v := (.bool ((bK a.op).2.2.1))) rfl) (aa (ae (v := (.bool ((bK a.op).2.2.2))) rfl) (nK (aa (ah (v := (.bool ((bK a.op).2.2.2))) rfl) (aa (fw rfl) (nN (aI hs rfl (fun c4 hs => ?_) (fun c4 hs => ?_))))))))))))))
 refine nG (aa (ae (v := (I6 4)) rfl) (nR (ay (bR (v := (I6 4)) Tryz.results86 rfl ?_))))
 obtain rfl := fM hs
 exact ⟨h.grown, rfl⟩
 refine nS (aa (sU (c1 := []) (c2 := [(.pointer (some ⟨b2, 0, none⟩))]) rfl rfl) (aa (ae (v := (.func (.func 116) #[] #[(.pointer (some ⟨b2, 0, none⟩))])) rfl) (nK (aa (ah (v := (.func (.func 116) #[] #[(.pointer (some ⟨b2, 0, none⟩))])) rfl) (aa (ah (v := (.bool ((bK a.op).1))) rfl) (aa (ag jy rfl) (aa (az h 3 rfl aR rfl rfl) (jY (args := [(.bool ((bK a.op).1)), (I6 a.a), (.pointer (some ⟨b2, 0, none⟩))]) LV rfl rfl (aQ (args := [(.bool ((bK a.op).1)), (I6 a.a), (.pointer (some ⟨b2, 0, none⟩))]) Tryz.func116 rfl Tryz.ntmps116 (bD rfl) (nG (aa (ae (v := (.bool (false))) rfl) (nJ ?_))))))))))))
 refine aa (ah (v := (.bool ((bK a.op).1))) rfl) (aa (fw rfl) (aa (ah (v := (.bool ((!(bK a.op).1)))) rfl) (aF rfl rfl (fun q => ah (v := (I6 a.a)) rfl) (aF rfl rfl (fun q => rH (eu q) rfl) (aF rfl rfl (fun q => ah (v := (.bool (decide ((0 : Int) ≤ a.a)))) (eu q)) (lS ((!(bK a.op).1) == false) rfl rfl (fun q => ah (v := (I6 a.a)) rfl) (lS ((!(bK a.op).1) == false) rfl rfl (fun q => az h 4 rfl aR rfl rfl) (lS ((!(bK a.op).1) == false) rfl rfl (fun q => eO (eu q) (eu q)) (aF rfl rfl (fun q => fZ (eu q) (TP q) mY) (aa (jD rfl rfl mY) (aa (ae (v := (.bool (((!(bK a.op).1) || (decide ((0 : Int) ≤ a.a) && decide ((a.a : Int) < d)))))) rfl) (nR (bR (v := (.bool (((!(bK a.op).1) || (decide ((0 : Int) ≤ a.a) && decide ((a.a : Int) < d)))))) Tryz.results116 rfl (⟨_, rfl, ?_⟩))))))))))))))
 refine aa (fw rfl) (aa (ah (v := (.bool ((!((!(bK a.op).1) || (decide ((0 : Int) ≤ a.a) && decide ((a.a : Int) < d))))))) rfl) (aF rfl rfl (fun q => ah (v := (.func (.func 116) #[] #[(.pointer (some ⟨b2, 0, none⟩))])) rfl) (aF rfl rfl (fun q => ah (v := (.bool ((bK a.op).2.1))) rfl) (aF rfl rfl (fun q => ag gN rfl) (aF rfl rfl (fun q => az h 3 rfl aR (eu q) rfl) (Ml [(.pointer (some ⟨b2, 0, none⟩))] rfl rfl LV (fun q => (eu q)) (fun q => jP (eu q) (jP (eu q) rfl)) (EG _ _ h.lt ((bK a.op).2.1) a.b d b2 (h.uO 4 rfl) _ rfl) fun w k5 => ?_))))))
 replace h := h.grow k5
 refine aF rfl rfl (fun q => fw (eu q)) (aa (jD rfl rfl mY) (aa (ah (v := (.bool (((!((!(bK a.op).1) || (decide ((0 : Int) ≤ a.a) && decide ((a.a : Int) < d)))) || (!(dM ((bK a.op).2.1) a.b d)))))) rfl) (aF rfl rfl (fun q => ah (v := (.func (.func 116) #[] #[(.pointer (some ⟨b2, 0, none⟩))])) rfl) (aF rfl rfl (fun q => ah (v := (.bool ((bK a.op).2.2.1))) rfl) (aF rfl rfl (fun q => ag nk rfl) (aF rfl rfl (fun q => az h 3 rfl aR (eu q) rfl) (Ml [(.pointer (some ⟨b2, 0, none⟩))] rfl rfl LV (fun q => (eu q)) (fun q => jP (eu q) (jP (eu q) rfl)) (EG _ _ h.lt ((bK a.op).2.2.1) a.c d b2 (h.uO 4 rfl) _ rfl) fun w k6 => ?_)))))))
 replace h := h.grow k6
 refine aF rfl rfl (fun q => fw (eu q)) (aa (jD rfl rfl mY) (nN (aI hs rfl (fun c7 hs => ?_) (fun c7 hs => ?_))))
 refine nG (aa (ae (v := (I6 3)) rfl) (nR (ay (bR (v := (I6 3)) Tryz.results86 rfl ?_))))
 obtain rfl := fM hs
 exact ⟨h.grown, rfl⟩
 refine nS (aa (ag nk rfl) (aa (az h 3 rfl aR rfl rfl) (aa (rH rfl rfl) (aa (ah (v := (.bool (decide ((0 : Int) ≤ a.c)))) rfl) (aF rfl rfl (fun q => ag nk rfl) (aF rfl rfl (fun q => az h 3 rfl aR (eu q) rfl) (aF rfl rfl (fun q => eO (eu q) rfl) (aa (fZ rfl rfl mY) (aa (ae (v := (.bool ((decide ((0 : Int) ≤ a.c) && decide ((a.c : Int) < 4))))) rfl) (nJ (aa (ae (v := (I6 0)) rfl) (nJ (aa (ag ni rfl) (aa (az h 3 rfl aR rfl rfl) ?_))))))))))))))
 refine aa (ag jy rfl) (aa (az h 3 rfl aR rfl rfl) (aa (ag gN rfl) (aa (az h 3 rfl aR rfl rfl) (aa (fe (pv := [(0, (I6 a.op)), (1, (I6 a.a)), (2, (I6 a.b))]) (out := [(I6 a.op), (I6 a.a), (I6 a.b), (I6 0), (.slice none 0 0)]) qW rfl ⟨0, 1, [(I6 a.op)], rfl, rfl, rfl, bD rfl, ⟨1, 1, [(I6 a.a)], rfl, rfl, rfl, bD rfl, ⟨2, 1, [(I6 a.b)], rfl, rfl, rfl, bD rfl, rfl⟩⟩⟩) (bI h 5 oF fun w b8 h => dK (vs := [(I6 a.op), (I6 a.a), (I6 a.b), (I6 0), (.slice none 0 0)]) h 5 [(I6 a.op), (I6 a.a), (I6 a.b), (I6 0), (.slice none 0 0)] rfl oF rfl rfl rfl rfl rfl (ai rfl (ai rfl (ai rfl (ai rfl (ai rfl aS))))) fun w h => nN (cu (σ := Bool × Int × Int × Int × Int) (inl ([10, 14, 17] ++ rg 69 91)) (fun ⟨x9, Al, jF, L9, y13⟩ => [(14, (.bool (x9))), (17, (I6 Al))]) (fun ⟨x9, Al, jF, L9, y13⟩ w => SH w0 M BE w (hset [(1, .sr eY AX a.args), (3, .blk b1 [(I6 a.op), (I6 a.a), (I6 a.b), (I6 a.c), AX]), (4, .blk b2 [(I6 d)]), (5, .blk b8 [(I6 a.op), (I6 jF), (I6 L9), (I6 y13), (.slice none 0 0)])]) ∧ bO a b c d x9 Al jF L9 y13 = some r) ?_ ?_))))))
 rintro ⟨x9, Al, jF, L9, y13⟩ w dR ⟨h, hs⟩
 refine cu (σ := Int) (inl [160, 161, 162, 163]) (fun Y2 => []) (fun Y2 w => SH w0 M BE w (hset [(1, .sr eY AX a.args), (3, .blk b1 [(I6 a.op), (I6 a.a), (I6 a.b), (I6 a.c), AX]), (4, .blk b2 [(I6 d)]), (5, .blk b8 [(I6 a.op), (I6 Y2), (I6 L9), (I6 y13), (.slice none 0 0)])]) ∧ dI x9 a b L9 c y13 Al d Y2 = some r) ?_ ?_
 rintro Y2 w dR ⟨h, hs⟩
 refine aM (nG (aa (ah (v := (.bool (x9))) rfl) (aa (fw rfl) (nN (aI hs rfl (fun c15 hs => ?_) (fun c15 hs => ?_))))))
 refine nG (aa (ae (v := (I6 3)) rfl) (nR (ay (bR (v := (I6 3)) Tryz.results86 rfl ?_))))
 obtain rfl := fM hs
 exact ⟨h.grown, rfl⟩
 refine aH (ak (aM (nG (aa (ag jy rfl) (aa (az h 3 rfl aR rfl rfl) (aa (ag jy rfl) (aa (az h 5 rfl aR rfl rfl) (aa (gM rfl rfl) (aa (ah (v := (.bool (decide ((a.a : Int) ≠ Y2)))) rfl) (aF rfl rfl (fun q => ag gN rfl) (aF rfl rfl (fun q => az h 3 rfl aR (eu q) rfl) (aF rfl rfl (fun q => ag gN rfl) (aF rfl rfl (fun q => az h 5 rfl aR (eu q) rfl) (aF rfl rfl (fun q => gM (eu q) (eu q)) (aa (jD rfl rfl mY) (aa (ah (v := (.bool ((decide ((a.a : Int) ≠ Y2) || decide ((a.b : Int) ≠ L9))))) rfl) (aF rfl rfl (fun q => ag nk rfl) (aF rfl rfl (fun q => az h 3 rfl aR (eu q) rfl) (aF rfl rfl (fun q => ag nk rfl) (aF rfl rfl (fun q => az h 5 rfl aR (eu q) rfl) (aF rfl rfl (fun q => gM (eu q) (eu q)) (aa (jD rfl rfl mY) ?_))))))))))))))))))))))
 refine aa (ah (v := (.bool (((decide ((a.a : Int) ≠ Y2) || decide ((a.b : Int) ≠ L9)) || decide ((a.c : Int) ≠ y13))))) rfl) (aF rfl rfl (fun q => ag rQ rfl) (aF rfl rfl (fun q => az h 3 rfl qU (eu q) rfl) (aF rfl rfl (fun q => bM bZ (eu q) (h.gV 1 rfl)) (aF rfl rfl (fun q => ah (v := (I6 Al)) rfl) (aF rfl rfl (fun q => gM (eu q) (eu q)) (aa (jD rfl rfl mY) (nN (aI hs rfl (fun c16 hs => ?_) (fun c16 hs => ?_)))))))))
 refine nG (aa (ae (v := (I6 4)) rfl) (nR (ay (bR (v := (I6 4)) Tryz.results86 rfl ?_))))
 obtain rfl := fM hs
 exact ⟨h.grown, rfl⟩
 refine aH (ak (aM (nG (aa (ag ni rfl) (aa (az h 3 rfl aR rfl rfl) (aa (bu rfl rfl) (nN (aI hs rfl (fun c17 hs => ?_) (fun c17 hs => ?_)))))))))
 refine nG (aa (ag rQ rfl) (aa (az h 3 rfl qU rfl rfl) (aa (bM bZ rfl (h.gV 1 rfl)) (aa (ah (v := (I6 0)) rfl) (nN (aN (gD (σ := Nat × Int) (inl ([10, 20] ++ rg 198 9)) (fun ⟨k18, i19⟩ => [(198, (I6 i19))]) (fun ⟨k18, i19⟩ w => SH w0 M BE w (hset [(1, .sr eY AX a.args), (4, .blk b2 [(I6 d)])]) ∧ i19 = (k18 : Int) ∧ each (lT d) oV (a.args.drop k18) () = some r) (fun ⟨k18, i19⟩ => a.args.length - k18) ⟨0, 0⟩ ⟨rfl, trivial⟩ ?_ ?_)))))))
 exact ⟨h.cn _, rfl, hs⟩
 rintro ⟨k18, i19⟩ w dR ⟨h, hik, hs⟩
 refine nG ?_
 refine aa (eO rfl rfl) (nN ?_)
 refine aM (gQ rfl (fun e23 => ?_) (fun e23 => ?_))
 refine aH (ak ?_)
 obtain ⟨x20, e24a, e24b⟩ := fG (hik ▸ e23)
 rw [e24b, dU] at hs
 generalize hnx22 : each (lT d) oV (a.args.drop (k18 + 1)) = nx22 at hs
 have e24r := fJ ((h.gV 1 rfl)).bT hik e23
 refine aM (aN (nG ?_))
 obtain ⟨b26, o27, cs28, h, r29, i25⟩ := h.xI 1 6 rfl bZ rfl (ig hik) (fI hik e24a)
 obtain rfl := r29
 refine aa (i25 _ _ _ _ _ _ _ _ _ rfl rfl) (aa (fo (k := 0) h 6 rfl aR rfl rfl) (aa (ae (v := (I6 x20)) rfl) (nJ (aa (ah (v := (.func (.func 116) #[] #[(.pointer (some ⟨b2, 0, none⟩))])) rfl) (aa (ah (v := (I6 x20)) rfl) (jY (args := [(.bool (true)), (I6 x20), (.pointer (some ⟨b2, 0, none⟩))]) LV rfl rfl (aQ (args := [(.bool (true)), (I6 x20), (.pointer (some ⟨b2, 0, none⟩))]) Tryz.func116 rfl Tryz.ntmps116 (bD rfl) (nG (aa (ae (v := (.bool (false))) rfl) (nJ (aa (ah (v := (.bool (true))) rfl) (aa (fw rfl) (aa (ah (v := (.bool (false))) rfl) (cz rfl rfl (aa (ah (v := (I6 x20)) rfl) (cz rfl rfl ?_))))))))))))))))
 refine aa (rH rfl rfl) (cz rfl rfl (aa (ah (v := (.bool (decide ((0 : Int) ≤ x20)))) rfl) (aF rfl rfl (fun q => ah (v := (I6 x20)) rfl) (aF rfl rfl (fun q => az h 4 rfl aR rfl rfl) (aF rfl rfl (fun q => eO (eu q) (eu q)) (cz rfl rfl (aa (fZ rfl rfl mY) (aa (bY (b := false) (v := (.bool ((decide ((0 : Int) ≤ x20) && decide ((x20 : Int) < d))))) rfl rfl) (aa (ae (v := (.bool ((decide ((0 : Int) ≤ x20) && decide ((x20 : Int) < d))))) rfl) (nR (bR (v := (.bool ((decide ((0 : Int) ≤ x20) && decide ((x20 : Int) < d))))) Tryz.results116 rfl (⟨_, rfl, ?_⟩))))))))))))
 refine aa (fw rfl) (nN (aI hs rfl (fun c30 hs => ?_) (fun c30 hs => ?_)))
 refine nG (aa (ae (v := (I6 3)) rfl) (nR (aB (ay (ay (aB (ay (bR (v := (I6 3)) Tryz.results86 rfl ?_))))))))
 obtain rfl := fM hs
 exact ⟨h.grown, rfl⟩
 refine aH (ax (ak (aD (aa (dQ rfl rfl e24r) (aa (ah (v := (I6 ((i19 + 1)))) rfl) (aA (au ?_)))))))
 subst hnx22
 exact jM ⟨k18 + 1, i19 + 1⟩ ⟨h.cn _, by omega, hs⟩ (by have := oD e23; dsimp only; omega)
 rw [fH (hik ▸ e23), fO] at hs
 refine nE (aa (ae (v := (I6 0)) rfl) (nR (bR (v := (I6 0)) Tryz.results86 rfl ?_)))
 obtain rfl := fM hs
 exact ⟨h.grown, rfl⟩
 refine nS (aa (ae (v := (I6 0)) rfl) (nR (bR (v := (I6 0)) Tryz.results86 rfl ?_)))
 obtain rfl := fM hs
 exact ⟨h.grown, rfl⟩
 refine nG (aa (ag ni rfl) (aa (az h 3 rfl aR rfl rfl) (aa (bu rfl rfl) (nN (aI hs rfl (fun c31 hs => ?_) (fun c31 hs => ?_))))))
 refine aD (aa (ag jy rfl) (gP h 5 [(I6 a.op), (I6 0), (I6 L9), (I6 y13), (.slice none 0 0)] rfl aR rfl rfl rfl rfl rfl fun w h => aA (au ?_)))
 exact bS 0 ⟨h.cn _, hs⟩
 refine aH (au ?_)
 exact bS jF ⟨h.cn _, hs⟩
 refine nG (aa (ag ni rfl) (aa (az h 3 rfl aR rfl rfl) (nN (aN (nG (aa (bu rfl rfl) (aa (ae (v := (.bool (decide ((a.op : Int) = 1)))) rfl) (nN (aI hs rfl (fun c32 hs => ?_) (fun c32 hs => ?_))))))))))
 refine aD (aa (ag gN rfl) (aa (az h 3 rfl aR rfl rfl) (aa (rH rfl rfl) (aa (ah (v := (.bool (decide ((-1000000000 : Int) ≤ a.b)))) rfl) (aF rfl rfl (fun q => ag gN rfl) (aF rfl rfl (fun q => az h 3 rfl aR (eu q) rfl) (aF rfl rfl (fun q => II (eu q) rfl) (aa (fZ rfl rfl mY) (aa (ae (v := (.bool ((decide ((-1000000000 : Int) ≤ a.b) && decide ((a.b : Int) ≤ 1000000000))))) rfl) (aA (ax (au ?_))))))))))))
 exact bS ((decide ((-1000000000 : Int) ≤ a.b) && decide ((a.b : Int) ≤ 1000000000)), 0, a.a, a.b, 0) ⟨h.cn _, hs⟩
 refine nG (aa (bu rfl rfl) (aa (ae (v := (.bool (decide ((a.op : Int) = 5)))) rfl) (nN (aI hs rfl (fun c33 hs => ?_) (fun c33 hs => ?_)))))
 refine aD (aa (ag gN rfl) (aa (az h 3 rfl aR rfl rfl) (aa (rH rfl rfl) (aa (ah (v := (.bool (decide ((1 : Int) ≤ a.b)))) rfl) (aF rfl rfl (fun q => ag gN rfl) (aF rfl rfl (fun q => az h 3 rfl aR (eu q) rfl) (aF rfl rfl (fun q => II (eu q) rfl) (aa (fZ rfl rfl mY) (aa (ae (v := (.bool ((decide ((1 : Int) ≤ a.b) && decide ((a.b : Int) ≤ 4))))) rfl) (aA (ax (au ?_))))))))))))
 exact bS ((decide ((1 : Int) ≤ a.b) && decide ((a.b : Int) ≤ 4)), 0, a.a, a.b, 0) ⟨h.cn _, hs⟩
 refine cu (σ := Bool) (inl [91, 92, 93]) (fun x34 => [(91, (.bool (x34)))]) (fun x34 w => SH w0 M BE w (hset [(1, .sr eY AX a.args), (2, .sr jE vc c), (3, .blk b1 [(I6 a.op), (I6 a.a), (I6 a.b), (I6 a.c), AX]), (4, .blk b2 [(I6 d)]), (5, .blk b8 [(I6 a.op), (I6 a.a), (I6 a.b), (I6 0), (.slice none 0 0)])]) ∧ dm a b c d e x34 = some r) ?_ ?_
 rintro x34 w dR ⟨h, hs⟩
 refine aI hs rfl (fun c35 hs => ?_) (fun c35 hs => ?_)
 refine mZ 5 mixed (by kernel_rfl) h fun w h => aG (ah (v := (.bool ((decide ((0 : Int) ≤ a.c) && decide ((a.c : Int) < 4))))) rfl) (aG (ag nk rfl) (aG (az h 3 rfl aR rfl rfl) (aG (ae (v := (.bool ((decide ((0 : Int) ≤ a.c) && decide ((a.c : Int) < 4))))) rfl) (aG (ag nk rfl) (wz (gP h 5 [(I6 a.op), (I6 a.a), (I6 a.b), (I6 a.c), (.slice none 0 0)] rfl aR rfl rfl rfl rfl rfl fun w h => aA (ax (au ?_))))))))
 exact bS ((decide ((0 : Int) ≤ a.c) && decide ((a.c : Int) < 4)), 0, a.a, a.b, a.c) ⟨h.cn _, hs⟩
 refine nG (aa (bu rfl rfl) (aa (ae (v := (.bool (decide ((a.op : Int) = 3)))) rfl) (nN (aI hs rfl (fun c36 hs => ?_) (fun c36 hs => ?_)))))
 refine aM (mZ 4 mixed (by kernel_rfl) h fun w h => aG (ag nk rfl) (aG (az h 3 rfl aR rfl rfl) (aG (ae (v := (I6 1)) rfl) (aG (ag nk rfl) (wz (gP h 5 [(I6 a.op), (I6 a.a), (I6 a.b), (I6 a.c), (.slice none 0 0)] rfl aR rfl rfl rfl rfl rfl fun w h => nN (aD (aa (ag rQ rfl) (aa (az h 3 rfl qU rfl rfl) (aa (bM bZ rfl (h.gV 1 rfl)) (aa (bu rfl rfl) (aa (ah (v := (.bool (decide (((a.args.length : Int) : Int) = 1)))) rfl) (gT (b := decide (((a.args.length : Int) : Int) = 1)) hs (fun c37 hs => ?_) (fun c37 hs => ?_))))))))))))))
 refine cz rfl (cB c37) (aa (ag rQ rfl) (cz rfl (cB c37) (aa (az h 3 rfl qU rfl rfl) (cz rfl (cB c37) ?_))))
 obtain ⟨x38, e39, hs⟩ := aL hs
 obtain ⟨b41, o42, cs43, h, r44, i40⟩ := h.xI 1 7 rfl bZ rfl (aC e39).1 (aC e39).2
 obtain rfl := r44
 refine aa (i40 _ _ _ _ _ _ _ _ _ rfl rfl) (cz rfl (cB c37) (aa (fo (k := 0) h 7 rfl aR rfl rfl) (cz rfl (cB c37) (aa (rH rfl rfl) (aa (bY (b := true) (v := (.bool (decide ((1 : Int) ≤ x38)))) (cB c37) rfl) (aa (ah (v := (.bool (decide ((1 : Int) ≤ x38)))) rfl) (aF rfl rfl (fun q => ag rQ rfl) (aF rfl rfl (fun q => az h 3 rfl qU (eu q) rfl) ?_))))))))
 obtain ⟨b46, o47, cs48, h, r49, i45⟩ := h.xI 1 8 rfl bZ rfl (aC e39).1 (aC e39).2
 obtain rfl := r49
 refine aF rfl rfl (fun q => i45 _ _ _ _ _ _ _ _ _ (eu q) rfl) (aF rfl rfl (fun q => fo (k := 0) h 8 rfl aR (eu q) rfl) (aF rfl rfl (fun q => II (eu q) rfl) (aa (fZ rfl rfl mY) (aa (ae (v := (.bool ((decide ((1 : Int) ≤ x38) && decide ((x38 : Int) ≤ 5))))) rfl) (aA (ax (au ?_)))))))
 exact bS ((decide ((1 : Int) ≤ x38) && decide ((x38 : Int) ≤ 5)), 1, a.a, a.b, a.c) ⟨h.cn _, hs⟩
 refine mO rfl (cB c37) rfl (mO rfl (cB c37) rfl (mO rfl (cB c37) rfl (mO rfl (cB c37) rfl (mO rfl (cB c37) rfl (aa (bY (b := false) (v := (.bool (false))) (cB c37) rfl) (aa (ah (v := (.bool (false))) rfl) (fK (b' := false) rfl rfl rfl (fK (b' := false) rfl rfl rfl (fK (b' := false) rfl rfl rfl (fK (b' := false) rfl rfl rfl (fK (b' := false) rfl rfl rfl (aa (bY (b := false) (v := (.bool (false))) rfl rfl) (aa (ae (v := (.bool (false))) rfl) (aA (ax (au ?_))))))))))))))))
 exact bS (false, 1, a.a, a.b, a.c) ⟨h.cn _, hs⟩
 refine cu (σ := Bool) (inl [121, 122, 123]) (fun x50 => [(121, (.bool (x50)))]) (fun x50 w => SH w0 M BE w (hset [(1, .sr eY AX a.args), (2, .sr jE vc c), (3, .blk b1 [(I6 a.op), (I6 a.a), (I6 a.b), (I6 a.c), AX]), (4, .blk b2 [(I6 d)]), (5, .blk b8 [(I6 a.op), (I6 a.a), (I6 a.b), (I6 0), (.slice none 0 0)])]) ∧ di a b c d e x50 = some r) ?_ ?_
 rintro x50 w dR ⟨h, hs⟩
 refine aI hs rfl (fun c51 hs => ?_) (fun c51 hs => ?_)
 refine aD (aa (ag gN rfl) (aa (az h 3 rfl aR rfl rfl) (aa (rH rfl rfl) (aa (ah (v := (.bool (decide ((0 : Int) ≤ a.b)))) rfl) (aF rfl rfl (fun q => ag gN rfl) (aF rfl rfl (fun q => az h 3 rfl aR (eu q) rfl) (aF rfl rfl (fun q => ah (v := (I6 e)) rfl) (aF rfl rfl (fun q => eO (eu q) (eu q)) (aa (fZ rfl rfl mY) (aa (ae (v := (.bool ((decide ((0 : Int) ≤ a.b) && decide ((a.b : Int) < e))))) rfl) (aA (ax (au ?_)))))))))))))
 exact bS ((decide ((0 : Int) ≤ a.b) && decide ((a.b : Int) < e)), 0, a.a, a.b, 0) ⟨h.cn _, hs⟩
 refine nG (aa (bu rfl rfl) (aa (ae (v := (.bool (decide ((a.op : Int) = 7)))) rfl) (nN (aI hs rfl (fun G8 hs => ?_) (fun G8 hs => ?_)))))
 refine aM (nG (aa (ag gN rfl) (aa (az h 3 rfl aR rfl rfl) (aa (eO rfl rfl) (aa (ah (v := (.bool (decide ((a.b : Int) < 0)))) rfl) (aF rfl rfl (fun q => ag gN rfl) (aF rfl rfl (fun q => az h 3 rfl aR (eu q) rfl) (aF rfl rfl (fun q => ah (v := vc) rfl) (aF rfl rfl (fun q => bM gU (eu q) (h.gV 2 rfl)) (aF rfl rfl (fun q => rH (eu q) (eu q)) (aa (jD rfl rfl mY) (nN (aI hs rfl (fun c53 hs => ?_) (fun c53 hs => ?_))))))))))))))
 refine nG (aa (ae (v := (I6 5)) rfl) (nR (ay (aB (ay (bR (v := (I6 5)) Tryz.results86 rfl ?_))))))
 obtain rfl := fM hs
 exact ⟨h.grown, rfl⟩
 refine aH (ak (aD (aa (ah (v := vc) rfl) (aa (ag gN rfl) (aa (az h 3 rfl aR rfl rfl) ?_)))))
 obtain ⟨x54, e55, hs⟩ := aL hs
 obtain ⟨b57, o58, cs59, h, r60, i56⟩ := h.xI 2 9 rfl gU rfl (aC e55).1 (aC e55).2
 obtain ⟨u61, rfl, g62⟩ := jN r60
 replace h := h.dh 10 g62.up
 refine aa (i56 _ _ _ _ _ _ _ _ _ rfl rfl) (aa (ag Av rfl) (aa (fo (k := 0) h 9 rfl aR rfl rfl) (aa (ae (v := (I6 x54.params)) rfl) (aA (ax (au ?_))))))
 exact bS ((bK a.op).2.2.2, x54.params, a.a, a.b, 0) ⟨h.cn _, hs⟩
 refine cu (σ := Bool) (inl [151, 152, 153, 154]) (fun u6 => [(151, (.bool (u6)))]) (fun u6 w => SH w0 M BE w (hset [(1, .sr eY AX a.args), (3, .blk b1 [(I6 a.op), (I6 a.a), (I6 a.b), (I6 a.c), AX]), (4, .blk b2 [(I6 d)]), (5, .blk b8 [(I6 a.op), (I6 a.a), (I6 a.b), (I6 0), (.slice none 0 0)])]) ∧ df a b c d u6 = some r) ?_ ?_
 rintro u6 w dR ⟨h, hs⟩
 refine aI hs rfl (fun c64 hs => ?_) (fun c64 hs => ?_)
 refine aD (aa (ag gN rfl) (gP h 5 [(I6 a.op), (I6 a.a), (I6 0), (I6 0), (.slice none 0 0)] rfl aR rfl rfl rfl rfl rfl fun w h => aA (ax (au ?_))))
 exact bS ((bK a.op).2.2.2, 0, a.a, 0, 0) ⟨h.cn _, hs⟩
 refine nG (aa (bu rfl rfl) (aa (ae (v := (.bool (decide ((a.op : Int) = 10)))) rfl) (nN (aI hs rfl (fun Aw hs => ?_) (fun Aw hs => ?_)))))
 refine aD (aa (ag jy rfl) (gP h 5 [(I6 a.op), (I6 0), (I6 a.b), (I6 0), (.slice none 0 0)] rfl aR rfl rfl rfl rfl rfl fun w h => aa (ag gN rfl) (gP h 5 [(I6 a.op), (I6 0), (I6 0), (I6 0), (.slice none 0 0)] rfl aR rfl rfl rfl rfl rfl fun w h => aA (ax (au ?_)))))
 exact bS ((bK a.op).2.2.2, 0, 0, 0, 0) ⟨h.cn _, hs⟩
 refine aH (ax (au ?_))
 exact bS ((bK a.op).2.2.2, 0, a.a, a.b, 0) ⟨h.cn _, hs⟩
 refine nG (aa (bu rfl rfl) (aa (ae (v := (.bool (decide ((a.op : Int) = 8)))) rfl) (nN (aI hs rfl (fun c66 hs => ?_) (fun c66 hs => ?_)))))
 refine aH (au ?_)
 exact bS (decide ((a.op : Int) = 8)) ⟨h.cn _, hs⟩
 refine nG (aa (bu rfl rfl) (aa (ae (v := (.bool (decide ((a.op : Int) = 9)))) rfl) (nN (aI hs rfl (fun c67 hs => ?_) (fun c67 hs => ?_)))))
 refine aH (au ?_)
 exact bS (decide ((a.op : Int) = 9)) ⟨h.cn _, hs⟩
 refine aD (aa (bu rfl rfl) (aa (ae (v := (.bool (decide ((a.op : Int) = 11)))) rfl) (aA (au ?_))))
 exact bS (decide ((a.op : Int) = 11)) ⟨h.cn _, hs⟩
 refine nG (aa (bu rfl rfl) (aa (ae (v := (.bool (decide ((a.op : Int) = 12)))) rfl) (nN (aI hs rfl (fun QC hs => ?_) (fun QC hs => ?_)))))
 refine aH (au ?_)
 exact bS (decide ((a.op : Int) = 12)) ⟨h.cn _, hs⟩
 refine aD (aa (bu rfl rfl) (aa (ae (v := (.bool (decide ((a.op : Int) = 13)))) rfl) (aA (au ?_))))
 exact bS (decide ((a.op : Int) = 13)) ⟨h.cn _, hs⟩
 refine nG (aa (bu rfl rfl) (aa (ae (v := (.bool (decide ((a.op : Int) = 4)))) rfl) (nN (aI hs rfl (fun Xy hs => ?_) (fun Xy hs => ?_)))))
 refine aH (au ?_)
 exact bS (decide ((a.op : Int) = 4)) ⟨h.cn _, hs⟩
 refine aD (aa (bu rfl rfl) (aa (ae (v := (.bool (decide ((a.op : Int) = 6)))) rfl) (aA (au ?_))))
 exact bS (decide ((a.op : Int) = 6)) ⟨h.cn _, hs⟩
def fF (a : List bX) (Hq : bX) (i35 : Int) (jb : Ins) (s : Unit) (QJ : Unit → Option Int) : Option Int :=
  (eX jb i35 a Hq.regs (Hq.code.length : Int)).bind fun Oc => bif decide ((Oc : Int) ≠ 0) then some Oc else QJ ()
def su (Hq : bX) (p9 : Unit → Option Int) (s : Unit) : Option Int :=
  iK (kJ ((Hq.code.length : Int) - 1)) ((idx Hq.code ((Hq.code.length : Int) - 1)).bind fun x54 => bif (decide ((x54.op : Int) ≠ 8) && decide ((x54.op : Int) ≠ 12)) then some 4 else p9 ())
def iq (a : List bX) (Hq : bX) (s : Unit) (p9 : Unit → Option Int) : Option Int :=
  dZ (fF a Hq) (su Hq p9) 0 Hq.code ()
def kV (s : Unit) : Option Int :=
  some 0
def kr (i3 : Int) (x4 : bX) (s : Unit) (G5 : Unit → Option Int) : Option Int :=
  bif (((((decide ((x4.params : Int) < 0) || decide ((3 : Int) < x4.params)) || decide ((x4.regs : Int) < 1)) || decide ((x4.regs : Int) < x4.params)) || decide ((40 : Int) < x4.regs)) || (decide ((i3 : Int) = 0) && decide ((0 : Int) < x4.params))) then some 3 else bif (decide (((x4.code.length : Int) : Int) = 0) || decide ((2000 : Int) < (x4.code.length : Int))) then some 2 else G5 ()
def kW (a : List bX) (s : Unit) : Option Int :=
  each (iq a) kV a ()
def rF (a : List bX) : Option Int :=
  bif (decide (((a.length : Int) : Int) = 0) || decide ((4 : Int) < (a.length : Int))) then some 2 else dZ kr (kW a) 0 a ()
theorem Jb (w0 : World) (M : BS) (hM : ∀ b, M b → b < w0.heap.size) (va : Value) (a : List bX) (ha : gB jE w0 BE M va a) (r : Int) (hs : rF a = some r) :
    Calls Tryz.prog 63 #[va] w0 (fun e w' => Grow w0 w' ∧ e = .returned (.int .i64 r)) := by
 refine aQ (args := [va]) Tryz.func63 rfl Tryz.ntmps63 (bD rfl) ?_
 have h := SH.init hM
 replace h := h.fE 1 ha bA
 have uU := ha.bT
 refine nG (aa (ae (v := (I6 0)) rfl) (nK (aa (ah (v := va) rfl) (aa (bM gU rfl (h.gV 1 rfl)) (aa (bu rfl rfl) (aa (ah (v := (.bool (decide (((a.length : Int) : Int) = 0)))) rfl) (aF rfl rfl (fun q => ah (v := va) rfl) (aF rfl rfl (fun q => bM gU (eu q) (h.gV 1 rfl)) (aF rfl rfl (fun q => mV (eu q) rfl) (aa (jD rfl rfl mY) (nN (aI hs rfl (fun c1 hs => ?_) (fun c1 hs => ?_)))))))))))))
 refine nG (aa (ae (v := (I6 2)) rfl) (nR (ay (bR (v := (I6 2)) Tryz.results63 rfl ?_))))
 obtain rfl := fM hs
 exact ⟨h.grown, rfl⟩
 refine aH (ak (aM (nG (aa (ah (v := va) rfl) (aa (bM gU rfl (h.gV 1 rfl)) (aa (ah (v := (I6 0)) rfl) (nN (aN (gD (σ := Nat × Int) (inl ([2, 3, 4] ++ rg 21 50)) (fun ⟨k2, i3⟩ => [(21, (I6 i3))]) (fun ⟨k2, i3⟩ w => SH w0 M BE w (hset [(1, .sr jE va a)]) ∧ i3 = (k2 : Int) ∧ dZ kr (kW a) i3 (a.drop k2) () = some r) (fun ⟨k2, i3⟩ => a.length - k2) ⟨0, 0⟩ ⟨rfl, trivial⟩ ?_ ?_)))))))))
 exact ⟨h.cn _, rfl, hs⟩
 rintro ⟨k2, i3⟩ w dR ⟨h, hik, hs⟩
 refine nG ?_
 refine aa (eO rfl rfl) (nN ?_)
 refine aM (gQ rfl (fun e7 => ?_) (fun e7 => ?_))
 refine aH (ak ?_)
 obtain ⟨x4, e8a, e8b⟩ := fG (hik ▸ e7)
 rw [e8b, iQ] at hs
 generalize G6 : dZ kr (kW a) (i3 + 1) (a.drop (k2 + 1)) = G5 at hs
 have Ug := fJ ((h.gV 1 rfl)).bT hik e7
 refine aM (aN (nG (aa (ah (v := (I6 i3)) rfl) ?_)))
 obtain ⟨b10, o11, cs12, h, r13, i9⟩ := h.xI 1 2 rfl gU rfl (ig hik) (fI hik e8a)
 obtain ⟨Lu, rfl, g15⟩ := jN r13
 replace h := h.dh 3 g15.up
 refine aa (i9 _ _ _ _ _ _ _ _ _ rfl rfl) (aa (jc (k := 0) (vs := [(I6 x4.params), (I6 x4.regs), Lu]) h 2 rfl tC rfl rfl rfl (bD rfl)) (bI h 4 tC fun w b16 h => aa (ae (v := (I6 i3)) rfl) (dK (vs := [(I6 x4.params), (I6 x4.regs), Lu]) h 4 [(I6 x4.params), (I6 x4.regs), Lu] rfl tC rfl rfl rfl rfl rfl (ai rfl (ai rfl (ai (h.iN 3 rfl).one aS))) fun w h => nK (aa (ag Av rfl) (aa (az h 4 rfl aR rfl rfl) (aa (eO rfl rfl) (aa (ah (v := (.bool (decide ((x4.params : Int) < 0)))) rfl) (aF rfl rfl (fun q => ag Av rfl) (aF rfl rfl (fun q => az h 4 rfl aR (eu q) rfl) (aF rfl rfl (fun q => mV (eu q) rfl) (aa (jD rfl rfl mY) (aa (ah (v := (.bool ((decide ((x4.params : Int) < 0) || decide ((3 : Int) < x4.params))))) rfl) (aF rfl rfl (fun q => ag vK rfl) (aF rfl rfl (fun q => az h 4 rfl aR (eu q) rfl) (aF rfl rfl (fun q => eO (eu q) rfl) (aa (jD rfl rfl mY) (aa (ah (v := (.bool (((decide ((x4.params : Int) < 0) || decide ((3 : Int) < x4.params)) || decide ((x4.regs : Int) < 1))))) rfl) ?_)))))))))))))))))
 refine aF rfl rfl (fun q => ag vK rfl) (aF rfl rfl (fun q => az h 4 rfl aR (eu q) rfl) (aF rfl rfl (fun q => ag Av rfl) (aF rfl rfl (fun q => az h 4 rfl aR (eu q) rfl) (aF rfl rfl (fun q => eO (eu q) (eu q)) (aa (jD rfl rfl mY) (aa (ah (v := (.bool ((((decide ((x4.params : Int) < 0) || decide ((3 : Int) < x4.params)) || decide ((x4.regs : Int) < 1)) || decide ((x4.regs : Int) < x4.params))))) rfl) (aF rfl rfl (fun q => ag vK rfl) (aF rfl rfl (fun q => az h 4 rfl aR (eu q) rfl) (aF rfl rfl (fun q => mV (eu q) rfl) (aa (jD rfl rfl mY) (aa (ah (v := (.bool (((((decide ((x4.params : Int) < 0) || decide ((3 : Int) < x4.params)) || decide ((x4.regs : Int) < 1)) || decide ((x4.regs : Int) < x4.params)) || decide ((40 : Int) < x4.regs))))) rfl) (aF rfl rfl (fun q => ah (v := (I6 i3)) rfl) (aF rfl rfl (fun q => bu (eu q) rfl) (aF rfl rfl (fun q => ah (v := (.bool (decide ((i3 : Int) = 0)))) (eu q)) (lS (((((decide ((x4.params : Int) < 0) || decide ((3 : Int) < x4.params)) || decide ((x4.regs : Int) < 1)) || decide ((x4.regs : Int) < x4.params)) || decide ((40 : Int) < x4.regs)) == false) rfl rfl (fun q => ag Av rfl) (lS (((((decide ((x4.params : Int) < 0) || decide ((3 : Int) < x4.params)) || decide ((x4.regs : Int) < 1)) || decide ((x4.regs : Int) < x4.params)) || decide ((40 : Int) < x4.regs)) == false) rfl rfl (fun q => az h 4 rfl aR (eu q) rfl) (lS (((((decide ((x4.params : Int) < 0) || decide ((3 : Int) < x4.params)) || decide ((x4.regs : Int) < 1)) || decide ((x4.regs : Int) < x4.params)) || decide ((40 : Int) < x4.regs)) == false) rfl rfl (fun q => mV (eu q) rfl) (aF rfl rfl (fun q => fZ (eu q) (TP q) mY) (aa (jD rfl rfl mY) (nN (aI hs rfl (fun c17 hs => ?_) (fun c17 hs => ?_))))))))))))))))))))))
 refine nG (aa (ae (v := (I6 3)) rfl) (nR (ay (aB (ay (ay (aB (ay (bR (v := (I6 3)) Tryz.results63 rfl ?_)))))))))
 obtain rfl := fM hs
 exact ⟨h.grown, rfl⟩
 refine nS (aa (ag nP rfl) (aa (az h 4 rfl xh rfl rfl) (aa (bM iD rfl (h.kL 3 rfl)) (aa (bu rfl rfl) (aa (ah (v := (.bool (decide (((x4.code.length : Int) : Int) = 0)))) rfl) (aF rfl rfl (fun q => ag nP rfl) (aF rfl rfl (fun q => az h 4 rfl xh (eu q) rfl) (aF rfl rfl (fun q => bM iD (eu q) (h.kL 3 rfl)) (aF rfl rfl (fun q => mV (eu q) rfl) (aa (jD rfl rfl mY) (nN (aI hs rfl (fun c18 hs => ?_) (fun c18 hs => ?_)))))))))))))
 refine nG (aa (ae (v := (I6 2)) rfl) (nR (aB (ay (ay (aB (ay (bR (v := (I6 2)) Tryz.results63 rfl ?_))))))))
 obtain rfl := fM hs
 exact ⟨h.grown, rfl⟩
 refine aH (ax (ak (aD (aa (dQ rfl rfl Ug) (aa (ah (v := (I6 ((i3 + 1)))) rfl) (aA (au ?_)))))))
 subst G6
 exact jM ⟨k2 + 1, i3 + 1⟩ ⟨h.cn _, by omega, hs⟩ (by have := oD e7; dsimp only; omega)
 rw [fH (hik ▸ e7), ll] at hs
 refine jl (bQ (bQ (fq (ak (aM (nG (aa (ah (v := va) rfl) (aa (bM gU rfl (h.gV 1 rfl)) (aa (ah (v := (I6 0)) rfl) (nN (aN (gD (σ := Nat × Int) (inl ([2, 6, 7, 8, 9, 10] ++ rg 73 41)) (fun ⟨k19, i20⟩ => [(73, (I6 i20))]) (fun ⟨k19, i20⟩ w => SH w0 M BE w (hset [(1, .sr jE va a)]) ∧ i20 = (k19 : Int) ∧ each (iq a) kV (a.drop k19) () = some r) (fun ⟨k19, i20⟩ => a.length - k19) ⟨0, 0⟩ ⟨rfl, trivial⟩ ?_ ?_))))))))))))
 exact ⟨h.cn _, rfl, hs⟩
 rintro ⟨k19, i20⟩ w dR ⟨h, hik, hs⟩
 refine nG ?_
 refine aa (eO rfl rfl) (nN ?_)
 refine aM (gQ rfl (fun e24 => ?_) (fun e24 => ?_))
 refine aH (ak ?_)
 obtain ⟨Hq, e25a, e25b⟩ := fG (hik ▸ e24)
 rw [e25b, dU] at hs
 generalize hnx23 : each (iq a) kV (a.drop (k19 + 1)) = p9 at hs
 have e25r := fJ ((h.gV 1 rfl)).bT hik e24
 refine aM (aN (nG ?_))
 obtain ⟨b27, o28, cs29, h, r30, i26⟩ := h.xI 1 5 rfl gU rfl (ig hik) (fI hik e25a)
 obtain ⟨u31, rfl, g32⟩ := jN r30
 replace h := h.dh 6 g32.up
 refine aa (i26 _ _ _ _ _ _ _ _ _ rfl rfl) (aa (jc (k := 0) (vs := [(I6 Hq.params), (I6 Hq.regs), u31]) h 5 rfl tC rfl rfl rfl (bD rfl)) (bI h 7 tC fun w b33 h => dK (vs := [(I6 Hq.params), (I6 Hq.regs), u31]) h 7 [(I6 Hq.params), (I6 Hq.regs), u31] rfl tC rfl rfl rfl rfl rfl (ai rfl (ai rfl (ai (h.iN 6 rfl).one aS))) fun w h => nK (aa (ag nP rfl) (aa (az h 7 rfl xh rfl rfl) (aa (bM iD rfl (h.kL 6 rfl)) (aa (ah (v := (I6 0)) rfl) (nN (aN (gD (σ := Nat × Int) (inl ([2, 7, 8, 9] ++ rg 80 18)) (fun ⟨RZ, i35⟩ => [(80, (I6 i35))]) (fun ⟨RZ, i35⟩ w => SH w0 M BE w (hset [(1, .sr jE va a), (6, .rd kU u31 Hq.code), (7, .blk b33 [(I6 Hq.params), (I6 Hq.regs), u31])]) ∧ i35 = (RZ : Int) ∧ dZ (fF a Hq) (su Hq p9) i35 (Hq.code.drop RZ) () = some r) (fun ⟨RZ, i35⟩ => Hq.code.length - RZ) ⟨0, 0⟩ ⟨rfl, trivial⟩ ?_ ?_)))))))))
 exact ⟨h.cn _, rfl, hs⟩
 rintro ⟨RZ, i35⟩ w dR ⟨h, hik, hs⟩
 refine nG ?_
 refine aa (eO rfl rfl) (nN ?_)
 refine aM (gQ rfl (fun e39 => ?_) (fun e39 => ?_))
 refine aH (ak ?_)
 obtain ⟨jb, e40a, e40b⟩ := fG (hik ▸ e39)
 rw [e40b, iQ] at hs
 generalize hnx38 : dZ (fF a Hq) (su Hq p9) (i35 + 1) (Hq.code.drop (RZ + 1)) = QJ at hs
 have e40r := fJ ((h.kL 6 rfl)).bT hik e39
 refine aM (aN (nG (aa (ah (v := (I6 i35)) rfl) ?_)))
 obtain ⟨b42, o43, cs44, h, r45, i41⟩ := h.Cn 6 8 rfl iD rfl (ig hik) (fI hik e40a)
 obtain ⟨u46, rfl, g47⟩ := xe r45
 replace h := h.dh 9 g47.up
 refine aa (i41 _ _ _ _ _ _ _ _ _ rfl rfl) (aa (jc (k := 0) (vs := [(I6 jb.op), (I6 jb.a), (I6 jb.b), (I6 jb.c), u46]) h 8 rfl oF rfl rfl rfl (bD rfl)) (bI h 10 oF fun w b48 h => aa (ae (v := (I6 i35)) rfl) (dK (vs := [(I6 jb.op), (I6 jb.a), (I6 jb.b), (I6 jb.c), u46]) h 10 [(I6 jb.op), (I6 jb.a), (I6 jb.b), (I6 jb.c), u46] rfl oF rfl rfl rfl rfl rfl (ai rfl (ai rfl (ai rfl (ai rfl (ai (h.iN 9 rfl).one aS))))) fun w h => nJ (aa (bU (vs := [(I6 jb.op), (I6 jb.a), (I6 jb.b), (I6 jb.c), u46]) h 10 rfl oF rfl rfl rfl) (aa (ah (v := (I6 i35)) rfl) (aa (ah (v := va) rfl) (aa (ag vK rfl) (aa (az h 7 rfl aR rfl rfl) (aa (ag nP rfl) (aa (az h 7 rfl xh rfl rfl) (aa (bM iD rfl (h.kL 6 rfl)) ?_)))))))))))
 obtain ⟨Oc, e50, hs⟩ := aL hs
 refine aW fnOk86 rfl rfl (QI _ _ h.lt jb u46 (h.kL 9 rfl) i35 va a (h.gV 1 rfl) Hq.regs (Hq.code.length : Int) _ e50) ?_
 rintro _ w ⟨k51, rfl⟩
 refine ⟨_, rfl, ?_⟩
 replace h := h.grow k51
 refine aa (ae (v := (I6 Oc)) rfl) (nJ (aa (ah (v := (I6 Oc)) rfl) (aa (gM rfl rfl) (nN (aI hs rfl (fun G8 hs => ?_) (fun G8 hs => ?_))))))
 refine nG (aa (ah (v := (I6 Oc)) rfl) (aa (ae (v := (I6 Oc)) rfl) (nR (aB (ay (ay (aB (ay (aB (ay (ay (aB (ay (bR (v := (I6 Oc)) Tryz.results63 rfl ?_))))))))))))))
 obtain rfl := fM hs
 exact ⟨h.grown, rfl⟩
 refine aH (ax (ak (aD (aa (dQ rfl rfl e40r) (aa (ah (v := (I6 ((i35 + 1)))) rfl) (aA (au ?_)))))))
 subst hnx38
 exact jM ⟨RZ + 1, i35 + 1⟩ ⟨h.cn _, by omega, hs⟩ (by have := oD e39; dsimp only; omega)
 rw [fH (hik ▸ e39), ll] at hs
 refine nE (aa (ag nP rfl) (aa (az h 7 rfl xh rfl rfl) (aa (ag nP rfl) (aa (az h 7 rfl xh rfl rfl) (aa (bM iD rfl (h.kL 6 rfl)) ?_)))))
 obtain ⟨a53, hs⟩ := bG hs
 refine aa (oh rfl rfl a53) ?_
 obtain ⟨x54, e55, hs⟩ := aL hs
 obtain ⟨b57, o58, cs59, h, r60, i56⟩ := h.Cn 6 11 rfl iD rfl (aC e55).1 (aC e55).2
 obtain ⟨u61, rfl, g62⟩ := xe r60
 replace h := h.dh 12 g62.up
 refine aa (i56 _ _ _ _ _ _ _ _ _ rfl rfl) (aa (ag ni rfl) (aa (fo (k := 0) h 11 rfl aR rfl rfl) (aa (ae (v := (I6 x54.op)) rfl) (nJ (aa (ah (v := (I6 x54.op)) rfl) (aa (gM rfl rfl) (aa (ah (v := (.bool (decide ((x54.op : Int) ≠ 8)))) rfl) (aF rfl rfl (fun q => ah (v := (I6 x54.op)) rfl) (aF rfl rfl (fun q => gM (eu q) rfl) (aa (fZ rfl rfl mY) (nN (aI hs rfl (fun Xz hs => ?_) (fun Xz hs => ?_)))))))))))))
 refine nG (aa (ae (v := (I6 4)) rfl) (nR (aB (ay (ay (aB (ay (bR (v := (I6 4)) Tryz.results63 rfl ?_))))))))
 obtain rfl := fM hs
 exact ⟨h.grown, rfl⟩
 refine aH (ax (ak (aD (aa (dQ rfl rfl e25r) (aa (ah (v := (I6 ((i20 + 1)))) rfl) (aA (au ?_)))))))
 subst hnx23
 exact jM ⟨k19 + 1, i20 + 1⟩ ⟨h.cn _, by omega, hs⟩ (by have := oD e24; dsimp only; omega)
 rw [fH (hik ▸ e24), fO] at hs
 refine nE (aa (ae (v := (I6 0)) rfl) (nR (bR (v := (I6 0)) Tryz.results63 rfl ?_)))
 obtain rfl := fM hs
 exact ⟨h.grown, rfl⟩
def M0 (a : List bX) : Option (LX.State × Int) :=
  (rF a).bind fun y2 => bif decide ((y2 : Int) ≠ 0) then some ((⟨[], [], 0, 0⟩ : LX.State), y2) else (idx a 0).bind fun x6 => iK (0 ≤ x6.regs ∧ x6.regs * 16 ≤ 140737488355328) (some ((⟨[(⟨0, 0, (List.replicate x6.regs.toNat (⟨0, 0⟩ : Val)), 0⟩ : LX.Frame)], [], 0, 0⟩ : LX.State), 0))
theorem R3 (w0 : World) (M : BS) (hM : ∀ b, M b → b < w0.heap.size) (va : Value) (a : List bX) (ha : gB jE w0 BE M va a) (r : LX.State × Int) (hs : M0 a = some r) :
    Calls Tryz.prog 29 #[va] w0 (fun e w' => Grow w0 w' ∧ ∃ uN, ∃ wR, e = .returned (.tuple #[.agg #[uN, wR, .int .i64 r.1.status, .int .i64 r.1.aK], .int .i64 r.2]) ∧ iL dL w' M uN r.1.frames ∧ iL (l9 bz) w' M wR r.1.cells) := by
 refine aQ (args := [va]) Tryz.func29 rfl Tryz.ntmps29 (bD rfl) ?_
 have h := SH.init hM
 replace h := h.fE 1 ha bA
 have uU := ha.bT
 refine nG (bI h 2 bC fun w b1 h => aa (ae (v := (I6 0)) rfl) (nK (aa (ah (v := va) rfl) ?_)))
 obtain ⟨y2, e3, hs⟩ := aL hs
 refine aW ZQ rfl rfl (Jb _ _ h.lt va a (h.gV 1 rfl) _ e3) ?_
 rintro _ w ⟨k4, rfl⟩
 refine ⟨_, rfl, ?_⟩
 replace h := h.grow k4
 refine aa (ae (v := (I6 y2)) rfl) (nJ (aa (ah (v := (I6 y2)) rfl) (aa (gM rfl rfl) (nN (aI hs rfl (fun c5 hs => ?_) (fun c5 hs => ?_))))))
 refine nG (aa (fe (pv := []) (out := [(.slice none 0 0), (.slice none 0 0), (I6 0), (I6 0)]) wB rfl rfl) (aa (ah (v := (I6 y2)) rfl) (dK (vs := [(.slice none 0 0), (.slice none 0 0), (I6 0), (I6 0)]) h 2 [(.slice none 0 0), (.slice none 0 0), (I6 0), (I6 0)] rfl bC rfl rfl rfl rfl rfl (ai rfl (ai rfl (ai rfl (ai rfl aS)))) fun w h => aa (ae (v := (I6 y2)) rfl) (nR (ay (lV (vs := [(.slice none 0 0), (.slice none 0 0), (I6 0), (I6 0)]) (v2 := (I6 y2)) Tryz.results29 rfl rfl h 2 rfl bC rfl ?_))))))
 obtain rfl := fM hs
 exact ⟨h.grown, _, _, rfl, gB.nil, gB.nil⟩
 refine nS (aa (ah (v := va) rfl) ?_)
 obtain ⟨x6, e7, hs⟩ := aL hs
 obtain ⟨b9, o10, cs11, h, r12, i8⟩ := h.xI 1 3 rfl gU rfl (aC e7).1 (aC e7).2
 obtain ⟨DX, rfl, g14⟩ := jN r12
 replace h := h.dh 4 g14.up
 refine aa (i8 _ _ _ _ _ _ _ _ _ rfl rfl) (aa (ag vK rfl) (aa (fo (k := 1) h 3 rfl aR rfl rfl) ?_))
 obtain ⟨a16, hs⟩ := bG hs
 refine uu (R := bz) (zs := [(I6 0), (I6 0)]) (a := (⟨0, 0⟩ : Val)) h 5 lC aY rfl (by decide) rfl rfl a16 rfl (fun _ _ => rfl) fun w zA h u15k u15f => aa (fe (pv := [(2, zA)]) (out := [(I6 0), (I6 0), zA, (I6 0)]) C9 rfl ⟨2, 1, [zA], rfl, (gH (h.dD 5 rfl).one), rfl, bD rfl, rfl⟩) ?_
 replace h := h.freeze 5 rfl
 refine sV (R := dL) (vs := [(.agg #[(I6 0), (I6 0), zA, (I6 0)])]) (xs := [(⟨0, 0, (List.replicate x6.regs.toNat (⟨0, 0⟩ : Val)), 0⟩ : LX.Frame)]) h 6 kH rfl rfl rfl ⟨⟨_, rfl, (h.iN 5 rfl)⟩, trivial⟩ rfl fun w EF h => aa (fe (pv := [(0, EF)]) (out := [EF, (.slice none 0 0), (I6 0), (I6 0)]) wB rfl ⟨0, 1, [EF], rfl, (gH (h.dD 6 rfl).one), rfl, bD rfl, rfl⟩) (dK (vs := [EF, (.slice none 0 0), (I6 0), (I6 0)]) h 2 [EF, (.slice none 0 0), (I6 0), (I6 0)] rfl bC rfl rfl rfl rfl rfl (ai (h.dD 6 rfl).one (ai rfl (ai rfl (ai rfl aS)))) fun w h => aa (ae (v := (I6 0)) rfl) (nR (lV (vs := [EF, (.slice none 0 0), (I6 0), (I6 0)]) (v2 := (I6 0)) Tryz.results29 rfl rfl h 2 rfl bC rfl ?_)))
 replace h := h.freeze 6 rfl
 obtain rfl := fM hs
 exact ⟨h.grown, _, _, rfl, h.Zf 6 rfl, gB.nil⟩
def eF (a : Val) (b : Int) : Int :=
  bif decide ((a.kind : Int) = 0) then bif decide ((a.n : Int) ≠ 0) then 4 else 0 else bif decide ((a.kind : Int) = 1) then bif (decide ((a.n : Int) < -1000000000) || decide ((1000000000 : Int) < a.n)) then 3 else 0 else bif decide ((a.kind : Int) = 2) then bif (decide ((a.n : Int) < 0) || decide ((b : Int) ≤ a.n)) then 5 else 0 else 4
theorem Ej (w0 : World) (M : BS) (hM : ∀ b, M b → b < w0.heap.size) (a : Val) (b : Int) (r : Int) (hs : eF a b = r) :
    Calls Tryz.prog 81 #[(.agg #[(I6 a.kind), (I6 a.n)]), (I6 b)] w0 (fun e w' => Grow w0 w' ∧ e = .returned (.int .i64 r)) := by
 refine aQ (args := [(.agg #[(I6 a.kind), (I6 a.n)]), (I6 b)]) Tryz.func81 rfl Tryz.ntmps81 (bD rfl) ?_
 have h := SH.init hM
 refine nG (kM (cs := [(I6 a.kind), (I6 a.n)]) h 1 rfl rfl fun w b1 h => aa (ae (v := (I6 0)) rfl) (nK (aa (ag lJ rfl) (aa (az h 1 rfl aR rfl rfl) (nN (aN (nG (aa (bu rfl rfl) (aa (ae (v := (.bool (decide ((a.kind : Int) = 0)))) rfl) (nN (aI hs rfl (fun c2 hs => ?_) (fun c2 hs => ?_))))))))))))
 refine nG (aa (ag fu rfl) (aa (az h 1 rfl aR rfl rfl) (aa (gM rfl rfl) (nN (aI hs rfl (fun c3 hs => ?_) (fun c3 hs => ?_))))))
 refine nG (aa (ae (v := (I6 4)) rfl) (nR (aB (ay (bR (v := (I6 4)) Tryz.results81 rfl ?_)))))
 obtain rfl := hs
 exact ⟨h.grown, rfl⟩
 refine aH (ax (ak (nG (aa (ae (v := (I6 0)) rfl) (nR (bR (v := (I6 0)) Tryz.results81 rfl ?_))))))
 obtain rfl := hs
 exact ⟨h.grown, rfl⟩
 refine nG (aa (bu rfl rfl) (aa (ae (v := (.bool (decide ((a.kind : Int) = 1)))) rfl) (nN (aI hs rfl (fun c4 hs => ?_) (fun c4 hs => ?_)))))
 refine nG (aa (ag fu rfl) (aa (az h 1 rfl aR rfl rfl) (aa (eO rfl rfl) (aa (ah (v := (.bool (decide ((a.n : Int) < -1000000000)))) rfl) (aF rfl rfl (fun q => ag fu rfl) (aF rfl rfl (fun q => az h 1 rfl aR (eu q) rfl) (aF rfl rfl (fun q => mV (eu q) rfl) (aa (jD rfl rfl mY) (nN (aI hs rfl (fun c5 hs => ?_) (fun c5 hs => ?_)))))))))))
 refine nG (aa (ae (v := (I6 3)) rfl) (nR (aB (ay (bR (v := (I6 3)) Tryz.results81 rfl ?_)))))
 obtain rfl := hs
 exact ⟨h.grown, rfl⟩
 refine aH (ax (ak (nG (aa (ae (v := (I6 0)) rfl) (nR (bR (v := (I6 0)) Tryz.results81 rfl ?_))))))
 obtain rfl := hs
 exact ⟨h.grown, rfl⟩
 refine nG (aa (bu rfl rfl) (aa (ae (v := (.bool (decide ((a.kind : Int) = 2)))) rfl) (nN (aI hs rfl (fun c6 hs => ?_) (fun c6 hs => ?_)))))
 refine nG (aa (ag fu rfl) (aa (az h 1 rfl aR rfl rfl) (aa (eO rfl rfl) (aa (ah (v := (.bool (decide ((a.n : Int) < 0)))) rfl) (aF rfl rfl (fun q => ag fu rfl) (aF rfl rfl (fun q => az h 1 rfl aR (eu q) rfl) (aF rfl rfl (fun q => ah (v := (I6 b)) rfl) (aF rfl rfl (fun q => rH (eu q) (eu q)) (aa (jD rfl rfl mY) (nN (aI hs rfl (fun c7 hs => ?_) (fun c7 hs => ?_))))))))))))
 refine nG (aa (ae (v := (I6 5)) rfl) (nR (aB (ay (bR (v := (I6 5)) Tryz.results81 rfl ?_)))))
 obtain rfl := hs
 exact ⟨h.grown, rfl⟩
 refine aH (ax (ak (nG (aa (ae (v := (I6 0)) rfl) (nR (bR (v := (I6 0)) Tryz.results81 rfl ?_))))))
 obtain rfl := hs
 exact ⟨h.grown, rfl⟩
 refine nG (aa (ae (v := (I6 4)) rfl) (nR (aB (ay (bR (v := (I6 4)) Tryz.results81 rfl ?_)))))
 obtain rfl := hs
 exact ⟨h.grown, rfl⟩
def jR (a : List (List Val)) (El : Val) (s : Unit) (Z7 : Unit → Int) : Int :=
  bif decide (((eF El (a.length : Int)) : Int) ≠ 0) then (eF El (a.length : Int)) else Z7 ()
def jo (G5 : Unit → Int) (s : Unit) : Int :=
  G5 ()
def kP (a : List (List Val)) (x4 : List Val) (s : Unit) (G5 : Unit → Int) : Int :=
  bif (decide (((x4.length : Int) : Int) = 0) || decide ((4 : Int) < (x4.length : Int))) then 2 else each (jR a) (jo G5) x4 ()
def jS (s : Unit) : Int :=
  0
def gp (a : List (List Val)) : Int :=
  bif decide ((24 : Int) < (a.length : Int)) then 2 else each (kP a) jS a ()
theorem EH (w0 : World) (M : BS) (hM : ∀ b, M b → b < w0.heap.size) (va : Value) (a : List (List Val)) (ha : gB (l9 bz) w0 BE M va a) (r : Int) (hs : gp a = r) :
    Calls Tryz.prog 80 #[va] w0 (fun e w' => Grow w0 w' ∧ e = .returned (.int .i64 r)) := by
 refine aQ (args := [va]) Tryz.func80 rfl Tryz.ntmps80 (bD rfl) ?_
 have h := SH.init hM
 replace h := h.fE 1 ha bA
 have uU := ha.bT
 refine nG (aa (ae (v := (I6 0)) rfl) (nK (aa (ah (v := va) rfl) (aa (bM dV rfl (h.gV 1 rfl)) (aa (mV rfl rfl) (nN (aI hs rfl (fun c1 hs => ?_) (fun c1 hs => ?_))))))))
 refine nG (aa (ae (v := (I6 2)) rfl) (nR (ay (bR (v := (I6 2)) Tryz.results80 rfl ?_))))
 obtain rfl := hs
 exact ⟨h.grown, rfl⟩
 refine aH (ak (aM (nG (aa (ah (v := va) rfl) (aa (bM dV rfl (h.gV 1 rfl)) (aa (ah (v := (I6 0)) rfl) (nN (aN (gD (σ := Nat × Int) (inl ([2, 4, 6, 7] ++ rg 13 27)) (fun ⟨k2, i3⟩ => [(13, (I6 i3))]) (fun ⟨k2, i3⟩ w => SH w0 M BE w (hset [(1, .sr (l9 bz) va a)]) ∧ i3 = (k2 : Int) ∧ each (kP a) jS (a.drop k2) () = r) (fun ⟨k2, i3⟩ => a.length - k2) ⟨0, 0⟩ ⟨rfl, trivial⟩ ?_ ?_)))))))))
 exact ⟨h.cn _, rfl, hs⟩
 rintro ⟨k2, i3⟩ w dR ⟨h, hik, hs⟩
 refine nG ?_
 refine aa (eO rfl rfl) (nN ?_)
 refine aM (gQ rfl (fun e7 => ?_) (fun e7 => ?_))
 refine aH (ak ?_)
 obtain ⟨x4, e8a, e8b⟩ := fG (hik ▸ e7)
 rw [e8b, dU] at hs
 generalize G6 : each (kP a) jS (a.drop (k2 + 1)) = G5 at hs
 have Ug := fJ ((h.gV 1 rfl)).bT hik e7
 refine aM (aN (nG ?_))
 obtain ⟨b10, o11, cs12, h, r13, i9⟩ := h.xI 1 2 rfl dV rfl (ig hik) (fI hik e8a)
 obtain ⟨Lu, rfl, g15⟩ := r13
 replace h := h.dh 3 g15.up
 refine aa (i9 _ _ _ _ _ _ _ _ _ rfl rfl) (aa (fo (k := 0) h 2 rfl jH rfl rfl) (aa (ae (v := Lu) rfl) (nK (aa (ah (v := Lu) rfl) (aa (bM aZ rfl (h.kL 3 rfl)) (aa (bu rfl rfl) (aa (ah (v := (.bool (decide (((x4.length : Int) : Int) = 0)))) rfl) (aF rfl rfl (fun q => ah (v := Lu) rfl) (aF rfl rfl (fun q => bM aZ (eu q) (h.kL 3 rfl)) (aF rfl rfl (fun q => mV (eu q) rfl) (aa (jD rfl rfl mY) (nN (aI hs rfl (fun c16 hs => ?_) (fun c16 hs => ?_))))))))))))))
 refine nG (aa (ae (v := (I6 2)) rfl) (nR (ay (aB (ay (ay (aB (ay (bR (v := (I6 2)) Tryz.results80 rfl ?_)))))))))
 obtain rfl := hs
 exact ⟨h.grown, rfl⟩
 refine nS (aa (ah (v := Lu) rfl) (aa (bM aZ rfl (h.kL 3 rfl)) (aa (ah (v := (I6 0)) rfl) (nN (aN (gD (σ := Nat × Int) (inl ([2, 6, 7] ++ rg 27 12)) (fun ⟨k17, i18⟩ => [(27, (I6 i18))]) (fun ⟨k17, i18⟩ w => SH w0 M BE w (hset [(1, .sr (l9 bz) va a), (3, .rd bz Lu x4)]) ∧ i18 = (k17 : Int) ∧ each (jR a) (jo G5) (x4.drop k17) () = r) (fun ⟨k17, i18⟩ => x4.length - k17) ⟨0, 0⟩ ⟨rfl, trivial⟩ ?_ ?_))))))
 exact ⟨h.cn _, rfl, hs⟩
 rintro ⟨k17, i18⟩ w dR ⟨h, hik, hs⟩
 refine nG ?_
 refine aa (eO rfl rfl) (nN ?_)
 refine aM (gQ rfl (fun e22 => ?_) (fun e22 => ?_))
 refine aH (ak ?_)
 obtain ⟨El, e23a, e23b⟩ := fG (hik ▸ e22)
 rw [e23b, dU] at hs
 generalize Z8 : each (jR a) (jo G5) (x4.drop (k17 + 1)) = Z7 at hs
 have e23r := fJ ((h.kL 3 rfl)).bT hik e22
 refine aM (aN (nG ?_))
 obtain ⟨b25, o26, cs27, h, r28, i24⟩ := h.Cn 3 4 rfl aZ rfl (ig hik) (fI hik e23a)
 obtain rfl := r28
 refine aa (i24 _ _ _ _ _ _ _ _ _ rfl rfl) (aa (jc (k := 0) (vs := [(I6 El.kind), (I6 El.n)]) h 4 rfl aY rfl rfl rfl (bD rfl)) (bI h 5 aY fun w b29 h => dK (vs := [(I6 El.kind), (I6 El.n)]) h 5 [(I6 El.kind), (I6 El.n)] rfl aY rfl rfl rfl rfl rfl (ai rfl (ai rfl aS)) fun w h => nJ (aa (bU (vs := [(I6 El.kind), (I6 El.n)]) h 5 rfl aY rfl rfl rfl) (aa (ah (v := va) rfl) (aa (bM dV rfl (h.gV 1 rfl)) (aW Ud rfl rfl (Ej _ _ h.lt El (a.length : Int) _ rfl) ?_))))))
 rintro _ w ⟨k30, rfl⟩
 refine ⟨_, rfl, ?_⟩
 replace h := h.grow k30
 refine aa (ae (v := (I6 ((eF El (a.length : Int))))) rfl) (nJ (aa (ah (v := (I6 ((eF El (a.length : Int))))) rfl) (aa (gM rfl rfl) (nN (aI hs rfl (fun c31 hs => ?_) (fun c31 hs => ?_))))))
 refine nG (aa (ah (v := (I6 ((eF El (a.length : Int))))) rfl) (aa (ae (v := (I6 ((eF El (a.length : Int))))) rfl) (nR (aB (ay (ay (aB (aB (ay (ay (aB (ay (bR (v := (I6 ((eF El (a.length : Int))))) Tryz.results80 rfl ?_)))))))))))))
 obtain rfl := hs
 exact ⟨h.grown, rfl⟩
 refine aH (ax (ak (aD (aa (dQ rfl rfl e23r) (aa (ah (v := (I6 ((i18 + 1)))) rfl) (aA (au ?_)))))))
 subst Z8
 exact jM ⟨k17 + 1, i18 + 1⟩ ⟨h.cn _, by omega, hs⟩ (by have := oD e22; dsimp only; omega)
 rw [fH (hik ▸ e22), fO] at hs
 refine jl (bQ (bQ (fq (ax (ak (aD (aa (dQ rfl rfl Ug) (aa (ah (v := (I6 ((i3 + 1)))) rfl) (aA (au ?_))))))))))
 subst G6
 exact jM ⟨k2 + 1, i3 + 1⟩ ⟨h.cn _, by omega, hs⟩ (by have := oD e7; dsimp only; omega)
 rw [fH (hik ▸ e7), fO] at hs
 refine nE (aa (ae (v := (I6 0)) rfl) (nR (bR (v := (I6 0)) Tryz.results80 rfl ?_)))
 obtain rfl := hs
 exact ⟨h.grown, rfl⟩
def qY (b : LX.State) (x38 : Val) (s : Unit) (nx40 : Unit → Option Int) : Option Int :=
  bif decide (((eF x38 (b.cells.length : Int)) : Int) ≠ 0) then some (eF x38 (b.cells.length : Int)) else nx40 ()
def qZ (M3 : Unit → Option Int) (s : Unit) : Option Int :=
  M3 ()
def vN (x9 : LX.Frame) (uM : bX) (b : LX.State) (M3 : Unit → Option Int) (Da : Bool) : Option Int :=
  bif Da then some 3 else bif decide (((x9.regs.length : Int) : Int) ≠ uM.regs) then some 4 else each (qY b) (qZ M3) x9.regs ()
def vO (a : List bX) (b : LX.State) (i8 : Int) (x9 : LX.Frame) (s : Unit) (M3 : Unit → Option Int) : Option Int :=
  bif (decide ((x9.proc : Int) < 0) || decide (((a.length : Int) : Int) ≤ x9.proc)) then some 5 else (idx a x9.proc).bind fun uM => bif (((decide ((x9.at_ : Int) < 0) || decide (((uM.code.length : Int) : Int) ≤ x9.at_)) || decide ((x9.kD : Int) < 0)) || (decide ((i8 : Int) = 0) && decide ((x9.kD : Int) ≠ 0))) then vN x9 uM b M3 true else bif decide ((0 : Int) < i8) then iK (kJ (i8 - 1)) ((idx b.frames (i8 - 1)).bind fun x54 => vN x9 uM b M3 (decide (((x54.regs.length : Int) : Int) ≤ x9.kD))) else vN x9 uM b M3 false
def yh (s : Unit) : Option Int :=
  some 0
def Bh (a : List bX) (b : LX.State) : Option Int :=
  bif (((decide ((b.status : Int) < 0) || decide ((3 : Int) < b.status)) || decide ((b.aK : Int) < -1000000000)) || decide ((1000000000 : Int) < b.aK)) then some 3 else bif ((decide ((b.status : Int) ≠ 3) && decide ((b.aK : Int) ≠ 0)) || (decide ((b.status : Int) = 1) != decide (((b.frames.length : Int) : Int) = 0))) then some 4 else bif decide ((10 : Int) < (b.frames.length : Int)) then some 2 else bif decide (((gp b.cells) : Int) ≠ 0) then some (gp b.cells) else dZ (vO a b) yh 0 b.frames ()
theorem UI (w0 : World) (M : BS) (hM : ∀ b, M b → b < w0.heap.size) (va : Value) (a : List bX) (ha : gB jE w0 BE M va a) (b : LX.State) (vb0 vb1 : Value) (hb0 : gB dL w0 BE M vb0 b.frames) (hb1 : gB (l9 bz) w0 BE M vb1 b.cells) (r : Int) (hs : Bh a b = some r) :
    Calls Tryz.prog 64 #[va, (.agg #[vb0, vb1, (I6 b.status), (I6 b.aK)])] w0 (fun e w' => Grow w0 w' ∧ e = .returned (.int .i64 r)) := by
 refine aQ (args := [va, (.agg #[vb0, vb1, (I6 b.status), (I6 b.aK)])]) Tryz.func64 rfl Tryz.ntmps64 (bD rfl) ?_
 have h := SH.init hM
 replace h := h.fE 1 ha bA
 replace h := h.fE 2 hb0 (bN bA)
 replace h := h.fE 3 hb1 (bN (bN bA))
 have uU := ha.bT
 refine nG (kM (cs := [vb0, vb1, (I6 b.status), (I6 b.aK)]) h 4 rfl rfl fun w b1 h => aa (ae (v := (I6 0)) rfl) (nK (aa (ag kN rfl) (aa (az h 4 rfl aR rfl rfl) (aa (eO rfl rfl) (aa (ah (v := (.bool (decide ((b.status : Int) < 0)))) rfl) (aF rfl rfl (fun q => ag kN rfl) (aF rfl rfl (fun q => az h 4 rfl aR (eu q) rfl) (aF rfl rfl (fun q => mV (eu q) rfl) (aa (jD rfl rfl mY) (aa (ah (v := (.bool ((decide ((b.status : Int) < 0) || decide ((3 : Int) < b.status))))) rfl) (aF rfl rfl (fun q => ag vJ rfl) (aF rfl rfl (fun q => az h 4 rfl aR (eu q) rfl) (aF rfl rfl (fun q => eO (eu q) rfl) (aa (jD rfl rfl mY) (aa (ah (v := (.bool (((decide ((b.status : Int) < 0) || decide ((3 : Int) < b.status)) || decide ((b.aK : Int) < -1000000000))))) rfl) (aF rfl rfl (fun q => ag vJ rfl) ?_)))))))))))))))))
 refine aF rfl rfl (fun q => az h 4 rfl aR (eu q) rfl) (aF rfl rfl (fun q => mV (eu q) rfl) (aa (jD rfl rfl mY) (nN (aI hs rfl (fun c2 hs => ?_) (fun c2 hs => ?_)))))
 refine nG (aa (ae (v := (I6 3)) rfl) (nR (ay (bR (v := (I6 3)) Tryz.results64 rfl ?_))))
 obtain rfl := fM hs
 exact ⟨h.grown, rfl⟩
 refine aH (ak (aM (nG (aa (ag kN rfl) (aa (az h 4 rfl aR rfl rfl) (aa (gM rfl rfl) (aa (ah (v := (.bool (decide ((b.status : Int) ≠ 3)))) rfl) (aF rfl rfl (fun q => ag vJ rfl) (aF rfl rfl (fun q => az h 4 rfl aR (eu q) rfl) (aF rfl rfl (fun q => gM (eu q) rfl) (aa (fZ rfl rfl mY) (aa (ah (v := (.bool ((decide ((b.status : Int) ≠ 3) && decide ((b.aK : Int) ≠ 0))))) rfl) (aF rfl rfl (fun q => ag kN rfl) (aF rfl rfl (fun q => az h 4 rfl aR (eu q) rfl) (aF rfl rfl (fun q => bu (eu q) rfl) (aF rfl rfl (fun q => ag dP rfl) (aF rfl rfl (fun q => az h 4 rfl gL (eu q) rfl) (aF rfl rfl (fun q => bM bV (eu q) (h.gV 2 rfl)) (aF rfl rfl (fun q => bu (eu q) rfl) (aF rfl rfl (fun q => Za Tryz.underlying4 (eu q) (eu q)) (aa (jD rfl rfl mY) (aA ?_))))))))))))))))))))))
 refine ak (aI hs rfl (fun c3 hs => ?_) (fun c3 hs => ?_))
 refine nG (aa (ae (v := (I6 4)) rfl) (nR (ay (bR (v := (I6 4)) Tryz.results64 rfl ?_))))
 obtain rfl := fM hs
 exact ⟨h.grown, rfl⟩
 refine aH (ak (aM (nG (aa (ag dP rfl) (aa (az h 4 rfl gL rfl rfl) (aa (bM bV rfl (h.gV 2 rfl)) (aa (mV rfl rfl) (nN (aI hs rfl (fun c4 hs => ?_) (fun c4 hs => ?_))))))))))
 refine nG (aa (ae (v := (I6 2)) rfl) (nR (ay (bR (v := (I6 2)) Tryz.results64 rfl ?_))))
 obtain rfl := fM hs
 exact ⟨h.grown, rfl⟩
 refine aH (ak (aM (nG (aa (ag gJ rfl) (aa (az h 4 rfl jQ rfl rfl) (aW ZT rfl rfl (EH _ _ h.lt vb1 b.cells (h.gV 3 rfl) _ rfl) ?_))))))
 rintro _ w ⟨k5, rfl⟩
 refine ⟨_, rfl, ?_⟩
 replace h := h.grow k5
 refine aa (ae (v := (I6 ((gp b.cells)))) rfl) (nJ (aa (ah (v := (I6 ((gp b.cells)))) rfl) (aa (gM rfl rfl) (nN (aI hs rfl (fun c6 hs => ?_) (fun c6 hs => ?_))))))
 refine nG (aa (ah (v := (I6 ((gp b.cells)))) rfl) (aa (ae (v := (I6 ((gp b.cells)))) rfl) (nR (ay (bR (v := (I6 ((gp b.cells)))) Tryz.results64 rfl ?_)))))
 obtain rfl := fM hs
 exact ⟨h.grown, rfl⟩
 refine aH (ak (aM (nG (aa (ag dP rfl) (aa (az h 4 rfl gL rfl rfl) (aa (bM bV rfl (h.gV 2 rfl)) (aa (ah (v := (I6 0)) rfl) (nN (aN (gD (σ := Nat × Int) (inl ([4, 6, 7, 8, 10, 11] ++ rg 61 85)) (fun ⟨k7, i8⟩ => [(61, (I6 i8))]) (fun ⟨k7, i8⟩ w => SH w0 M BE w (hset [(1, .sr jE va a), (2, .sr dL vb0 b.frames), (3, .sr (l9 bz) vb1 b.cells), (4, .blk b1 [vb0, vb1, (I6 b.status), (I6 b.aK)])]) ∧ i8 = (k7 : Int) ∧ dZ (vO a b) yh i8 (b.frames.drop k7) () = some r) (fun ⟨k7, i8⟩ => b.frames.length - k7) ⟨0, 0⟩ ⟨rfl, trivial⟩ ?_ ?_))))))))))
 exact ⟨h.cn _, rfl, hs⟩
 rintro ⟨k7, i8⟩ w dR ⟨h, hik, hs⟩
 refine nG ?_
 refine aa (eO rfl rfl) (nN ?_)
 refine aM (gQ rfl (fun e12 => ?_) (fun e12 => ?_))
 refine aH (ak ?_)
 obtain ⟨x9, e13a, e13b⟩ := fG (hik ▸ e12)
 rw [e13b, iQ] at hs
 generalize hnx11 : dZ (vO a b) yh (i8 + 1) (b.frames.drop (k7 + 1)) = M3 at hs
 have e13r := fJ ((h.gV 2 rfl)).bT hik e12
 refine aM (aN (nG (aa (ah (v := (I6 i8)) rfl) ?_)))
 obtain ⟨b15, o16, cs17, h, r18, i14⟩ := h.xI 2 5 rfl bV rfl (ig hik) (fI hik e13a)
 obtain ⟨RA, rfl, g20⟩ := oQ r18
 replace h := h.dh 6 g20.up
 refine aa (i14 _ _ _ _ _ _ _ _ _ rfl rfl) (aa (jc (k := 0) (vs := [(I6 x9.proc), (I6 x9.at_), RA, (I6 x9.kD)]) h 5 rfl gz rfl rfl rfl (bD rfl)) (bI h 7 gz fun w IE h => aa (ae (v := (I6 i8)) rfl) (dK (vs := [(I6 x9.proc), (I6 x9.at_), RA, (I6 x9.kD)]) h 7 [(I6 x9.proc), (I6 x9.at_), RA, (I6 x9.kD)] rfl gz rfl rfl rfl rfl rfl (ai rfl (ai rfl (ai (h.iN 6 rfl).one (ai rfl aS)))) fun w h => nK (aa (ag tq rfl) (aa (az h 7 rfl aR rfl rfl) (aa (eO rfl rfl) (aa (ah (v := (.bool (decide ((x9.proc : Int) < 0)))) rfl) (aF rfl rfl (fun q => ag tq rfl) (aF rfl rfl (fun q => az h 7 rfl aR (eu q) rfl) (aF rfl rfl (fun q => ah (v := va) rfl) (aF rfl rfl (fun q => bM gU (eu q) (h.gV 1 rfl)) (aF rfl rfl (fun q => rH (eu q) (eu q)) (aa (jD rfl rfl mY) (nN (aI hs rfl (fun c22 hs => ?_) (fun c22 hs => ?_))))))))))))))))
 refine nG (aa (ae (v := (I6 5)) rfl) (nR (ay (aB (ay (ay (aB (ay (bR (v := (I6 5)) Tryz.results64 rfl ?_)))))))))
 obtain rfl := fM hs
 exact ⟨h.grown, rfl⟩
 refine nS (aa (ah (v := va) rfl) (aa (ag tq rfl) (aa (az h 7 rfl aR rfl rfl) ?_)))
 obtain ⟨uM, e24, hs⟩ := aL hs
 obtain ⟨b26, o27, cs28, h, r29, i25⟩ := h.xI 1 8 rfl gU rfl (aC e24).1 (aC e24).2
 obtain ⟨u30, rfl, g31⟩ := jN r29
 replace h := h.dh 9 g31.up
 refine aa (i25 _ _ _ _ _ _ _ _ _ rfl rfl) (aa (jc (k := 0) (vs := [(I6 uM.params), (I6 uM.regs), u30]) h 8 rfl tC rfl rfl rfl (bD rfl)) (bI h 10 tC fun w b32 h => dK (vs := [(I6 uM.params), (I6 uM.regs), u30]) h 10 [(I6 uM.params), (I6 uM.regs), u30] rfl tC rfl rfl rfl rfl rfl (ai rfl (ai rfl (ai (h.iN 9 rfl).one aS))) fun w h => nN (aM (cu (σ := Bool) (inl (rg 81 42)) (fun Da => [(98, (gv (((decide ((x9.at_ : Int) < 0) || decide (((uM.code.length : Int) : Int) ≤ x9.at_)) || decide ((x9.kD : Int) < 0)) == false) (I6 i8))), (100, (gv (((decide ((x9.at_ : Int) < 0) || decide (((uM.code.length : Int) : Int) ≤ x9.at_)) || decide ((x9.kD : Int) < 0)) == false) (.bool (decide ((i8 : Int) = 0))))), (122, (.bool (Da)))]) (fun Da w => SH w0 M BE w (hset [(1, .sr jE va a), (2, .sr dL vb0 b.frames), (3, .sr (l9 bz) vb1 b.cells), (4, .blk b1 [vb0, vb1, (I6 b.status), (I6 b.aK)]), (6, .rd bz RA x9.regs), (7, .blk IE [(I6 x9.proc), (I6 x9.at_), RA, (I6 x9.kD)]), (9, .rd kU u30 uM.code), (10, .blk b32 [(I6 uM.params), (I6 uM.regs), u30])]) ∧ vN x9 uM b M3 Da = some r) ?_ ?_))))
 rintro Da w dR ⟨h, hs⟩
 refine aI hs rfl (fun c34 hs => ?_) (fun c34 hs => ?_)
 refine nG (aa (ae (v := (I6 3)) rfl) (nR (ay (aB (ay (ay (aB (ay (bR (v := (I6 3)) Tryz.results64 rfl ?_)))))))))
 obtain rfl := fM hs
 exact ⟨h.grown, rfl⟩
 refine aH (ak (aM (nG (aa (ag jJ rfl) (aa (az h 7 rfl jH rfl rfl) (aa (bM aZ rfl (h.kL 6 rfl)) (aa (ag vK rfl) (aa (az h 10 rfl aR rfl rfl) (aa (gM rfl rfl) (nN (aI hs rfl (fun c35 hs => ?_) (fun c35 hs => ?_))))))))))))
 refine nG (aa (ae (v := (I6 4)) rfl) (nR (ay (aB (ay (ay (aB (ay (bR (v := (I6 4)) Tryz.results64 rfl ?_)))))))))
 obtain rfl := fM hs
 exact ⟨h.grown, rfl⟩
 refine nS (aa (ag jJ rfl) (aa (az h 7 rfl jH rfl rfl) (aa (bM aZ rfl (h.kL 6 rfl)) (aa (ah (v := (I6 0)) rfl) (nN (aN (gD (σ := Nat × Int) (inl ([4, 10, 11] ++ rg 132 13)) (fun ⟨k36, i37⟩ => [(132, (I6 i37))]) (fun ⟨k36, i37⟩ w => SH w0 M BE w (hset [(1, .sr jE va a), (2, .sr dL vb0 b.frames), (3, .sr (l9 bz) vb1 b.cells), (4, .blk b1 [vb0, vb1, (I6 b.status), (I6 b.aK)]), (6, .rd bz RA x9.regs)]) ∧ i37 = (k36 : Int) ∧ each (qY b) (qZ M3) (x9.regs.drop k36) () = some r) (fun ⟨k36, i37⟩ => x9.regs.length - k36) ⟨0, 0⟩ ⟨rfl, trivial⟩ ?_ ?_)))))))
 exact ⟨h.cn _, rfl, hs⟩
 rintro ⟨k36, i37⟩ w dR ⟨h, hik, hs⟩
 refine nG ?_
 refine aa (eO rfl rfl) (nN ?_)
 refine aM (gQ rfl (fun e41 => ?_) (fun e41 => ?_))
 refine aH (ak ?_)
 obtain ⟨x38, e42a, e42b⟩ := fG (hik ▸ e41)
 rw [e42b, dU] at hs
 generalize hnx40 : each (qY b) (qZ M3) (x9.regs.drop (k36 + 1)) = nx40 at hs
 have e42r := fJ ((h.kL 6 rfl)).bT hik e41
 refine aM (aN (nG ?_))
 obtain ⟨QK, o45, cs46, h, r47, i43⟩ := h.Cn 6 11 rfl aZ rfl (ig hik) (fI hik e42a)
 obtain rfl := r47
 refine aa (i43 _ _ _ _ _ _ _ _ _ rfl rfl) (aa (jc (k := 0) (vs := [(I6 x38.kind), (I6 x38.n)]) h 11 rfl aY rfl rfl rfl (bD rfl)) (bI h 12 aY fun w b48 h => dK (vs := [(I6 x38.kind), (I6 x38.n)]) h 12 [(I6 x38.kind), (I6 x38.n)] rfl aY rfl rfl rfl rfl rfl (ai rfl (ai rfl aS)) fun w h => nJ (aa (bU (vs := [(I6 x38.kind), (I6 x38.n)]) h 12 rfl aY rfl rfl rfl) (aa (ag gJ rfl) (aa (az h 4 rfl jQ rfl rfl) (aa (bM dV rfl (h.gV 3 rfl)) (aW Ud rfl rfl (Ej _ _ h.lt x38 (b.cells.length : Int) _ rfl) ?_)))))))
 rintro _ w ⟨k49, rfl⟩
 refine ⟨_, rfl, ?_⟩
 replace h := h.grow k49
 refine aa (ae (v := (I6 ((eF x38 (b.cells.length : Int))))) rfl) (nJ (aa (ah (v := (I6 ((eF x38 (b.cells.length : Int))))) rfl) (aa (gM rfl rfl) (nN (aI hs rfl (fun c50 hs => ?_) (fun c50 hs => ?_))))))
 refine nG (aa (ah (v := (I6 ((eF x38 (b.cells.length : Int))))) rfl) (aa (ae (v := (I6 ((eF x38 (b.cells.length : Int))))) rfl) (nR (aB (ay (ay (aB (aB (ay (ay (aB (ay (bR (v := (I6 ((eF x38 (b.cells.length : Int))))) Tryz.results64 rfl ?_)))))))))))))
 obtain rfl := fM hs
 exact ⟨h.grown, rfl⟩
 refine aH (ax (ak (aD (aa (dQ rfl rfl e42r) (aa (ah (v := (I6 ((i37 + 1)))) rfl) (aA (au ?_)))))))
 subst hnx40
 exact jM ⟨k36 + 1, i37 + 1⟩ ⟨h.cn _, by omega, hs⟩ (by have := oD e41; dsimp only; omega)
 rw [fH (hik ▸ e41), fO] at hs
 refine jl (bQ (bQ (fq (ax (ak (aD (aa (dQ rfl rfl e13r) (aa (ah (v := (I6 ((i8 + 1)))) rfl) (aA (au ?_))))))))))
 subst hnx11
 exact jM ⟨k7 + 1, i8 + 1⟩ ⟨h.cn _, by omega, hs⟩ (by have := oD e12; dsimp only; omega)
 refine uS mixed (by kernel_rfl) h fun w h => aG (ag nO rfl) (aG (az h 7 rfl aR rfl rfl) (aG (eO rfl rfl) (aG (ah (v := (.bool (decide ((x9.at_ : Int) < 0)))) rfl) (yI rfl rfl (fun q => ag nO rfl) (yI rfl rfl (fun q => az h 7 rfl aR (eu q) rfl) (yI rfl rfl (fun q => ag nP rfl) (yI rfl rfl (fun q => az h 10 rfl xh (eu q) rfl) (yI rfl rfl (fun q => bM iD (eu q) (h.kL 9 rfl)) (yI rfl rfl (fun q => rH (eu q) (eu q)) (aG (jD rfl rfl mY) (aG (ah (v := (.bool ((decide ((x9.at_ : Int) < 0) || decide (((uM.code.length : Int) : Int) ≤ x9.at_))))) rfl) (yI rfl rfl (fun q => ag zg rfl) (yI rfl rfl (fun q => az h 7 rfl aR (eu q) rfl) (yI rfl rfl (fun q => eO (eu q) rfl) (aG (jD rfl rfl mY) (aG (ah (v := (.bool (((decide ((x9.at_ : Int) < 0) || decide (((uM.code.length : Int) : Int) ≤ x9.at_)) || decide ((x9.kD : Int) < 0))))) rfl) (yI rfl rfl (fun q => ah (v := (I6 i8)) rfl) (yI rfl rfl (fun q => bu (eu q) rfl) (yI rfl rfl (fun q => ah (v := (.bool (decide ((i8 : Int) = 0)))) (eu q)) (VG (((decide ((x9.at_ : Int) < 0) || decide (((uM.code.length : Int) : Int) ≤ x9.at_)) || decide ((x9.kD : Int) < 0)) == false) rfl rfl (fun q => ag zg rfl) (VG (((decide ((x9.at_ : Int) < 0) || decide (((uM.code.length : Int) : Int) ≤ x9.at_)) || decide ((x9.kD : Int) < 0)) == false) rfl rfl (fun q => az h 7 rfl aR (eu q) rfl) (VG (((decide ((x9.at_ : Int) < 0) || decide (((uM.code.length : Int) : Int) ≤ x9.at_)) || decide ((x9.kD : Int) < 0)) == false) rfl rfl (fun q => gM (eu q) rfl) ?_))))))))))))))))))))))
 refine yI rfl rfl (fun q => fZ (eu q) (TP q) mY) (aG (jD rfl rfl mY) (aG (ah (v := (.bool ((((decide ((x9.at_ : Int) < 0) || decide (((uM.code.length : Int) : Int) ≤ x9.at_)) || decide ((x9.kD : Int) < 0)) || (decide ((i8 : Int) = 0) && decide ((x9.kD : Int) ≠ 0)))))) rfl) (gT (b := (((decide ((x9.at_ : Int) < 0) || decide (((uM.code.length : Int) : Int) ≤ x9.at_)) || decide ((x9.kD : Int) < 0)) || (decide ((i8 : Int) = 0) && decide ((x9.kD : Int) ≠ 0)))) hs (fun c51 hs => ?_) (fun c51 hs => ?_))))
 refine ed (b' := true) rfl (cB c51) rfl (ed (b' := true) rfl (cB c51) rfl (ed (b' := true) rfl (cB c51) rfl (wI rfl rfl (wI rfl rfl (wI rfl rfl (wI rfl rfl (wI rfl rfl (wI rfl rfl (wI rfl rfl (wI rfl rfl (wI rfl rfl (wI rfl rfl (wI rfl rfl (ed (b' := true) rfl (cB c51) rfl (aG (bY (b := true) (v := (.bool (true))) (cB c51) rfl) (uy (au ?_)))))))))))))))))
 exact bS true ⟨h.cn _, hs⟩
 refine fU rfl (cB c51) (aG (ah (v := (I6 i8)) rfl) (fU rfl (cB c51) (aG (mV rfl rfl) (fU rfl (cB c51) (aG (ah (v := (.bool (decide ((0 : Int) < i8)))) rfl) (gT (b := decide ((0 : Int) < i8)) hs (fun G8 hs => ?_) (fun G8 hs => ?_)))))))
 refine fU rfl (cB G8) (aG (ag zg rfl) (fU rfl (cB G8) (aG (az h 7 rfl aR rfl rfl) (fU rfl (cB G8) (aG (ag dP rfl) (fU rfl (cB G8) (aG (az h 4 rfl gL rfl rfl) (fU rfl (cB G8) (aG (ah (v := (I6 i8)) rfl) (fU rfl (cB G8) ?_))))))))))
 obtain ⟨a53, hs⟩ := bG hs
 refine aG (oh rfl rfl a53) (fU rfl (cB G8) ?_)
 obtain ⟨x54, e55, hs⟩ := aL hs
 obtain ⟨b57, o58, cs59, h, r60, i56⟩ := h.xI 2 13 rfl bV rfl (aC e55).1 (aC e55).2
 obtain ⟨u61, rfl, g62⟩ := oQ r60
 replace h := h.dh 14 g62.up
 refine aG (i56 _ _ _ _ _ _ _ _ _ rfl rfl) (fU rfl (cB G8) (aG (ag jJ rfl) (fU rfl (cB G8) (aG (fo (k := 2) h 13 rfl jH rfl rfl) (fU rfl (cB G8) (aG (bM aZ rfl (h.kL 14 rfl)) (fU rfl (cB G8) (aG (rH rfl rfl) (fU rfl (cB c51) (aG (bY (b := true) (v := (.bool (decide (((x54.regs.length : Int) : Int) ≤ x9.kD)))) (cB G8) rfl) (aG (bY (b := false) (v := (.bool (decide (((x54.regs.length : Int) : Int) ≤ x9.kD)))) (cB c51) rfl) (uy (au ?_)))))))))))))
 exact bS (decide (((x54.regs.length : Int) : Int) ≤ x9.kD)) ⟨h.cn _, hs⟩
 refine ed (b' := false) rfl (cB G8) rfl (ed (b' := false) rfl (cB G8) rfl (ed (b' := false) rfl (cB G8) rfl (ed (b' := false) rfl (cB G8) rfl (ed (b' := false) rfl (cB G8) rfl (ed (b' := false) rfl (cB G8) rfl (ed (b' := false) rfl (cB G8) rfl (ed (b' := false) rfl (cB G8) rfl (ed (b' := false) rfl (cB G8) rfl (ed (b' := false) rfl (cB G8) rfl (ed (b' := false) rfl (cB G8) rfl (fU rfl (cB c51) (aG (bY (b := false) (v := (.bool (false))) (cB G8) rfl) (aG (bY (b := false) (v := (.bool (false))) (cB c51) rfl) (uy (au ?_)))))))))))))))
 exact bS false ⟨h.cn _, hs⟩
 rw [fH (hik ▸ e12), ll] at hs
 refine nE (aa (ae (v := (I6 0)) rfl) (nR (bR (v := (I6 0)) Tryz.results64 rfl ?_)))
 obtain rfl := fM hs
 exact ⟨h.grown, rfl⟩
def Bi (a : List bX) (b : LX.State) : Option Int :=
  (rF a).bind fun y2 => bif decide ((y2 : Int) ≠ 0) then some y2 else (Bh a b).bind fun y6 => some y6
theorem Em (w0 : World) (M : BS) (hM : ∀ b, M b → b < w0.heap.size) (va : Value) (a : List bX) (ha : gB jE w0 BE M va a) (b : LX.State) (vb0 vb1 : Value) (hb0 : gB dL w0 BE M vb0 b.frames) (hb1 : gB (l9 bz) w0 BE M vb1 b.cells) (r : Int) (hs : Bi a b = some r) :
    Calls Tryz.prog 27 #[va, (.agg #[vb0, vb1, (I6 b.status), (I6 b.aK)])] w0 (fun e w' => Grow w0 w' ∧ e = .returned (.int .i64 r)) := by
 refine aQ (args := [va, (.agg #[vb0, vb1, (I6 b.status), (I6 b.aK)])]) Tryz.func27 rfl Tryz.ntmps27 (bD rfl) ?_
 have h := SH.init hM
 replace h := h.fE 1 ha bA
 replace h := h.fE 2 hb0 (bN bA)
 replace h := h.fE 3 hb1 (bN (bN bA))
 have uU := ha.bT
 refine nG (kM (cs := [vb0, vb1, (I6 b.status), (I6 b.aK)]) h 4 rfl rfl fun w b1 h => aa (ae (v := (I6 0)) rfl) (nK (aa (ah (v := va) rfl) ?_)))
 obtain ⟨y2, e3, hs⟩ := aL hs
 refine aW ZQ rfl rfl (Jb _ _ h.lt va a (h.gV 1 rfl) _ e3) ?_
 rintro _ w ⟨k4, rfl⟩
 refine ⟨_, rfl, ?_⟩
 replace h := h.grow k4
 refine aa (ae (v := (I6 y2)) rfl) (nJ (aa (ah (v := (I6 y2)) rfl) (aa (gM rfl rfl) (nN (aI hs rfl (fun c5 hs => ?_) (fun c5 hs => ?_))))))
 refine nG (aa (ah (v := (I6 y2)) rfl) (aa (ae (v := (I6 y2)) rfl) (nR (ay (bR (v := (I6 y2)) Tryz.results27 rfl ?_)))))
 obtain rfl := fM hs
 exact ⟨h.grown, rfl⟩
 refine nS (aa (ah (v := va) rfl) (aa (bU (vs := [vb0, vb1, (I6 b.status), (I6 b.aK)]) h 4 rfl bC rfl rfl rfl) ?_))
 obtain ⟨y6, e7, hs⟩ := aL hs
 refine aW fnOk64 rfl rfl (UI _ _ h.lt va a (h.gV 1 rfl) b vb0 vb1 (h.gV 2 rfl) (h.gV 3 rfl) _ e7) ?_
 rintro _ w ⟨k8, rfl⟩
 refine ⟨_, rfl, ?_⟩
 replace h := h.grow k8
 refine aa (ae (v := (I6 y6)) rfl) (nR (bR (v := (I6 y6)) Tryz.results27 rfl ?_))
 obtain rfl := fM hs
 exact ⟨h.grown, rfl⟩
theorem vg (w0 : World) (M : BS) (hM : ∀ b, M b → b < w0.heap.size) (va : Value) (a : List LX.Frame) (ha : gB dL w0 BE M va a) (r : List LX.Frame) (hs : clone 48 a = some r) :
    Calls Tryz.prog 83 #[va] w0 (fun e w' => Grow w0 w' ∧ ∃ u0, e = .returned u0 ∧ gW dL 49 w' M u0 r ∧ (∀ b, ob u0 b → w0.heap.size ≤ b)) := by
  obtain ⟨hr, hs⟩ := bG hs
  cases hs
  refine aQ (args := [va]) Tryz.func83 rfl Tryz.ntmps83 (bD rfl) ?_
  have h := (SH.init hM).fE 1 ha bA
  refine nG (aa (ae rfl) (nN ?_))
  refine aM (nG (aa (ah rfl) (aa (F6 bV rfl (h.gV 1 rfl) rfl) (nN ?_))))
  refine gQ rfl (fun c => ?_) (fun c => ?_)
  · obtain ⟨c1, c2⟩ := xJ (h.gV 1 rfl) c
    refine nG (aa (ae rfl) (nR (ay ?_)))
    refine bR (v := .slice none 0 0) Tryz.results83 rfl ?_
    rw [c2]
    exact ⟨h.grown, _, rfl, gW.nil, qO⟩
  · refine aH (ak ?_)
    refine nG ?_
    refine sV (R := dL) (vs := []) (xs := []) h 2 kH rfl rfl rfl trivial rfl fun w u h => ?_
    refine aa (ah rfl) ?_
    refine mW (R := dL) (m := a) h 2 rfl (h.gV 1 rfl) kH rfl rfl rfl hr.1 hr.2 fun w u h => ?_
    refine aa (ae rfl) (nR ?_)
    refine bR (v := u) Tryz.results83 rfl ?_
    exact ⟨h.grown, _, rfl, (h.lQ 2 rfl).1, (h.lQ 2 rfl).2⟩
theorem EM (w0 : World) (M : BS) (hM : ∀ b, M b → b < w0.heap.size) (va : Value) (a : List (List Val)) (ha : gB (l9 bz) w0 BE M va a) (r : List (List Val)) (hs : clone 24 a = some r) :
    Calls Tryz.prog 114 #[va] w0 (fun e w' => Grow w0 w' ∧ ∃ u0, e = .returned u0 ∧ gW (l9 bz) 47 w' M u0 r ∧ (∀ b, ob u0 b → w0.heap.size ≤ b)) := by
  obtain ⟨hr, hs⟩ := bG hs
  cases hs
  refine aQ (args := [va]) Tryz.func114 rfl Tryz.ntmps114 (bD rfl) ?_
  have h := (SH.init hM).fE 1 ha bA
  refine nG (aa (ae rfl) (nN ?_))
  refine aM (nG (aa (ah rfl) (aa (F6 dV rfl (h.gV 1 rfl) rfl) (nN ?_))))
  refine gQ rfl (fun c => ?_) (fun c => ?_)
  · obtain ⟨c1, c2⟩ := xJ (h.gV 1 rfl) c
    refine nG (aa (ae rfl) (nR (ay ?_)))
    refine bR (v := .slice none 0 0) Tryz.results114 rfl ?_
    rw [c2]
    exact ⟨h.grown, _, rfl, gW.nil, qO⟩
  · refine aH (ak ?_)
    refine nG ?_
    refine sV (R := (l9 bz)) (vs := []) (xs := []) h 2 lv rfl rfl rfl trivial rfl fun w u h => ?_
    refine aa (ah rfl) ?_
    refine mW (R := (l9 bz)) (m := a) h 2 rfl (h.gV 1 rfl) lv rfl rfl rfl hr.1 hr.2 fun w u h => ?_
    refine aa (ae rfl) (nR ?_)
    refine bR (v := u) Tryz.results114 rfl ?_
    exact ⟨h.grown, _, rfl, (h.lQ 2 rfl).1, (h.lQ 2 rfl).2⟩
theorem zJ (w0 : World) (M : BS) (hM : ∀ b, M b → b < w0.heap.size) (va : Value) (a : List Val) (ha : gB bz w0 BE M va a) (r : List Val) (hs : clone 16 a = some r) :
    Calls Tryz.prog 85 #[va] w0 (fun e w' => Grow w0 w' ∧ ∃ u0, e = .returned u0 ∧ gW bz 51 w' M u0 r ∧ (∀ b, ob u0 b → w0.heap.size ≤ b)) := by
  obtain ⟨hr, hs⟩ := bG hs
  cases hs
  refine aQ (args := [va]) Tryz.func85 rfl Tryz.ntmps85 (bD rfl) ?_
  have h := (SH.init hM).fE 1 ha bA
  refine nG (aa (ae rfl) (nN ?_))
  refine aM (nG (aa (ah rfl) (aa (F6 aZ rfl (h.gV 1 rfl) rfl) (nN ?_))))
  refine gQ rfl (fun c => ?_) (fun c => ?_)
  · obtain ⟨c1, c2⟩ := xJ (h.gV 1 rfl) c
    refine nG (aa (ae rfl) (nR (ay ?_)))
    refine bR (v := .slice none 0 0) Tryz.results85 rfl ?_
    rw [c2]
    exact ⟨h.grown, _, rfl, gW.nil, qO⟩
  · refine aH (ak ?_)
    refine nG ?_
    refine sV (R := bz) (vs := []) (xs := []) h 2 lC rfl rfl rfl trivial rfl fun w u h => ?_
    refine aa (ah rfl) ?_
    refine mW (R := bz) (m := a) h 2 rfl (h.gV 1 rfl) lC rfl rfl rfl hr.1 hr.2 fun w u h => ?_
    refine aa (ae rfl) (nR ?_)
    refine bR (v := u) Tryz.results85 rfl ?_
    exact ⟨h.grown, _, rfl, (h.lQ 2 rfl).1, (h.lQ 2 rfl).2⟩
def Az (a : List (List Val)) (i14 : Int) (s : Unit) (J2 : Unit → Option (List (List Val))) : Option (List (List Val)) :=
  (idx a i14).bind fun x20 => (clone 16 x20).bind fun y31 => J2 ()
def AA (a : List (List Val)) (s : Unit) : Option (List (List Val)) :=
  some a
def Gi (a : List (List Val)) : Option (List (List Val)) :=
  (clone 24 a).bind fun y1 => upto (Az a) (AA a) 0 ((a.length : Int)).toNat ()
theorem Fp (w0 : World) (M : BS) (hM : ∀ b, M b → b < w0.heap.size) (va : Value) (a : List (List Val)) (ha : gB (l9 bz) w0 BE M va a) (r : List (List Val)) (hs : Gi a = some r) :
    Calls Tryz.prog 84 #[va] w0 (fun e w' => Grow w0 w' ∧ ∃ uN, ∃ BU, e = .returned (uN) ∧ Chunk.holds w' M (Chunk.own' ((.two (.own (eD Val).raw 47 uN (List.zip r BU)) (.iJ (ek bz 51 hn BU (List.map (eD Val).sub r)))) : Chunk)) ((.two (.own (eD Val).raw 47 uN (List.zip r BU)) (.iJ (ek bz 51 hn BU (List.map (eD Val).sub r)))) : Chunk) ∧ (∀ b, Chunk.own' ((.two (.own (eD Val).raw 47 uN (List.zip r BU)) (.iJ (ek bz 51 hn BU (List.map (eD Val).sub r)))) : Chunk) b → w0.heap.size ≤ b)) := by
 refine aQ (args := [va]) Tryz.func84 rfl Tryz.ntmps84 (bD rfl) ?_
 have h := SH.init hM
 replace h := h.fE 1 ha bA
 have uU := ha.bT
 refine nG (aa (ae (v := (.slice none 0 0)) rfl) (nJ (aa (ah (v := va) rfl) ?_)))
 obtain ⟨y1, e2, hs⟩ := aL hs
 have z3 := CS e2
 subst z3
 refine aW fnOk114 rfl rfl (EM _ _ h.lt va a (h.gV 1 rfl) _ e2) ?_
 rintro _ w ⟨k7, u4, rfl, g5, g6⟩
 refine ⟨_, rfl, ?_⟩
 replace h := h.nz 2 k7 g5 g6
 obtain ⟨us8, -, h⟩ := h.thaw (N := (eD Val)) (R := bz) (Es := 51) 2 3 4 rfl (by decide) (by decide) (by decide) rfl nLst_op
 refine aa (ae (v := u4) rfl) (nK (aa (ah (v := u4) rfl) (aa (nA (N := (eD Val)) dV rfl (h.eT 2 rfl) (h.gm 3 rfl)) (aa (ah (v := (I6 0)) rfl) (nN (aN ?_))))))
 have hli14 := (h.gV 1 rfl).bT
 refine gD (σ := Nat × Int × List Value) (inl ([3, 4] ++ rg 9 11)) (fun ⟨k13, i14, J3⟩ => [(9, (I6 i14))]) (fun ⟨k13, i14, J3⟩ w => SH w0 M BE w (hset [(2, .own (eD Val).raw 47 u4 (List.zip a J3)), (3, .iJ (ek bz 51 (hge (k13)) J3 (List.map (eD Val).sub a))), (4, .iJ (IW bz (k13) J3 (List.map (eD Val).sub a)))]) ∧ i14 = (k13 : Int) ∧ upto (Az a) (AA a) i14 (((a.length : Int)).toNat - k13) () = some r) (fun ⟨k13, i14, J3⟩ => ((a.length : Int)).toNat - k13) ⟨0, 0, us8⟩ ⟨rfl, trivial⟩ ?_ ?_
 exact ⟨h.cn _, rfl, hs⟩
 rintro ⟨k13, i14, J3⟩ w dR ⟨h, hik, hs⟩
 refine nG ?_
 refine aa (eO rfl rfl) (nN ?_)
 refine aM (gQ rfl (fun e18 => ?_) (fun e18 => ?_))
 refine aH (ak ?_)
 rw [sW (by have := oD e18; omega)] at hs
 generalize hnx17 : upto (Az a) (AA a) (i14 + 1) (((a.length : Int)).toNat - (k13 + 1)) = J2 at hs
 have e19r : kJ (i14 + 1) := (by have := oD e18; have := hli14; exact kJ.mk (by omega) (by omega))
 refine aM (aN (nG (aa (ah (v := (I6 i14)) rfl) ?_)))
 obtain ⟨x20, e21, hs⟩ := aL hs
 obtain ⟨u25, e260, r27⟩ := h.ZF 4 x20 rfl (h.gm 3 rfl) (OQ hik (aC e21).2) rfl
 have e26 := at_pd hik e260
 replace h := h.dh 5 r27
 obtain ⟨Gd, q24, i22⟩ := h.rO 2 rfl dV rfl (aC e21).1 (eU (aC e21).2 e26)
 refine aa (i22 _ _ _ _ _ _ _ _ _ rfl rfl) ?_
 obtain ⟨cs28, m29, r30⟩ := h.uQ 2 rfl q24 (eU (aC e21).2 e26)
 obtain ⟨rfl, -⟩ := r30
 refine aa (lh (k := 0) m29 jH rfl rfl) (aa (ae (v := (I6 i14)) rfl) (aa (ae (v := u25) rfl) (nN (aD (aa (ah (v := u4) rfl) (aa (ah (v := (I6 i14)) rfl) (aa (ah (v := u25) rfl) ?_)))))))
 obtain ⟨y31, e32, hs⟩ := aL hs
 have z33 := CS e32
 subst z33
 refine aW ZV rfl rfl (zJ _ _ h.lt u25 x20 (h.kL 5 rfl) _ e32) ?_
 rintro _ w ⟨k37, u34, rfl, g35, g36⟩
 refine ⟨_, rfl, ?_⟩
 replace h := h.nz 6 k37 g35 g36
 obtain ⟨b39, q40, i38⟩ := h.rO 2 rfl dV rfl (aC e21).1 (eU (aC e21).2 e26)
 refine aa (i38 _ _ _ _ _ _ _ _ _ rfl rfl) ?_
 have o41 : (Value.oneCell' u34) = true := (h.dD 6 rfl).one
 refine IM (off := 0) (a' := (x20, u34)) h 2 rfl q40 rfl (eU (aC e21).2 e26) jH rfl rfl o41 rfl (by rintro _ ⟨rfl, _⟩; exact ⟨rfl, o41⟩) fun w h => ?_
 rw [Rq (aC e21).2, ZB hik] at h
 replace h := h.Ru 3 4 6 rfl rfl rfl (by decide) (by decide) (by decide) (OQ hik (aC e21).2) (OQ hik e26) rfl
 generalize List.set J3 k13 u34 = us42 at h
 refine aA (ax (ak (aD (aa (dQ rfl rfl e19r) (aa (ah (v := (I6 ((i14 + 1)))) rfl) (aA (au ?_)))))))
 subst hnx17
 exact jM ⟨k13 + 1, i14 + 1, us42⟩ ⟨h.cn _, by omega, hs⟩ (by have := oD e18; dsimp only; omega)
 rw [sZ (by have := of_decide_eq_false e18; omega)] at hs
 replace h := h.Zz 3 rfl (by have := of_decide_eq_false e18; omega)
 replace h := h.fV 4
 refine nE (aa (ah (v := u4) rfl) (aa (ae (v := u4) rfl) (nR (bR (v := u4) Tryz.results84 rfl ?_))))
 replace h := h.pair 2 3 (by decide)
 obtain rfl := fM hs
 obtain ⟨o1, o2, o3⟩ := h.lu 2 (C := (.two (.own (eD Val).raw 47 u4 (List.zip a J3)) (.iJ (ek bz 51 hn J3 (List.map (eD Val).sub a))) : Chunk)) rfl ⟨trivial, trivial⟩
 exact ⟨o2, u4, J3, rfl, o1, IX o3⟩
def En (a : LX.State) (i13 : Int) (s : Unit) (nx16 : Unit → Option LX.State) : Option LX.State :=
  (idx a.frames i13).bind fun El => (clone 16 El.regs).bind fun yq34x5_1 => nx16 ()
def Eo (a : LX.State) (y7 : List (List Val)) (s : Unit) : Option LX.State :=
  some (⟨a.frames, y7, a.status, a.aK⟩ : LX.State)
def Hr (a : LX.State) (y7 : List (List Val)) : Option LX.State :=
  upto (En a) (Eo a y7) 0 ((a.frames.length : Int)).toNat ()
def Ep (a : LX.State) : Option LX.State :=
  (clone 48 a.frames).bind fun yq42x2_1 => (Gi a.cells).bind fun vk => Hr a vk
theorem Gj (w0 : World) (M : BS) (hM : ∀ b, M b → b < w0.heap.size) (a : LX.State) (vP wF : Value) (ha0 : gB dL w0 BE M vP a.frames) (ha1 : gB (l9 bz) w0 BE M wF a.cells) (r : LX.State) (hs : Ep a = some r) :
    Calls Tryz.prog 49 #[(.agg #[vP, wF, (I6 a.status), (I6 a.aK)])] w0 (fun e w' => Grow w0 w' ∧ ∃ uN, ∃ wR, ∃ BU, ∃ Ht, e = .returned (.agg #[uN, wR, .int .i64 r.status, .int .i64 r.aK]) ∧ Chunk.holds w' M (Chunk.own' ((cU uN wR r.frames BU r.cells Ht) : Chunk)) ((cU uN wR r.frames BU r.cells Ht) : Chunk) ∧ (∀ b, Chunk.own' ((cU uN wR r.frames BU r.cells Ht) : Chunk) b → w0.heap.size ≤ b)) := by
 refine aQ (args := [(.agg #[vP, wF, (I6 a.status), (I6 a.aK)])]) Tryz.func49 rfl Tryz.ntmps49 (bD rfl) ?_
 have h := SH.init hM
 replace h := h.fE 1 ha0 bA
 replace h := h.fE 2 ha1 (bN bA)
 refine nG (kM (cs := [vP, wF, (I6 a.status), (I6 a.aK)]) h 3 rfl rfl fun w b1 h => bI h 4 bC fun w b2 h => nN (cu (σ := Value × List Value × Value × List Value × List (List Val)) (inl (rg 5 8)) (fun ⟨v3, us4, v5, Og, y7⟩ => []) (fun ⟨v3, us4, v5, Og, y7⟩ w => SH w0 M BE w (hset [(3, .blk b1 [v3, v5, (I6 a.status), (I6 a.aK)]), (4, .blk b2 [(.slice none 0 0), (.slice none 0 0), (I6 0), (I6 0)]), (29, .own bB.raw 49 v3 (List.zip a.frames us4)), (30, .iJ (ek bz 51 (hge (0)) us4 (List.map bB.sub a.frames))), (31, .iJ (IW bz (0) us4 (List.map bB.sub a.frames))), (65, .own (eD Val).raw 47 v5 (List.zip y7 Og)), (66, .iJ (ek bz 51 hn Og (List.map (eD Val).sub y7)))]) ∧ Hr a y7 = some r) ?_ ?_))
 rintro ⟨v3, us4, v5, Og, y7⟩ w dR ⟨h, hs⟩
 refine aM (nG (aa (ag dP rfl) (aa (az h 3 rfl gL rfl rfl) (aa (nA (N := bB) bV rfl (h.eT 29 rfl) (h.gm 30 rfl)) (aa (ah (v := (I6 0)) rfl) (nN (aN ?_)))))))
 have hli13 := Qf (h.eT 29 rfl) (h.gm 30 rfl)
 refine gD (σ := Nat × Int × List Value) (inl ([3, 4] ++ rg 16 14)) (fun ⟨k12, i13, M4⟩ => [(16, (I6 i13))]) (fun ⟨k12, i13, M4⟩ w => SH w0 M BE w (hset [(3, .blk b1 [v3, v5, (I6 a.status), (I6 a.aK)]), (4, .blk b2 [(.slice none 0 0), (.slice none 0 0), (I6 0), (I6 0)]), (29, .own bB.raw 49 v3 (List.zip a.frames M4)), (30, .iJ (ek bz 51 (hge (k12)) M4 (List.map bB.sub a.frames))), (31, .iJ (IW bz (k12) M4 (List.map bB.sub a.frames))), (65, .own (eD Val).raw 47 v5 (List.zip y7 Og)), (66, .iJ (ek bz 51 hn Og (List.map (eD Val).sub y7)))]) ∧ i13 = (k12 : Int) ∧ upto (En a) (Eo a y7) i13 (((a.frames.length : Int)).toNat - k12) () = some r) (fun ⟨k12, i13, M4⟩ => ((a.frames.length : Int)).toNat - k12) ⟨0, 0, us4⟩ ⟨rfl, trivial⟩ ?_ ?_
 exact ⟨h.cn _, rfl, hs⟩
 rintro ⟨k12, i13, M4⟩ w dR ⟨h, hik, hs⟩
 refine nG ?_
 refine aa (eO rfl rfl) (nN ?_)
 refine aM (gQ rfl (fun e17 => ?_) (fun e17 => ?_))
 refine aH (ak ?_)
 rw [sW (by have := oD e17; omega)] at hs
 generalize hnx16 : upto (En a) (Eo a y7) (i13 + 1) (((a.frames.length : Int)).toNat - (k12 + 1)) = nx16 at hs
 have e18r : kJ (i13 + 1) := (by have := oD e17; have := hli13; exact kJ.mk (by omega) (by omega))
 refine aM (aN (nG (aa (ah (v := (I6 i13)) rfl) ?_)))
 obtain ⟨El, e20, hs⟩ := aL hs
 obtain ⟨u24, e250, r26⟩ := h.ZF 31 El.regs rfl (h.gm 30 rfl) (OQ hik (aC e20).2) rfl
 have e25 := at_pd hik e250
 replace h := h.dh 67 r26
 obtain ⟨b22, q23, i21⟩ := h.rO 29 rfl bV rfl (aC e20).1 (eU (aC e20).2 e25)
 refine aa (i21 _ _ _ _ _ _ _ _ _ rfl rfl) ?_
 obtain ⟨cs27, m28, r29⟩ := h.uQ 29 rfl q23 (eU (aC e20).2 e25)
 obtain ⟨rfl, -⟩ := r29
 refine aa (kS (k := 0) (vs := [(I6 El.proc), (I6 El.at_), u24, (I6 El.kD)]) m28 gz rfl rfl rfl (bD rfl)) (bI h 68 gz fun w b30 h => aa (ae (v := (I6 i13)) rfl) (dK (vs := [(I6 El.proc), (I6 El.at_), u24, (I6 El.kD)]) h 68 [(I6 El.proc), (I6 El.at_), u24, (I6 El.kD)] rfl gz rfl rfl rfl rfl rfl (ai rfl (ai rfl (ai (h.iN 67 rfl).one (ai rfl aS)))) fun w h => nN (lq (L := (ob v3)) mixed h fun w h => bH 0 (aP.refl _ _) rfl aj (by kernel_rfl) (by kernel_rfl) (by kernel_rfl) (fun w hk => ag dP rfl) (bH 1 (aP.refl _ _) rfl aj (by kernel_rfl) (by kernel_rfl) (by kernel_rfl) (fun w hk => have h := h.qR 29 rfl hk; az h 3 rfl gL rfl rfl) (bH 2 (aP.refl _ _) rfl aj (by kernel_rfl) (by kernel_rfl) (by kernel_rfl) (fun w hk => ah (v := (I6 i13)) rfl) (bH 3 (aP.refl _ _) rfl aj (by kernel_rfl) (by kernel_rfl) (by kernel_rfl) (fun w hk => ag jJ rfl) (bH 4 (aP.refl _ _) rfl aj (by kernel_rfl) (by kernel_rfl) (by kernel_rfl) (fun w hk => have h := h.qR 29 rfl hk; az h 68 rfl jH rfl rfl) ?_)))))))
 obtain ⟨ws35, ws35e⟩ : ∃ x, x = w := ⟨_, rfl⟩
 have QL : aP (ob v3) ws35 w := ws35e ▸ aP.refl (ob v3) w
 refine rU ws35e.symm (bE 5 (by kernel_rfl) rfl aj ?_)
 obtain ⟨yq34x5_1, R4, hs⟩ := aL hs
 have zq34x5_3 := CS R4
 subst zq34x5_3
 refine aW ZV rfl rfl (zJ _ _ h.lt u24 El.regs (h.kL 67 rfl) _ R4) ?_
 rintro _ w ⟨R5, Jc, rfl, gq34x5_5, R6⟩
 refine ⟨_, rfl, ?_⟩
 replace h := h.nz 129 R5 gq34x5_5 R6
 have uq34x5_4q : ∀ b, ob Jc b → ws35.heap.size ≤ b := fun b hb => Nat.le_trans QL.size (R6 b hb)
 replace QL := QL.grow R5
 refine aA (aT QL ?_)
 obtain ⟨bq34x6_2, qq34x6_3, iq34x6_1⟩ := h.rO 29 rfl bV rfl (aC e20).1 (eU (aC e20).2 e25)
 refine dN 6 QL rfl (by kernel_rfl) (fun w hk => iq34x6_1 _ _ _ _ _ _ _ _ _ rfl rfl) (dN 7 QL rfl (by kernel_rfl) (fun w hk => ag jJ rfl) (bE 8 (by kernel_rfl) rfl aj ?_))
 have R7 : (Value.oneCell' Jc) = true := (h.dD 129 rfl).one
 refine Zj (a' := (El, Jc)) h 29 rfl qq34x6_3 rfl (eU (aC e20).2 e25) jH rfl rfl R7 rfl (by rintro _ ⟨rfl, _⟩; exact ⟨rfl, R7⟩) fun w h kq34x8_2 => ?_
 replace QL := QL.same kq34x8_2
 rw [Rq (aC e20).2, ZB hik] at h
 replace h := h.Ru 30 31 129 rfl rfl rfl (by decide) (by decide) (by decide) (OQ hik (aC e20).2) (OQ hik e25) rfl
 generalize List.set M4 k12 Jc = XA at h
 refine aA (aT QL (gG (by kernel_rfl) (ax (ak (aD (aa (dQ rfl rfl e18r) (aa (ah (v := (I6 ((i13 + 1)))) rfl) (aA (au ?_)))))))))
 subst hnx16
 exact jM ⟨k12 + 1, i13 + 1, XA⟩ ⟨h.cn _, by omega, hs⟩ (by have := oD e17; dsimp only; omega)
 rw [sZ (by have := of_decide_eq_false e17; omega)] at hs
 replace h := h.Zz 30 rfl (by have := of_decide_eq_false e17; omega)
 replace h := h.fV 31
 refine nE (aa (bU (vs := [v3, v5, (I6 a.status), (I6 a.aK)]) h 3 rfl bC rfl rfl rfl) (dK (vs := [v3, v5, (I6 a.status), (I6 a.aK)]) h 4 [v3, v5, (I6 a.status), (I6 a.aK)] rfl bC rfl rfl rfl rfl rfl (ai (h.dD 29 rfl).one (ai (h.dD 65 rfl).one (ai rfl (ai rfl aS)))) fun w h => nR (OL (vs := [v3, v5, (I6 a.status), (I6 a.aK)]) Tryz.results49 rfl h 4 rfl bC rfl ?_)))
 replace h := h.pair 29 30 (by decide)
 replace h := h.pair 29 65 (by decide)
 replace h := h.pair 29 66 (by decide)
 obtain rfl := fM hs
 obtain ⟨o1, o2, o3⟩ := h.lu 29 (C := (cU v3 v5 a.frames M4 y7 Og)) rfl ⟨⟨⟨trivial, trivial⟩, trivial⟩, trivial⟩
 exact ⟨o2, v3, v5, M4, Og, rfl, o1, IX o3⟩
 refine lq (L := (fun x => x = b1)) mixed h fun w h => bH 0 (aP.refl _ _) rfl aj (by kernel_rfl) (by kernel_rfl) (by kernel_rfl) (fun w hk => ag dP rfl) (bH 3 (aP.refl _ _) rfl aj (by kernel_rfl) (by kernel_rfl) (by kernel_rfl) (fun w hk => ag gJ rfl) ?_)
 obtain ⟨yq42x2_1, Dl, hs⟩ := aL hs
 obtain ⟨vk, M5, hs⟩ := aL hs
 obtain ⟨ws43, ws43e⟩ : ∃ x, x = w := ⟨_, rfl⟩
 have oq : aP (fun x => x = b1) ws43 w := ws43e ▸ aP.refl (fun x => x = b1) w
 refine rU ws43e.symm (om 1 4 (by kernel_rfl) rfl aj rfl aj ?_ ?_)
 refine aa (az h 3 rfl gL rfl rfl) (aA (aT oq (om 2 4 (by kernel_rfl) rfl aj rfl aj ?_ ?_)))
 have Fq := CS Dl
 subst Fq
 refine aW Ue rfl rfl (vg _ _ h.lt vP a.frames (h.gV 1 rfl) _ Dl) ?_
 rintro _ w ⟨zK, q8, rfl, Fs, zL⟩
 refine ⟨_, rfl, ?_⟩
 replace h := h.nz 213 zK Fs zL
 have O1 : ∀ b, ob q8 b → ws43.heap.size ≤ b := fun b hb => Nat.le_trans oq.size (zL b hb)
 replace oq := oq.grow zK
 obtain ⟨Dm, -, h⟩ := h.thaw (N := bB) (R := bz) (Es := 51) 213 214 215 rfl (by decide) (by decide) (by decide) rfl JJ
 refine aA (aT oq (bE 4 (by kernel_rfl) rfl aj (aa (az h 3 rfl jQ rfl rfl) (aA (aT oq (dN 6 oq rfl (by kernel_rfl) (fun w hk => ag dP rfl) (bE 5 (by kernel_rfl) rfl aj (aW Uf rfl rfl (Fp _ _ h.lt wF a.cells (h.gV 2 rfl) _ M5) ?_))))))))
 rintro _ w ⟨zM, vo, sD, rfl, Fu, Fv⟩
 refine ⟨_, rfl, ?_⟩
 replace h := h.Mx 249 (C := (.two (.own (eD Val).raw 47 vo (List.zip vk sD)) (.iJ (ek bz 51 hn sD (List.map (eD Val).sub vk))) : Chunk)) zM ⟨trivial, trivial⟩ Fu Fv
 replace h := h.cK 249 250 (by decide) rfl rfl
 replace oq := oq.grow zM
 refine aA (aT oq (bE 7 (by kernel_rfl) rfl aj (oC h 3 [q8, wF, (I6 a.status), (I6 a.aK)] rfl gL rfl rfl rfl rfl (h.dD 213 rfl).one fun w h Fw => ?_)))
 replace oq := oq.same Fw
 refine aA (aT oq (dN 8 oq rfl (by kernel_rfl) (fun w hk => ag gJ rfl) (bE 9 (by kernel_rfl) rfl aj (oC h 3 [q8, vo, (I6 a.status), (I6 a.aK)] rfl jQ rfl rfl rfl rfl (h.dD 249 rfl).one fun w h Fx => ?_))))
 replace oq := oq.same Fx
 refine aA (aT oq (gG (by kernel_rfl) (au ?_)))
 replace h := (h.fV 29).moveC 213 29 rfl rfl (by decide)
 replace h := (h.fV 30).moveC 214 30 rfl rfl (by decide)
 replace h := (h.fV 31).moveC 215 31 rfl rfl (by decide)
 replace h := (h.fV 65).moveC 249 65 rfl rfl (by decide)
 replace h := (h.fV 66).moveC 250 66 rfl rfl (by decide)
 exact bS (q8, Dm, vo, sD, vk) ⟨h.cn _, hs⟩
 refine aa (az h 3 rfl jQ rfl rfl) (aA (aT oq (bE 2 (by kernel_rfl) rfl aj ?_)))
 have Fq := CS Dl
 subst Fq
 refine aW Ue rfl rfl (vg _ _ h.lt vP a.frames (h.gV 1 rfl) _ Dl) ?_
 rintro _ w ⟨zK, q8, rfl, Fs, zL⟩
 refine ⟨_, rfl, ?_⟩
 replace h := h.nz 213 zK Fs zL
 have O1 : ∀ b, ob q8 b → ws43.heap.size ≤ b := fun b hb => Nat.le_trans oq.size (zL b hb)
 replace oq := oq.grow zK
 obtain ⟨Dm, -, h⟩ := h.thaw (N := bB) (R := bz) (Es := 51) 213 214 215 rfl (by decide) (by decide) (by decide) rfl JJ
 refine aA (aT oq (dN 6 oq rfl (by kernel_rfl) (fun w hk => ag dP rfl) (bE 5 (by kernel_rfl) rfl aj (aW Uf rfl rfl (Fp _ _ h.lt wF a.cells (h.gV 2 rfl) _ M5) ?_))))
 rintro _ w ⟨zM, vo, sD, rfl, Fu, Fv⟩
 refine ⟨_, rfl, ?_⟩
 replace h := h.Mx 249 (C := (.two (.own (eD Val).raw 47 vo (List.zip vk sD)) (.iJ (ek bz 51 hn sD (List.map (eD Val).sub vk))) : Chunk)) zM ⟨trivial, trivial⟩ Fu Fv
 replace h := h.cK 249 250 (by decide) rfl rfl
 replace oq := oq.grow zM
 refine aA (aT oq (bE 7 (by kernel_rfl) rfl aj (oC h 3 [q8, wF, (I6 a.status), (I6 a.aK)] rfl gL rfl rfl rfl rfl (h.dD 213 rfl).one fun w h Fw => ?_)))
 replace oq := oq.same Fw
 refine aA (aT oq (dN 8 oq rfl (by kernel_rfl) (fun w hk => ag gJ rfl) (bE 9 (by kernel_rfl) rfl aj (oC h 3 [q8, vo, (I6 a.status), (I6 a.aK)] rfl jQ rfl rfl rfl rfl (h.dD 249 rfl).one fun w h Fx => ?_))))
 replace oq := oq.same Fx
 refine aA (aT oq (gG (by kernel_rfl) (au ?_)))
 replace h := (h.fV 29).moveC 213 29 rfl rfl (by decide)
 replace h := (h.fV 30).moveC 214 30 rfl rfl (by decide)
 replace h := (h.fV 31).moveC 215 31 rfl rfl (by decide)
 replace h := (h.fV 65).moveC 249 65 rfl rfl (by decide)
 replace h := (h.fV 66).moveC 250 66 rfl rfl (by decide)
 exact bS (q8, Dm, vo, sD, vk) ⟨h.cn _, hs⟩
 refine aa (az h 3 rfl jQ rfl rfl) (aA (aT oq (bE 1 (by kernel_rfl) rfl aj (aa (az h 3 rfl gL rfl rfl) (aA (aT oq (bE 2 (by kernel_rfl) rfl aj ?_)))))))
 have Fq := CS Dl
 subst Fq
 refine aW Ue rfl rfl (vg _ _ h.lt vP a.frames (h.gV 1 rfl) _ Dl) ?_
 rintro _ w ⟨zK, q8, rfl, Fs, zL⟩
 refine ⟨_, rfl, ?_⟩
 replace h := h.nz 213 zK Fs zL
 have O1 : ∀ b, ob q8 b → ws43.heap.size ≤ b := fun b hb => Nat.le_trans oq.size (zL b hb)
 replace oq := oq.grow zK
 obtain ⟨Dm, -, h⟩ := h.thaw (N := bB) (R := bz) (Es := 51) 213 214 215 rfl (by decide) (by decide) (by decide) rfl JJ
 refine aA (aT oq (dN 6 oq rfl (by kernel_rfl) (fun w hk => ag dP rfl) (bE 5 (by kernel_rfl) rfl aj (aW Uf rfl rfl (Fp _ _ h.lt wF a.cells (h.gV 2 rfl) _ M5) ?_))))
 rintro _ w ⟨zM, vo, sD, rfl, Fu, Fv⟩
 refine ⟨_, rfl, ?_⟩
 replace h := h.Mx 249 (C := (.two (.own (eD Val).raw 47 vo (List.zip vk sD)) (.iJ (ek bz 51 hn sD (List.map (eD Val).sub vk))) : Chunk)) zM ⟨trivial, trivial⟩ Fu Fv
 replace h := h.cK 249 250 (by decide) rfl rfl
 replace oq := oq.grow zM
 refine aA (aT oq (bE 7 (by kernel_rfl) rfl aj (oC h 3 [q8, wF, (I6 a.status), (I6 a.aK)] rfl gL rfl rfl rfl rfl (h.dD 213 rfl).one fun w h Fw => ?_)))
 replace oq := oq.same Fw
 refine aA (aT oq (dN 8 oq rfl (by kernel_rfl) (fun w hk => ag gJ rfl) (bE 9 (by kernel_rfl) rfl aj (oC h 3 [q8, vo, (I6 a.status), (I6 a.aK)] rfl jQ rfl rfl rfl rfl (h.dD 249 rfl).one fun w h Fx => ?_))))
 replace oq := oq.same Fx
 refine aA (aT oq (gG (by kernel_rfl) (au ?_)))
 replace h := (h.fV 29).moveC 213 29 rfl rfl (by decide)
 replace h := (h.fV 30).moveC 214 30 rfl rfl (by decide)
 replace h := (h.fV 31).moveC 215 31 rfl rfl (by decide)
 replace h := (h.fV 65).moveC 249 65 rfl rfl (by decide)
 replace h := (h.fV 66).moveC 250 66 rfl rfl (by decide)
 exact bS (q8, Dm, vo, sD, vk) ⟨h.cn _, hs⟩
def Dn (x8 : Int) : Option (Val × Bool) :=
  some ((⟨1, x8⟩ : Val), (decide ((-1000000000 : Int) ≤ x8) && decide ((x8 : Int) ≤ 1000000000)))
def R8 (a : Int) (b : Val) (c : Val) : Option (Val × Bool) :=
  bif decide ((a : Int) = 5) then bif (decide (b.kind = c.kind) && decide (b.n = c.n)) then some ((⟨1, 1⟩ : Val), true) else some ((⟨1, 0⟩ : Val), true) else bif (decide ((b.kind : Int) ≠ 1) || decide ((c.kind : Int) ≠ 1)) then some ((⟨0, 0⟩ : Val), false) else bif decide ((a : Int) = 1) then iK (kJ (b.n + c.n)) (Dn (b.n + c.n)) else bif decide ((a : Int) = 2) then iK (kJ (b.n - c.n)) (Dn (b.n - c.n)) else bif decide ((a : Int) = 3) then iK (kJ (b.n * c.n)) (Dn (b.n * c.n)) else bif decide ((a : Int) = 4) then bif decide ((b.n : Int) < c.n) then some ((⟨1, 1⟩ : Val), true) else some ((⟨1, 0⟩ : Val), true) else Dn 0
end
end Go.Proofs.YtfclkapelkhlpaaGreatDoor
