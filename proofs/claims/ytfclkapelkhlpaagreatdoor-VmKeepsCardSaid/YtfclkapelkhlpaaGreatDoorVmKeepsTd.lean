/-
  What the law VmKeeps needs of our own library and of the walks, no more.
-/
import Derived.Test.YtfclkapelkhlpaaGreatDoorProg
import Derived.Test.YtfclkapelkhlpaaGreatDoorVmKeepsTc
set_option linter.unusedSimpArgs false
set_option linter.unusedVariables false
set_option maxRecDepth 10000
namespace Go.Proofs.YtfclkapelkhlpaaGreatDoor
open Go Go.Proofs Go.LX
noncomputable section
theorem xm (N : Nat) (w0 : World) (M : BS) (hM : ∀ b, M b → b < w0.heap.size) (hT : uh Tryz.prog 4 w0) (a : Str) (r : List eX × Int) (hs : jW N a = some r) :
    Calls Tryz.prog 77 #[(bg a)] w0 (fun e w' => Grow w0 w' ∧ ∃ u0, e = .returned (.tuple #[u0, .int .i64 r.2]) ∧ dU iH 113 w' M u0 r.1 ∧ (∀ b, ob u0 b → w0.heap.size ≤ b)) := by
 refine aQ (args := [(bg a)]) Tryz.func77 rfl Tryz.ntmps77 (Nat.le_of_ble_eq_true rfl) ?_
 have h := SH.init hM
 refine ai (ag (ae (aj (v := (.slice none 0 0)) rfl) (ae (aj (v := (.int .i64 (0))) rfl) (ah (aa (ai (ag (ae (au (v := (bg a)) rfl) ?_))))))))
 obtain ⟨y1, e2, hs⟩ := aP hs
 refine bA TM rfl rfl (EW _ _ h.lt (hT.go h.keep) a [32] _ e2) ?_
 rintro _ w ⟨k5, u3, rfl, g4⟩
 refine ⟨_, rfl, ?_⟩
 replace h := h.Hy 1 k5 g4
 refine oQ h 2 lZ fun w b6 h => fw h 2 [u3] rfl lZ rfl rfl rfl rfl (h.gF 1 rfl).one fun w h => ah (aa (ai (ag (oQ h 3 xJ fun w b7 h => ah (aa (ai (ai (ag (ae (aF h 2 rfl lZ rfl rfl) (ae (bU eB rfl (h.lY 1 rfl)) (ae (au (v := (.int .i64 (0))) rfl) (ah (aa (aT ?_))))))))))))))
 replace h := h.yF (R := iH) (E := 113) 7
 refine gL (σ := Nat × Int × Value × List eX) (inl [6, 7, 8, 9, 10, 11, 24, 25, 26, 27, 28, 29, 30, 31, 32, 33, 34, 35, 36, 37, 38, 39, 40, 41, 42, 43, 44, 45, 46, 47, 48, 49, 50, 51, 52, 53, 54, 55, 56, 57, 58, 59, 60, 61, 62]) (fun ⟨k16, i17, v14, vE⟩ => [(24, (.int .i64 (i17)))]) (fun ⟨k16, i17, v14, vE⟩ w => SH w0 M BE w (hset [(1, .rd ni u3 y1), (2, .blk b6 [u3]), (3, .blk b7 [v14]), (7, .own iH 113 v14 vE)]) ∧ i17 = (k16 : Int) ∧ eO (iZ y1) (ic N y1 a) i17 (y1.drop k16) vE = some r) (fun ⟨k16, i17, v14, vE⟩ => y1.length - k16) ⟨0, 0, (.slice none 0 0), []⟩ ⟨rfl, trivial⟩ ?_ ?_
 exact ⟨h.cn _, rfl, hs⟩
 rintro ⟨k16, i17, v14, vE⟩ w dD ⟨h, hik, hs⟩
 refine ai (ag ?_)
 refine ae (dS rfl rfl) (ah (aa ?_))
 refine ai (iy rfl (fun e21 => ?_) (fun e21 => ?_))
 refine aG (aa ?_)
 obtain ⟨yz, e22a, e22b⟩ := gy (hik ▸ e21)
 rw [e22b, iG] at hs
 generalize Y0 : eO (iZ y1) (ic N y1 a) (i17 + 1) (y1.drop (k16 + 1)) = Hl at hs
 have Y1 := gD ((h.lY 1 rfl)).bZ hik e21
 refine bY (σ := Value × List eX) (inl [6, 7, 8, 9, 10, 11, 26, 27, 28, 29, 30, 31, 32, 33, 34, 35, 36, 37, 38, 39, 40, 41, 42, 43, 44, 45, 46, 47, 48, 49, 50, 51, 52, 53, 54, 55, 56, 57, 58, 59, 60, 61]) (fun ⟨v23, y24⟩ => []) (fun ⟨v23, y24⟩ w => SH w0 M BE w (hset [(1, .rd ni u3 y1), (2, .blk b6 [u3]), (3, .blk b7 [v23]), (7, .own iH 113 v23 y24)]) ∧ kS Hl y24 = some r) ?_ ?_
 rintro ⟨v23, y24⟩ w dD ⟨h, hs⟩
 refine ag (ae (dC rfl rfl Y1) (ae (au (v := (.int .i64 ((i17 + 1)))) rfl) (ah (az ?_))))
 subst Y0
 exact jN ⟨k16 + 1, i17 + 1, v23, y24⟩ ⟨h.cn _, by omega, hs⟩ (by have := of_decide_eq_true e21; dsimp only; omega)
 refine aT (ai (ag (ae (au (v := (.int .i64 (i17))) rfl) ?_)))
 obtain ⟨Wd, o27, Ui, h, WG, i25⟩ := h.Dl 1 8 rfl eB rfl (iQ hik) (gB hik e22a)
 obtain rfl := WG
 refine ae (i25 _ _ _ _ _ _ _ _ _ rfl rfl) (ae (ek (k := 0) h 8 rfl xK rfl rfl) (ae (aj (v := (.int .i64 (i17))) rfl) (ae (aj (v := (bg yz)) rfl) (ah (aa (bY (σ := Bool) (inl [29, 30, 31, 32, 33, 34, 35, 36, 37]) (fun x30 => [(37, (.bool (x30)))]) (fun x30 w => SH w0 M BE w (hset [(1, .rd ni u3 y1), (2, .blk b6 [u3]), (3, .blk b7 [v14]), (7, .own iH 113 v14 vE)]) ∧ kT y1 i17 vE Hl x30 = some r) ?_ ?_))))))
 rintro x30 w dD ⟨h, hs⟩
 refine aK hs rfl (fun c31 hs => ?_) (fun c31 hs => ?_)
 refine ai (ag (ae (aF h 2 rfl lZ rfl rfl) (ae (au (v := (.int .i64 (i17))) rfl) (ae (dC rfl rfl Y1) ?_))))
 obtain ⟨x32, e33, hs⟩ := aP hs
 obtain ⟨b35, o36, cs37, h, r38, i34⟩ := h.Dl 1 9 rfl eB rfl (aJ e33).1 (aJ e33).2
 obtain rfl := r38
 refine ae (i34 _ _ _ _ _ _ _ _ _ rfl rfl) (ae (ek (k := 0) h 9 rfl xK rfl rfl) ?_)
 obtain ⟨y39, e40, hs⟩ := aP hs
 refine bA CE rfl rfl (oZ _ _ h.lt (hT.go h.keep) x32 _ e40) ?_
 rintro _ w ⟨k43, WI, rfl, g42⟩
 refine ⟨_, rfl, ?_⟩
 replace h := h.grow k43
 refine ae (au (v := (.tuple #[(.int .i64 (y39.1)), WI])) rfl) (ae (bB rfl rfl) (ae (bB rfl rfl) (ae (aj (v := (.int .i64 (y39.1))) rfl) (ae (aj (v := WI) rfl) (ah (aa (ai (ag (ae (aF h 2 rfl lZ rfl rfl) (ae (au (v := (.int .i64 (i17))) rfl) ?_))))))))))
 obtain ⟨a44, hs⟩ := bI hs
 refine ae (dC rfl rfl a44) ?_
 obtain ⟨x45, e46, hs⟩ := aP hs
 obtain ⟨b48, o49, cs50, h, r51, i47⟩ := h.Dl 1 10 rfl eB rfl (aJ e46).1 (aJ e46).2
 obtain rfl := r51
 refine ae (i47 _ _ _ _ _ _ _ _ _ rfl rfl) (ae (ek (k := 0) h 10 rfl xK rfl rfl) ?_)
 obtain ⟨AR, e53, hs⟩ := aP hs
 refine bA CE rfl rfl (oZ _ _ h.lt (hT.go h.keep) x45 _ e53) ?_
 rintro _ w ⟨k56, RA, rfl, g55⟩
 refine ⟨_, rfl, ?_⟩
 replace h := h.grow k56
 refine ae (au (v := (.tuple #[(.int .i64 (AR.1)), RA])) rfl) (ae (bB rfl rfl) (ae (bB rfl rfl) (ae (aj (v := (.int .i64 (AR.1))) rfl) (ae (aj (v := RA) rfl) (ah (aa (ag (ae (aF h 3 rfl xJ rfl rfl) (ae (au (v := (.int .i64 (y39.1))) rfl) (ae (au (v := (.int .i64 (AR.1))) rfl) (ae (dO (pv := [(0, (.int .i64 (y39.1))), (1, (.int .i64 (AR.1)))]) (out := [(.int .i64 (y39.1)), (.int .i64 (AR.1)), (.slice none 0 0)]) OC rfl ⟨0, 1, [(.int .i64 (y39.1))], rfl, rfl, rfl, Nat.le_of_ble_eq_true rfl, ⟨1, 1, [(.int .i64 (AR.1))], rfl, rfl, rfl, Nat.le_of_ble_eq_true rfl, rfl⟩⟩) (sZ (R := iH) (vs := [(.agg #[(.int .i64 (y39.1)), (.int .i64 (AR.1)), (.slice none 0 0)])]) (xs := [(⟨y39.1, AR.1, []⟩ : eX)]) h 11 Kw rfl rfl rfl ⟨⟨_, rfl, gp.nil⟩, trivial⟩ rfl fun w u57 h => ?_))))))))))))
 obtain ⟨a58, hs⟩ := bI hs
 refine mf (R := iH) (m := [(⟨y39.1, AR.1, []⟩ : eX)]) h 7 rfl (h.ed 11 rfl) Kw rfl rfl rfl a58.1 a58.2 fun w u59 h => fw h 3 [u59] rfl xJ rfl rfl rfl rfl (h.dG 7 rfl).one fun w h => ah (aA (az ?_))
 exact bS (u59, (vE ++ [(⟨y39.1, AR.1, []⟩ : eX)])) ⟨h.cn _, hs⟩
 refine aG (aA (az ?_))
 exact bS (v14, vE) ⟨h.cn _, hs⟩
 refine ag (ae (au (v := (bg yz)) rfl) (ae (Dq rfl rfl) (ae (au (v := (.bool (decide ((yz : Str) = [102, 117, 110])))) rfl) (jH (b := decide ((yz : Str) = [102, 117, 110])) hs (fun OT hs => ?_) (fun OT hs => ?_)))))
 refine dn rfl (congrArg Value.bool OT) (ae (au (v := (.int .i64 (i17))) rfl) (dn rfl (congrArg Value.bool OT) ?_))
 obtain ⟨a61, hs⟩ := bI hs
 refine ae (dC rfl rfl a61) (dn rfl (congrArg Value.bool OT) (ae (aF h 2 rfl lZ rfl rfl) (dn rfl (congrArg Value.bool OT) (ae (bU eB rfl (h.lY 1 rfl)) (dn rfl (congrArg Value.bool OT) (ae (dS rfl rfl) (ae (dL (b := true) (v := (.bool (decide (((i17 + 2) : Int) < (y1.length : Int))))) (congrArg Value.bool OT) rfl) (ah (az ?_)))))))))
 exact bS (decide (((i17 + 2) : Int) < (y1.length : Int))) ⟨h.cn _, hs⟩
 refine bE (b' := false) rfl (congrArg Value.bool OT) rfl (bE (b' := false) rfl (congrArg Value.bool OT) rfl (bE (b' := false) rfl (congrArg Value.bool OT) rfl (bE (b' := false) rfl (congrArg Value.bool OT) rfl (bE (b' := false) rfl (congrArg Value.bool OT) rfl (ae (dL (b := false) (v := (.bool (false))) (congrArg Value.bool OT) rfl) (ah (az ?_)))))))
 exact bS false ⟨h.cn _, hs⟩
 rw [gz (hik ▸ e21), mh] at hs
 refine df (aO (aO (bF (aa (ai (ai (ag (ae (aF h 3 rfl xJ rfl rfl) (ae (bU il rfl (h.ed 7 rfl)) (ae (bH rfl rfl) (ae (au (v := (.bool (decide (((vE.length : Int) : Int) = 0)))) rfl) (aD rfl rfl (fun q => aF h 3 rfl xJ rfl rfl) (aD rfl rfl (fun q => bU il (dx q) (h.ed 7 rfl)) (aD rfl rfl (fun q => jA (dx q) rfl) (ae (gK rfl rfl lQ) (ah (aa (aK hs rfl (fun c62 hs => ?_) (fun c62 hs => ?_)))))))))))))))))))
 refine ai (ag (ae (aj (v := (.slice none 0 0)) rfl) (ae (aj (v := (.int .i64 (1))) rfl) (ah (aa (aI (aC (Dm (v1 := (.slice none 0 0)) (v2 := (.int .i64 (1))) Tryz.results77 rfl rfl ?_))))))))
 obtain rfl := Option.some.inj hs
 exact ⟨h.grown, _, rfl, dU.nil, lM⟩
 refine aG (aa (ai (ai (ag (ae (aF h 3 rfl xJ rfl rfl) (ae (bU il rfl (h.ed 7 rfl)) (ae (au (v := (.int .i64 (0))) rfl) (ah (aa (aT ?_))))))))))
 have Y2 := (h.ed 7 rfl).bZ
 refine gL (σ := Nat × Int) (inl [2, 3, 13, 73, 74, 75, 76, 77, 78, 79, 80, 81]) (fun ⟨Tg, i64⟩ => [(73, (.int .i64 (i64)))]) (fun ⟨Tg, i64⟩ w => SH w0 M BE w (hset [(1, .rd ni u3 y1), (2, .blk b6 [u3]), (3, .blk b7 [v14]), (7, .own iH 113 v14 vE)]) ∧ i64 = (Tg : Int) ∧ upto (iY vE) (ib N y1 a vE) i64 (((vE.length : Int)).toNat - Tg) () = some r) (fun ⟨Tg, i64⟩ => ((vE.length : Int)).toNat - Tg) ⟨0, 0⟩ ⟨rfl, trivial⟩ ?_ ?_
 exact ⟨h.cn _, rfl, hs⟩
 rintro ⟨Tg, i64⟩ w dD ⟨h, hik, hs⟩
 refine ai (ag ?_)
 refine ae (dS rfl rfl) (ah (aa ?_))
 refine ai (iy rfl (fun T9 => ?_) (fun T9 => ?_))
 refine aG (aa ?_)
 rw [tO (by have := of_decide_eq_true T9; omega)] at hs
 generalize Y3 : upto (iY vE) (ib N y1 a vE) (i64 + 1) (((vE.length : Int)).toNat - (Tg + 1)) = YZ at hs
 have e69r : jB (i64 + 1) := (by have := of_decide_eq_true T9; have := Y2; exact jB.mk (by omega) (by omega))
 refine ai (aT (ai (ag ?_)))
 obtain ⟨Uh, RB, hs⟩ := aP hs
 obtain ⟨b73, q74, i72⟩ := h.vN 7 rfl il rfl (aJ RB).1 (aJ RB).2
 refine ae (i72 _ _ _ _ _ _ _ _ _ rfl rfl) ?_
 obtain ⟨cs75, WJ, r77⟩ := h.yx 7 rfl q74 (aJ RB).2
 obtain ⟨J7, rfl, g79⟩ := qY r77
 replace h := h.cO 12 g79
 refine ae (ou (k := 0) (vs := [(.int .i64 (Uh.params)), (.int .i64 (Uh.locals)), J7]) WJ ll rfl rfl rfl (Nat.le_of_ble_eq_true rfl)) (bW h 13 ll fun w b80 h => dA (vs := [(.int .i64 (Uh.params)), (.int .i64 (Uh.locals)), J7]) h 13 [(.int .i64 (Uh.params)), (.int .i64 (Uh.locals)), J7] rfl ll rfl rfl rfl rfl rfl (ax rfl (ax rfl (ax (h.gF 12 rfl).one bu))) fun w h => ah (aa (ai (ag (ae (ak uk rfl) (ae (aF h 13 rfl bz rfl rfl) (bA xc rfl rfl (gH _ _ h.lt Uh.params 0 3 _ rfl) ?_)))))))
 rintro _ w ⟨k81, rfl⟩
 refine ⟨_, rfl, ?_⟩
 replace h := h.grow k81
 refine ae (gP rfl) (ah (aa (aK hs rfl (fun c82 hs => ?_) (fun c82 hs => ?_))))
 refine ai (ag (ae (aj (v := (.slice none 0 0)) rfl) (ae (aj (v := (.int .i64 (1))) rfl) (ah (aa (aI (aH (aC (aC (aH (aC (Dm (v1 := (.slice none 0 0)) (v2 := (.int .i64 (1))) Tryz.results77 rfl rfl ?_))))))))))))
 obtain rfl := Option.some.inj hs
 exact ⟨h.grown, _, rfl, dU.nil, lM⟩
 refine aG (aA (aa (ag (ae (dC rfl rfl e69r) (ae (au (v := (.int .i64 ((i64 + 1)))) rfl) (ah (az ?_)))))))
 subst Y3
 exact jN ⟨Tg + 1, i64 + 1⟩ ⟨h.cn _, by omega, hs⟩ (by have := of_decide_eq_true T9; dsimp only; omega)
 rw [tQ (by have := of_decide_eq_false T9; omega)] at hs
 refine df (aO (aO (bF (aa (ai (ag (oQ h 14 bz fun w EK h => fw h 14 [(.int .i64 (0))] rfl bz rfl rfl rfl rfl rfl fun w h => ah (aa (ai (ag (oQ h 15 wI fun w yA h => fw h 15 [(.bool (true))] rfl wI rfl rfl rfl rfl rfl fun w h => ah (aa (ai (ag (ae (qN (c1 := []) (c2 := [(.pointer (some ⟨EK, 0, none⟩)), (.pointer (some ⟨b6, 0, none⟩)), (.pointer (some ⟨yA, 0, none⟩))]) rfl rfl) (oQ h 16 yS fun w G5 h => fw h 16 [(.func (.func 103) #[] #[(.pointer (some ⟨EK, 0, none⟩)), (.pointer (some ⟨b6, 0, none⟩)), (.pointer (some ⟨yA, 0, none⟩))])] rfl yS rfl rfl rfl rfl rfl fun w h => ah (aa ?_)))))))))))))))))
 refine ai (ag (ae (qN (c1 := []) (c2 := [(.pointer (some ⟨yA, 0, none⟩)), (.pointer (some ⟨G5, 0, none⟩)), (.pointer (some ⟨b7, 0, none⟩))]) rfl rfl) (oQ h 17 Jz fun w OU h => fw h 17 [(.func (.func 104) #[] #[(.pointer (some ⟨yA, 0, none⟩)), (.pointer (some ⟨G5, 0, none⟩)), (.pointer (some ⟨b7, 0, none⟩))])] rfl Jz rfl rfl rfl rfl rfl fun w h => ah (aa (ai (ag (oQ h 18 FT fun w NM h => ah (aa (ai (ag (ae (qN (c1 := []) (c2 := [(.pointer (some ⟨G5, 0, none⟩)), (.pointer (some ⟨yA, 0, none⟩)), (.pointer (some ⟨OU, 0, none⟩)), (.pointer (some ⟨NM, 0, none⟩))]) rfl rfl) (fw h 18 [(.func (.func 109) #[] #[(.pointer (some ⟨G5, 0, none⟩)), (.pointer (some ⟨yA, 0, none⟩)), (.pointer (some ⟨OU, 0, none⟩)), (.pointer (some ⟨NM, 0, none⟩))])] rfl FT rfl rfl rfl rfl rfl fun w h => ah (aa (ai (ai (ag (ae (aF h 3 rfl xJ rfl rfl) (ae (bU il rfl (h.ed 7 rfl)) (ae (au (v := (.int .i64 (0))) rfl) ?_)))))))))))))))))))
 refine ah (aa (aT ?_))
 have WM := (h.ed 7 rfl).bZ
 refine gL (σ := Nat × Int × List eX × Int × Bool) (inl [19, 87, 88, 89, 90, 91, 92, 93, 94, 95, 96, 97, 98, 99, 100, 101, 102, 103]) (fun ⟨KO, i101, qA, y98, y99⟩ => [(87, (.int .i64 (i101)))]) (fun ⟨KO, i101, qA, y98, y99⟩ w => SH w0 M BE w (hset [(1, .rd ni u3 y1), (2, .blk b6 [u3]), (3, .blk b7 [v14]), (7, .own iH 113 v14 qA), (14, .blk EK [(.int .i64 (y98))]), (15, .blk yA [(.bool (y99))]), (16, .blk G5 [(.func (.func 103) #[] #[(.pointer (some ⟨EK, 0, none⟩)), (.pointer (some ⟨b6, 0, none⟩)), (.pointer (some ⟨yA, 0, none⟩))])]), (17, .blk OU [(.func (.func 104) #[] #[(.pointer (some ⟨yA, 0, none⟩)), (.pointer (some ⟨G5, 0, none⟩)), (.pointer (some ⟨b7, 0, none⟩))])]), (18, .blk NM [(.func (.func 109) #[] #[(.pointer (some ⟨G5, 0, none⟩)), (.pointer (some ⟨yA, 0, none⟩)), (.pointer (some ⟨OU, 0, none⟩)), (.pointer (some ⟨NM, 0, none⟩))])])]) ∧ i101 = (KO : Int) ∧ upto (gZ N y1) (iX N y1 a) i101 (((vE.length : Int)).toNat - KO) (qA, y98, y99) = some r) (fun ⟨KO, i101, qA, y98, y99⟩ => ((vE.length : Int)).toNat - KO) ⟨0, 0, vE, 0, true⟩ ⟨rfl, trivial⟩ ?_ ?_
 exact ⟨h.cn _, rfl, hs⟩
 rintro ⟨KO, i101, qA, y98, y99⟩ w dD ⟨h, hik, hs⟩
 refine ai (ag ?_)
 refine ae (dS rfl rfl) (ah (aa ?_))
 refine ai (iy rfl (fun JF => ?_) (fun JF => ?_))
 refine aG (aa ?_)
 rw [tO (by have := of_decide_eq_true JF; omega)] at hs
 generalize WN : upto (gZ N y1) (iX N y1 a) (i101 + 1) (((vE.length : Int)).toNat - (KO + 1)) = j5 at hs
 have Y4 : jB (i101 + 1) := (by have := of_decide_eq_true JF; have := WM; exact jB.mk (by omega) (by omega))
 refine ai (aT (ai (ag (ae (au (v := (.int .i64 (i101))) rfl) (ae (aj (v := (.int .i64 (i101))) rfl) (ah (aa (bY (σ := Int × Bool) (inl [90, 91, 92]) (fun ⟨om, JH⟩ => []) (fun ⟨om, JH⟩ w => SH w0 M BE w (hset [(1, .rd ni u3 y1), (2, .blk b6 [u3]), (3, .blk b7 [v14]), (7, .own iH 113 v14 qA), (14, .blk EK [(.int .i64 (om))]), (15, .blk yA [(.bool (JH))]), (16, .blk G5 [(.func (.func 103) #[] #[(.pointer (some ⟨EK, 0, none⟩)), (.pointer (some ⟨b6, 0, none⟩)), (.pointer (some ⟨yA, 0, none⟩))])]), (17, .blk OU [(.func (.func 104) #[] #[(.pointer (some ⟨yA, 0, none⟩)), (.pointer (some ⟨G5, 0, none⟩)), (.pointer (some ⟨b7, 0, none⟩))])]), (18, .blk NM [(.func (.func 109) #[] #[(.pointer (some ⟨G5, 0, none⟩)), (.pointer (some ⟨yA, 0, none⟩)), (.pointer (some ⟨OU, 0, none⟩)), (.pointer (some ⟨NM, 0, none⟩))])])]) ∧ gX N y1 qA i101 j5 om JH = some r) ?_ ?_))))))))
 rintro ⟨om, JH⟩ w dD ⟨h, hs⟩
 refine bY (σ := Int × Bool) (inl [93, 94]) (fun ⟨xk, JG⟩ => []) (fun ⟨xk, JG⟩ w => SH w0 M BE w (hset [(1, .rd ni u3 y1), (2, .blk b6 [u3]), (3, .blk b7 [v14]), (7, .own iH 113 v14 qA), (14, .blk EK [(.int .i64 (xk))]), (15, .blk yA [(.bool (JG))]), (16, .blk G5 [(.func (.func 103) #[] #[(.pointer (some ⟨EK, 0, none⟩)), (.pointer (some ⟨b6, 0, none⟩)), (.pointer (some ⟨yA, 0, none⟩))])]), (17, .blk OU [(.func (.func 104) #[] #[(.pointer (some ⟨yA, 0, none⟩)), (.pointer (some ⟨G5, 0, none⟩)), (.pointer (some ⟨b7, 0, none⟩))])]), (18, .blk NM [(.func (.func 109) #[] #[(.pointer (some ⟨G5, 0, none⟩)), (.pointer (some ⟨yA, 0, none⟩)), (.pointer (some ⟨OU, 0, none⟩)), (.pointer (some ⟨NM, 0, none⟩))])])]) ∧ gW N y1 qA i101 j5 xk JG = some r) ?_ ?_
 rintro ⟨xk, JG⟩ w dD ⟨h, hs⟩
 refine bY (σ := Int × Bool) (inl [95, 96]) (fun ⟨E5, y112⟩ => []) (fun ⟨E5, y112⟩ w => SH w0 M BE w (hset [(1, .rd ni u3 y1), (2, .blk b6 [u3]), (3, .blk b7 [v14]), (7, .own iH 113 v14 qA), (14, .blk EK [(.int .i64 (E5))]), (15, .blk yA [(.bool (y112))]), (16, .blk G5 [(.func (.func 103) #[] #[(.pointer (some ⟨EK, 0, none⟩)), (.pointer (some ⟨b6, 0, none⟩)), (.pointer (some ⟨yA, 0, none⟩))])]), (17, .blk OU [(.func (.func 104) #[] #[(.pointer (some ⟨yA, 0, none⟩)), (.pointer (some ⟨G5, 0, none⟩)), (.pointer (some ⟨b7, 0, none⟩))])]), (18, .blk NM [(.func (.func 109) #[] #[(.pointer (some ⟨G5, 0, none⟩)), (.pointer (some ⟨yA, 0, none⟩)), (.pointer (some ⟨OU, 0, none⟩)), (.pointer (some ⟨NM, 0, none⟩))])])]) ∧ gV N y1 qA i101 j5 E5 y112 = some r) ?_ ?_
 rintro ⟨E5, y112⟩ w dD ⟨h, hs⟩
 refine lS (L := (fun b => b = EK ∨ b = yA ∨ ob v14 b)) mixed h fun w h => aZ 0 (aS.refl _ _) rfl ay (by kernel_rfl) (by kernel_rfl) (by kernel_rfl) (fun w hk => have h := h.QA 14 15 7 (by decide) (by decide) (by decide) rfl rfl rfl hk; aF h 3 rfl xJ rfl rfl) (aZ 1 (aS.refl _ _) rfl ay (by kernel_rfl) (by kernel_rfl) (by kernel_rfl) (fun w hk => au (v := (.int .i64 (i101))) rfl) (aZ 2 (aS.refl _ _) rfl ay (by kernel_rfl) (by kernel_rfl) (by kernel_rfl) (fun w hk => have h := h.QA 14 15 7 (by decide) (by decide) (by decide) rfl rfl rfl hk; aF h 18 rfl FT rfl rfl) ?_))
 obtain ⟨Y5, RD⟩ : ∃ x, x = w := ⟨_, rfl⟩
 have EL : aS (fun b => b = EK ∨ b = yA ∨ ob v14 b) Y5 w := RD ▸ aS.refl (fun b => b = EK ∨ b = yA ∨ ob v14 b) w
 refine rP RD.symm (bP 3 (by kernel_rfl) rfl ay ?_)
 replace h := h.pair 14 15 (by decide)
 obtain ⟨MC, ME, MF⟩ := h.vT 14 (C := (.two (.blk EK [(.int .i64 (E5))]) (.blk yA [(.bool (y112))]) : Chunk)) rfl ⟨trivial, trivial⟩
 obtain ⟨jJ, OV, hs⟩ := aP hs
 refine bA Js rfl rfl (MB N _ _ MF (hT.go h.keep) EK yA b6 G5 b7 OU NM (⟨E5, y112⟩ : dJ) MC ME u3 y1 (h.Ny 14 1 rfl rfl) v14 qA (h.Yp 14 7 (by decide) rfl rfl) (h.ql 2 rfl) (fun hb => h.apart 14 2 (by decide) _ hb rfl) (h.ql 16 rfl) (fun hb => h.apart 14 16 (by decide) _ hb rfl) (h.ql 3 rfl) (fun hb => h.apart 14 3 (by decide) _ hb rfl) (h.ql 17 rfl) (fun hb => h.apart 14 17 (by decide) _ hb rfl) (h.ql 18 rfl) (fun hb => h.apart 14 18 (by decide) _ hb rfl) 1 (h.FK hT (fun _ h => h.elim) 14 (C := (.two (.blk EK [(.int .i64 (E5))]) (.blk yA [(.bool (y112))]) : Chunk)) rfl) _ OV) ?_
 rintro _ w ⟨Im, XL, rfl, OW, OX, OY⟩
 refine ⟨_, rfl, ?_⟩
 replace h := h.back 14 (C := (.two (.blk EK [(.int .i64 (E5))]) (.blk yA [(.bool (y112))]) : Chunk)) (C' := (.two (.blk EK [(.int .i64 (jJ.2.at_))]) (.blk yA [(.bool (jJ.2.ok))]) : Chunk)) rfl ⟨trivial, trivial⟩ OW Im OX
 replace h := h.cO 55 (FN OY)
 replace h := h.bX 14 15 (by decide) rfl rfl
 replace EL := aS.step EL Im (fun _ hx _ => hx.elim (fun hx => .inl (hx)) (fun hx => .inr (.inl (hx))))
 refine ah (aX EL ?_)
 obtain ⟨vO, DF, hs⟩ := aP hs
 obtain ⟨XM, OZ, O0⟩ := h.vN 7 rfl il rfl (aJ DF).1 (aJ DF).2
 refine aZ 4 EL rfl ay (by kernel_rfl) (by kernel_rfl) (by kernel_rfl) (fun w hk => O0 _ _ _ _ _ _ _ _ _ rfl rfl) (aZ 5 EL rfl ay (by kernel_rfl) (by kernel_rfl) (by kernel_rfl) (fun w hk => ak zR rfl) (bP 6 (by kernel_rfl) rfl ay (Qo (a' := { vO with body := jJ.1 }) h 7 rfl OZ rfl (aJ DF).2 ow rfl rfl (h.gF 55 rfl).one rfl (by rintro _ hq; obtain ⟨p2, rfl, q2⟩ := qY hq; exact ⟨_, rfl, (h.gF 55 rfl)⟩) fun w h O1 => ?_)))
 replace EL := aS.step EL O1 (fun _ hx _ => .inr (.inr (hx)))
 refine ah (aX EL (fZ (by kernel_rfl) (aA (aa (ag (ae (dC rfl rfl Y4) (ae (au (v := (.int .i64 ((i101 + 1)))) rfl) (ah (az ?_)))))))))
 subst WN
 exact jN ⟨KO + 1, i101 + 1, (qA.set (i101).toNat { vO with body := jJ.1 }), jJ.2.at_, jJ.2.ok⟩ ⟨h.cn _, by omega, hs⟩ (by have := of_decide_eq_true JF; dsimp only; omega)
 refine ag (ae (aF h 16 rfl yS rfl rfl) (jl (args := [(.pointer (some ⟨EK, 0, none⟩)), (.pointer (some ⟨b6, 0, none⟩)), (.pointer (some ⟨yA, 0, none⟩))]) yQ rfl rfl (aQ (args := [(.pointer (some ⟨EK, 0, none⟩)), (.pointer (some ⟨b6, 0, none⟩)), (.pointer (some ⟨yA, 0, none⟩))]) Tryz.func103 rfl Tryz.ntmps103 (Nat.le_of_ble_eq_true rfl) (ai (ag (ae (aj (v := (bg [])) rfl) (ah (aa (ai (ai (ag (ae (aF h 14 rfl bz rfl rfl) (ae (aF h 2 rfl lZ rfl rfl) (ae (bU eB rfl (h.lY 1 rfl)) (ae (oI rfl rfl) (ah (aa (aK hs rfl (fun qQ hs => ?_) (fun qQ hs => ?_)))))))))))))))))))
 refine ai (ag (fw h 15 [(.bool (false))] rfl wI rfl rfl rfl rfl rfl fun w h => ah (aa (ai (ag (ae (aj (v := (bg [])) rfl) (ah (aa (aI (aC (bV (v := (bg [])) Tryz.results103 rfl (⟨_, rfl, ?_⟩))))))))))))
 refine ah (az ?_)
 exact bS (xk, false) ⟨h.cn _, hs⟩
 refine aG (aa (ai (ag (ae (aF h 14 rfl bz rfl rfl) ?_))))
 obtain ⟨a126, hs⟩ := bI hs
 refine ae (dC rfl rfl a126) (fw h 14 [(.int .i64 ((xk + 1)))] rfl bz rfl rfl rfl rfl rfl fun w h => ah (aa (ai (ag (ae (aF h 2 rfl lZ rfl rfl) (ae (aF h 14 rfl bz rfl rfl) ?_))))))
 obtain ⟨a127, hs⟩ := bI hs
 refine ae (nW rfl rfl a127) ?_
 obtain ⟨Ue, e129, hs⟩ := aP hs
 obtain ⟨b131, o132, cs133, h, r134, i130⟩ := h.Dl 1 115 rfl eB rfl (aJ e129).1 (aJ e129).2
 obtain rfl := r134
 refine ae (i130 _ _ _ _ _ _ _ _ _ rfl rfl) (ae (ek (k := 0) h 115 rfl xK rfl rfl) (ae (aj (v := (bg Ue)) rfl) (ah (aa (aI (bV (v := (bg Ue)) Tryz.results103 rfl (⟨_, rfl, ?_⟩)))))))
 refine ah (az ?_)
 exact bS ((xk + 1), JG) ⟨h.cn _, hs⟩
 refine ag (ae (aF h 16 rfl yS rfl rfl) (jl (args := [(.pointer (some ⟨EK, 0, none⟩)), (.pointer (some ⟨b6, 0, none⟩)), (.pointer (some ⟨yA, 0, none⟩))]) yQ rfl rfl (aQ (args := [(.pointer (some ⟨EK, 0, none⟩)), (.pointer (some ⟨b6, 0, none⟩)), (.pointer (some ⟨yA, 0, none⟩))]) Tryz.func103 rfl Tryz.ntmps103 (Nat.le_of_ble_eq_true rfl) (ai (ag (ae (aj (v := (bg [])) rfl) (ah (aa (ai (ai (ag (ae (aF h 14 rfl bz rfl rfl) (ae (aF h 2 rfl lZ rfl rfl) (ae (bU eB rfl (h.lY 1 rfl)) (ae (oI rfl rfl) (ah (aa (aK hs rfl (fun c135 hs => ?_) (fun c135 hs => ?_)))))))))))))))))))
 refine ai (ag (fw h 15 [(.bool (false))] rfl wI rfl rfl rfl rfl rfl fun w h => ah (aa (ai (ag (ae (aj (v := (bg [])) rfl) (ah (aa (aI (aC (bV (v := (bg [])) Tryz.results103 rfl (⟨_, rfl, ?_⟩))))))))))))
 refine ah (az ?_)
 exact bS (om, false) ⟨h.cn _, hs⟩
 refine aG (aa (ai (ag (ae (aF h 14 rfl bz rfl rfl) ?_))))
 obtain ⟨a136, hs⟩ := bI hs
 refine ae (dC rfl rfl a136) (fw h 14 [(.int .i64 ((om + 1)))] rfl bz rfl rfl rfl rfl rfl fun w h => ah (aa (ai (ag (ae (aF h 2 rfl lZ rfl rfl) (ae (aF h 14 rfl bz rfl rfl) ?_))))))
 obtain ⟨a137, hs⟩ := bI hs
 refine ae (nW rfl rfl a137) ?_
 obtain ⟨Uf, O3, hs⟩ := aP hs
 obtain ⟨b141, o142, cs143, h, r144, i140⟩ := h.Dl 1 116 rfl eB rfl (aJ O3).1 (aJ O3).2
 obtain rfl := r144
 refine ae (i140 _ _ _ _ _ _ _ _ _ rfl rfl) (ae (ek (k := 0) h 116 rfl xK rfl rfl) (ae (aj (v := (bg Uf)) rfl) (ah (aa (aI (bV (v := (bg Uf)) Tryz.results103 rfl (⟨_, rfl, ?_⟩)))))))
 refine ah (az ?_)
 exact bS ((om + 1), JH) ⟨h.cn _, hs⟩
 refine bY (σ := Bool × Int × Bool) (inl [90, 91, 92]) (fun ⟨KN, E8, JI⟩ => [(92, (.bool (KN)))]) (fun ⟨KN, E8, JI⟩ w => SH w0 M BE w (hset [(1, .rd ni u3 y1), (2, .blk b6 [u3]), (3, .blk b7 [v14]), (7, .own iH 113 v14 qA), (14, .blk EK [(.int .i64 (E8))]), (15, .blk yA [(.bool (JI))]), (16, .blk G5 [(.func (.func 103) #[] #[(.pointer (some ⟨EK, 0, none⟩)), (.pointer (some ⟨b6, 0, none⟩)), (.pointer (some ⟨yA, 0, none⟩))])]), (17, .blk OU [(.func (.func 104) #[] #[(.pointer (some ⟨yA, 0, none⟩)), (.pointer (some ⟨G5, 0, none⟩)), (.pointer (some ⟨b7, 0, none⟩))])]), (18, .blk NM [(.func (.func 109) #[] #[(.pointer (some ⟨G5, 0, none⟩)), (.pointer (some ⟨yA, 0, none⟩)), (.pointer (some ⟨OU, 0, none⟩)), (.pointer (some ⟨NM, 0, none⟩))])])]) ∧ gY N y1 qA i101 j5 KN E8 JI = some r) ?_ ?_
 rintro ⟨KN, E8, JI⟩ w dD ⟨h, hs⟩
 refine aK hs rfl (fun c148 hs => ?_) (fun c148 hs => ?_)
 refine ag (fw h 15 [(.bool (false))] rfl wI rfl rfl rfl rfl rfl fun w h => ah (az ?_))
 exact bS (E8, false) ⟨h.cn _, hs⟩
 refine aG (az ?_)
 exact bS (E8, JI) ⟨h.cn _, hs⟩
 refine ag (ae (aF h 16 rfl yS rfl rfl) (jl (args := [(.pointer (some ⟨EK, 0, none⟩)), (.pointer (some ⟨b6, 0, none⟩)), (.pointer (some ⟨yA, 0, none⟩))]) yQ rfl rfl (aQ (args := [(.pointer (some ⟨EK, 0, none⟩)), (.pointer (some ⟨b6, 0, none⟩)), (.pointer (some ⟨yA, 0, none⟩))]) Tryz.func103 rfl Tryz.ntmps103 (Nat.le_of_ble_eq_true rfl) (ai (ag (ae (aj (v := (bg [])) rfl) (ah (aa (ai (ai (ag (ae (aF h 14 rfl bz rfl rfl) (ae (aF h 2 rfl lZ rfl rfl) (ae (bU eB rfl (h.lY 1 rfl)) (ae (oI rfl rfl) (ah (aa (aK hs rfl (fun c149 hs => ?_) (fun c149 hs => ?_)))))))))))))))))))
 refine ai (ag (fw h 15 [(.bool (false))] rfl wI rfl rfl rfl rfl rfl fun w h => ah (aa (ai (ag (ae (aj (v := (bg [])) rfl) (ah (aa (aI (aC (bV (v := (bg [])) Tryz.results103 rfl (⟨_, rfl, ?_⟩))))))))))))
 refine ae (FI rfl rfl) (ah (az ?_))
 exact bS (true, y98, false) ⟨h.cn _, hs⟩
 refine aG (aa (ai (ag (ae (aF h 14 rfl bz rfl rfl) ?_))))
 obtain ⟨a150, hs⟩ := bI hs
 refine ae (dC rfl rfl a150) (fw h 14 [(.int .i64 ((y98 + 1)))] rfl bz rfl rfl rfl rfl rfl fun w h => ah (aa (ai (ag (ae (aF h 2 rfl lZ rfl rfl) (ae (aF h 14 rfl bz rfl rfl) ?_))))))
 obtain ⟨a151, hs⟩ := bI hs
 refine ae (nW rfl rfl a151) ?_
 obtain ⟨x152, e153, hs⟩ := aP hs
 obtain ⟨b155, o156, cs157, h, r158, i154⟩ := h.Dl 1 117 rfl eB rfl (aJ e153).1 (aJ e153).2
 obtain rfl := r158
 refine ae (i154 _ _ _ _ _ _ _ _ _ rfl rfl) (ae (ek (k := 0) h 117 rfl xK rfl rfl) (ae (aj (v := (bg x152)) rfl) (ah (aa (aI (bV (v := (bg x152)) Tryz.results103 rfl (⟨_, rfl, ?_⟩)))))))
 refine ae (FI rfl rfl) (ah (az ?_))
 exact bS (decide ((x152 : Str) ≠ [102, 117, 110]), (y98 + 1), y99) ⟨h.cn _, hs⟩
 rw [tQ (by have := of_decide_eq_false JF; omega)] at hs
 refine df (aO (aO (bF (aa (ai (bY (σ := Bool) (inl [104, 105, 106, 107, 108, 109, 110, 111, 112, 113, 114, 115, 116, 117, 118, 119, 120, 121, 122]) (fun x159 => [(122, (.bool (x159)))]) (fun x159 w => SH w0 M BE w (hset [(3, .blk b7 [v14]), (7, .own iH 113 v14 qA)]) ∧ iW qA x159 = some r) ?_ ?_))))))
 rintro x159 w dD ⟨h, hs⟩
 refine aK hs rfl (fun c160 hs => ?_) (fun c160 hs => ?_)
 refine ai (ag (ae (aj (v := (.slice none 0 0)) rfl) (ae (aj (v := (.int .i64 (1))) rfl) (ah (aa (aI (aC (Dm (v1 := (.slice none 0 0)) (v2 := (.int .i64 (1))) Tryz.results77 rfl rfl ?_))))))))
 obtain rfl := Option.some.inj hs
 exact ⟨h.grown, _, rfl, dU.nil, lM⟩
 refine aG (aa (ai (ag (ae (aF h 3 rfl xJ rfl rfl) (ae (aj (v := v14) rfl) (ae (aj (v := (.int .i64 (0))) rfl) (ah (aa (aI (Dm (v1 := v14) (v2 := (.int .i64 (0))) Tryz.results77 rfl rfl ?_))))))))))
 obtain rfl := Option.some.inj hs
 exact ⟨h.grown, _, rfl, (h.mg 7 rfl).1, (h.mg 7 rfl).2⟩
 refine ag (ae (aF h 15 rfl wI rfl rfl) (ae (gP rfl) (ae (au (v := (.bool ((!y99)))) rfl) (aD rfl rfl (fun q => aF h 14 rfl bz rfl rfl) (aD rfl rfl (fun q => aF h 2 rfl lZ rfl rfl) (aD rfl rfl (fun q => bU eB (dx q) (h.lY 1 rfl)) (aD rfl rfl (fun q => dS (dx q) (dx q)) (ae (gK rfl rfl lQ) (ae (au (v := (.bool (((!y99) || decide ((y98 : Int) < (y1.length : Int)))))) rfl) (jH (b := ((!y99) || decide ((y98 : Int) < (y1.length : Int)))) hs (fun JJ hs => ?_) (fun JJ hs => ?_)))))))))))
 refine bE (b' := true) rfl (congrArg Value.bool JJ) rfl (bE (b' := true) rfl (congrArg Value.bool JJ) rfl (bE (b' := true) rfl (congrArg Value.bool JJ) rfl (ae (dL (b := true) (v := (.bool (true))) (congrArg Value.bool JJ) rfl) (ae (au (v := (.bool (true))) rfl) (bE (b' := true) rfl rfl rfl (bE (b' := true) rfl rfl rfl (bE (b' := true) rfl rfl rfl (bE (b' := true) rfl rfl rfl (ae (dL (b := true) (v := (.bool (true))) rfl rfl) (ah (az ?_)))))))))))
 exact bS true ⟨h.cn _, hs⟩
 refine dn rfl (congrArg Value.bool JJ) (ae (aF h 3 rfl xJ rfl rfl) (dn rfl (congrArg Value.bool JJ) ?_))
 obtain ⟨Rz, e163, hs⟩ := aP hs
 refine bA TQ rfl rfl (wJ N _ _ h.lt v14 qA (h.ed 7 rfl) _ e163) ?_
 rintro _ w ⟨k164, rfl⟩
 refine ⟨_, rfl, ?_⟩
 replace h := h.grow k164
 refine dn rfl (congrArg Value.bool JJ) (ae (iA rfl rfl) (ae (dL (b := false) (v := (.bool (decide ((Rz : Int) ≠ 0)))) (congrArg Value.bool JJ) rfl) (ae (au (v := (.bool (decide ((Rz : Int) ≠ 0)))) rfl) (jH (b := decide ((Rz : Int) ≠ 0)) hs (fun F6 hs => ?_) (fun F6 hs => ?_)))))
 refine bE (b' := true) rfl (congrArg Value.bool F6) rfl (bE (b' := true) rfl (congrArg Value.bool F6) rfl (bE (b' := true) rfl (congrArg Value.bool F6) rfl (bE (b' := true) rfl (congrArg Value.bool F6) rfl (ae (dL (b := true) (v := (.bool (true))) (congrArg Value.bool F6) rfl) (ah (az ?_))))))
 exact bS true ⟨h.cn _, hs⟩
 refine dn rfl (congrArg Value.bool F6) (ae (aF h 3 rfl xJ rfl rfl) (dn rfl (congrArg Value.bool F6) ?_))
 obtain ⟨Ug, e167, hs⟩ := aP hs
 refine bA TR rfl rfl (xg N _ _ h.lt (hT.go h.keep) v14 qA (h.ed 7 rfl) _ e167) ?_
 rintro _ w ⟨k168, rfl⟩
 refine ⟨_, rfl, ?_⟩
 replace h := h.grow k168
 refine dn rfl (congrArg Value.bool F6) (ae (au (v := (bg a)) rfl) (dn rfl (congrArg Value.bool F6) (ae (FI rfl rfl) (ae (dL (b := false) (v := (.bool (decide ((Ug : Str) ≠ a)))) (congrArg Value.bool F6) rfl) (ah (az ?_))))))
 exact bS (decide ((Ug : Str) ≠ a)) ⟨h.cn _, hs⟩
def jS (N : Nat) : Option (List eX) :=
  (jW N [102, 117, 110, 32, 48, 32, 49, 32, 123, 32, 115, 101, 116, 32, 48, 32, 51, 32, 119, 104, 105, 108, 101, 32, 118, 48, 32, 123, 32, 115, 97, 121, 32, 102, 49, 32, 118, 48, 32, 118, 48, 32, 103, 111, 32, 118, 48, 32, 112, 97, 117, 115, 101, 32, 115, 101, 116, 32, 48, 32, 45, 32, 118, 48, 32, 49, 32, 125, 32, 125, 32, 102, 117, 110, 32, 50, 32, 50, 32, 123, 32, 114, 101, 116, 117, 114, 110, 32, 42, 32, 118, 48, 32, 118, 49, 32, 125]).bind fun y1 => some y1.1
theorem zA (N : Nat) (w0 : World) (M : BS) (hM : ∀ b, M b → b < w0.heap.size) (hT : uh Tryz.prog 4 w0)  (r : List eX) (hs : jS N = some r) :
    Calls Tryz.prog 40 #[] w0 (fun e w' => Grow w0 w' ∧ ∃ u0, e = .returned (u0) ∧ dU iH 113 w' M u0 r ∧ (∀ b, ob u0 b → w0.heap.size ≤ b)) := by
 refine aQ (args := []) Tryz.func40 rfl Tryz.ntmps40 (Nat.le_of_ble_eq_true rfl) ?_
 have h := SH.init hM
 refine ai (ag (ae (aj (v := (.slice none 0 0)) rfl) (ah (aa (ai (ag ?_))))))
 obtain ⟨y1, e2, hs⟩ := aP hs
 refine bA V5 rfl rfl (xm N _ _ h.lt (hT.go h.keep) [102, 117, 110, 32, 48, 32, 49, 32, 123, 32, 115, 101, 116, 32, 48, 32, 51, 32, 119, 104, 105, 108, 101, 32, 118, 48, 32, 123, 32, 115, 97, 121, 32, 102, 49, 32, 118, 48, 32, 118, 48, 32, 103, 111, 32, 118, 48, 32, 112, 97, 117, 115, 101, 32, 115, 101, 116, 32, 48, 32, 45, 32, 118, 48, 32, 49, 32, 125, 32, 125, 32, 102, 117, 110, 32, 50, 32, 50, 32, 123, 32, 114, 101, 116, 117, 114, 110, 32, 42, 32, 118, 48, 32, 118, 49, 32, 125] _ e2) ?_
 rintro _ w ⟨k6, u3, rfl, g4, g5⟩
 refine ⟨_, rfl, ?_⟩
 replace h := h.jM 1 k6 g4 g5
 refine ae (au (v := (.tuple #[u3, (.int .i64 (y1.2))])) rfl) (ae (bB rfl rfl) (ae (bB rfl rfl) (ae (aj (v := u3) rfl) (ae (aj (v := (.int .i64 (y1.2))) rfl) (ah (aa (ai (ag (ae (au (v := u3) rfl) (ae (aj (v := u3) rfl) (ah (aa (aI (bV (v := u3) Tryz.results40 rfl ?_))))))))))))))
 obtain rfl := Option.some.inj hs
 exact ⟨h.grown, _, rfl, (h.mg 1 rfl).1, (h.mg 1 rfl).2⟩
def fE (x31 : List Ins) (c : Int) (x34 : Int) (yB : Int) (KP : Int) (tX : Int) (AQ : List Int) : Option (List Ins × Int) :=
  gQ (Room 56 x31 [(⟨yB, c, KP, tX, AQ⟩ : Ins)]) (some ((x31 ++ [(⟨yB, c, KP, tX, AQ⟩ : Ins)]), x34))
def oD (F0 : List Tok → List eX → Int → Option (List Ins × Int)) (y9 : Int) (a : List Tok) (c : Int) (b : List eX) (x1 : Tok) (s : List Ins × List Int × Int × Int) (RF : List Ins × List Int × Int × Int → Option (List Ins × Int)) : Option (List Ins × Int) :=
  match s with | (x31, xN, x34, xy) => bif decide ((xy : Int) < y9) then (sub? a x34 (a.length : Int)).bind fun XN => gQ (jB (c + xy)) ((F0 XN b (c + xy)).bind fun xM => gQ (Room 56 x31 xM.1) (gQ (jB (x34 + xM.2)) (gQ (jB (c + xy)) (gQ (Room 8 xN [(c + xy)]) (gQ (jB (xy + 1)) (RF ((x31 ++ xM.1), (xN ++ [(c + xy)]), (x34 + xM.2), (xy + 1)))))))) else bif decide ((x1.kind : Int) = 1) then fE x31 c x34 1 x1.n 0 [] else bif decide ((x1.kind : Int) = 2) then fE x31 c x34 2 x1.n 0 [] else bif decide ((x1.kind : Int) = 5) then fE x31 c x34 5 x1.n 0 [] else bif decide ((x1.kind : Int) = 3) then gQ (jB (c + 1)) (fE x31 c x34 3 c (c + 1) [x1.n]) else bif decide ((x1.kind : Int) = 4) then fE x31 c x34 4 c x1.n [] else bif decide ((x1.kind : Int) = 6) then fE x31 c x34 7 x1.n 0 xN else fE x31 c x34 0 x1.n 0 []
def uD (N : Nat) (F0 : List Tok → List eX → Int → Option (List Ins × Int)) (a : List Tok) (b : List eX) (c : Int) : Option (List Ins × Int) :=
  (idx a 0).bind fun x1 => (qb x1 b).bind fun y9 => again (oD F0 y9 a c b x1) N ([], [], 1, 0)
def jv : Nat → List Tok → List eX → Int → Option (List Ins × Int)
  | 0 => fun _ _ _ => none
  | N + 1 => uD N (jv N)
theorem uE : ∀ (N : Nat) (w0 : World) (M : BS) (hM : ∀ b, M b → b < w0.heap.size) (va : Value) (a : List Tok) (ha : gp jU w0 BE M va a) (vb : Value) (b : List eX) (hb : gp iH w0 BE M vb b) (c : Int) (r : List Ins × Int) (hs : jv N a b c = some r),
    Calls Tryz.prog 100 #[va, vb, (.int .i64 (c))] w0 (fun e w' => Grow w0 w' ∧ ∃ u0, e = .returned (.tuple #[u0, .int .i64 r.2]) ∧ dU jk 93 w' M u0 r.1 ∧ (∀ b, ob u0 b → w0.heap.size ≤ b)) := by
 intro N
 induction N with
 | zero => intro w0 M hM va a ha vb b hb c r hs; cases hs
 | succ N ih =>
 intro w0 M hM va a ha vb b hb c r hs
 replace hs : uD N (jv N) a b c = some r := hs
 generalize jv N = F0 at hs ih
 refine aQ (args := [va, vb, (.int .i64 (c))]) Tryz.func100 rfl Tryz.ntmps100 (Nat.le_of_ble_eq_true rfl) ?_
 have h := SH.init hM
 replace h := h.fC 1 ha bJ
 replace h := h.fC 2 hb (di bJ)
 have uu := ha.bZ
 have JA := hb.bZ
 refine ai (ag (ae (aj (v := (.slice none 0 0)) rfl) (ae (aj (v := (.int .i64 (0))) rfl) (ah (aa (ai (ag (ae (au (v := va) rfl) ?_))))))))
 obtain ⟨x1, e2, hs⟩ := aP hs
 obtain ⟨b4, o5, cs6, h, r7, i3⟩ := h.yE 1 3 rfl jQ rfl (aJ e2).1 (aJ e2).2
 obtain rfl := r7
 refine ae (i3 _ _ _ _ _ _ _ _ _ rfl rfl) (ae (ji (k := 0) (vs := [(.int .i64 (x1.kind)), (.int .i64 (x1.n))]) h 3 rfl jI rfl rfl rfl (Nat.le_of_ble_eq_true rfl)) (bW h 4 jI fun w b8 h => dA (vs := [(.int .i64 (x1.kind)), (.int .i64 (x1.n))]) h 4 [(.int .i64 (x1.kind)), (.int .i64 (x1.n))] rfl jI rfl rfl rfl rfl rfl (ax rfl (ax rfl bu)) fun w h => ah (aa (ai (ag (ae (aj (v := (.slice none 0 0)) rfl) (ah (aa (ai (ag (ae (aj (v := (.slice none 0 0)) rfl) (ah (aa (ai (ag (ae (aj (v := (.int .i64 (1))) rfl) (ah (aa (ai (ai (ag ?_)))))))))))))))))))))
 refine ae (dz (vs := [(.int .i64 (x1.kind)), (.int .i64 (x1.n))]) h 4 rfl jI rfl rfl rfl) (ae (au (v := vb) rfl) ?_)
 obtain ⟨y9, e10, hs⟩ := aP hs
 refine bA Jr rfl rfl (qP _ _ h.lt x1 vb b (h.iw 2 rfl) _ e10) ?_
 rintro _ w ⟨k11, rfl⟩
 refine ⟨_, rfl, ?_⟩
 replace h := h.grow k11
 refine ae (au (v := (.int .i64 (0))) rfl) (ah (aa (aT ?_)))
 replace h := h.yF (R := jk) (E := 93) 11
 replace h := h.yF (R := fH) (E := 3) 12
 refine gL (σ := Nat × Value × List Ins × Value × List Int × Int × Int) (inl [9, 10, 11, 12, 13, 14, 22, 23, 24, 25, 26, 27, 28, 29, 30, 31, 32, 33, 34, 35, 36, 37, 38, 39, 40, 41, 42, 43, 44, 45, 46, 47, 48]) (fun ⟨WO, v30, x31, v32, xN, x34, xy⟩ => [(9, v30), (10, v32), (11, (.int .i64 (x34))), (22, (.int .i64 (xy)))]) (fun ⟨WO, v30, x31, v32, xN, x34, xy⟩ w => SH w0 M BE w (hset [(1, .sr jU va a), (2, .sr iH vb b), (4, .blk b8 [(.int .i64 (x1.kind)), (.int .i64 (x1.n))]), (11, .own jk 93 v30 x31), (12, .own fH 3 v32 xN)]) ∧ again (oD F0 y9 a c b x1) WO (x31, xN, x34, xy) = some r) (fun ⟨WO, v30, x31, v32, xN, x34, xy⟩ => WO) ⟨N, (.slice none 0 0), [], (.slice none 0 0), [], 1, 0⟩ ⟨rfl, rfl, rfl, rfl, trivial⟩ ?_ ?_
 exact ⟨h.cn _, hs⟩
 rintro ⟨WO, v30, x31, v32, xN, x34, xy⟩ w dD ⟨h, hs⟩
 obtain ⟨Y6, m39e, m39h⟩ := qW hs
 subst m39e
 replace hs := m39h
 generalize RG : again (oD F0 y9 a c b x1) Y6 = RF at hs
 refine ai (ag (ae (dS rfl rfl) (ah (aa (ai (aK hs rfl (fun c43 hs => ?_) (fun c43 hs => ?_)))))))
 refine aG (aa (ai (aT (ai (ag (ae (au (v := (.int .i64 (xy))) rfl) (ae (aj (v := (.int .i64 (xy))) rfl) (ah (aa (ai (ag (ae (au (v := va) rfl) (ae (au (v := (.int .i64 (x34))) rfl) ?_)))))))))))))
 obtain ⟨XN, e45, hs⟩ := aP hs
 obtain ⟨e48, e48a, e48b, e48c⟩ := Qe e45
 obtain ⟨u46, h, i47⟩ := h.slS 1 13 rfl jQ rfl e48a e48b e48c
 rw [← e48] at h
 refine ae (i47 _ _ _ _ _ _ _ _ _ _ rfl (.inr (congrArg some rfl)) (.inl ⟨rfl, rfl⟩)) (ae (au (v := vb) rfl) (ae (au (v := (.int .i64 (c))) rfl) (ae (au (v := (.int .i64 (xy))) rfl) ?_)))
 obtain ⟨a49, hs⟩ := bI hs
 refine ae (dC rfl rfl a49) ?_
 obtain ⟨xM, e51, hs⟩ := aP hs
 refine bA Jp rfl rfl (ih _ _ h.lt u46 XN (h.iw 13 rfl) vb b (h.iw 2 rfl) (c + xy) _ e51) ?_
 rintro _ w ⟨k55, U6, rfl, g53, g54⟩
 refine ⟨_, rfl, ?_⟩
 replace h := h.jM 14 k55 g53 g54
 refine ae (au (v := (.tuple #[U6, (.int .i64 (xM.2))])) rfl) (ae (bB rfl rfl) (ae (bB rfl rfl) (ae (aj (v := U6) rfl) (ae (aj (v := (.int .i64 (xM.2))) rfl) (ah (aa (ag (ae (au (v := v30) rfl) (ae (au (v := U6) rfl) ?_)))))))))
 obtain ⟨a56, hs⟩ := bI hs
 refine mf (R := jk) (m := xM.1) h 11 rfl (h.ed 14 rfl) eT rfl rfl rfl a56.1 a56.2 fun w u57 h => ae (au (v := (.int .i64 (x34))) rfl) (ae (au (v := (.int .i64 (xM.2))) rfl) ?_)
 obtain ⟨a58, hs⟩ := bI hs
 refine ae (dC rfl rfl a58) (ae (au (v := v32) rfl) (ae (au (v := (.int .i64 (c))) rfl) (ae (au (v := (.int .i64 (xy))) rfl) ?_)))
 obtain ⟨a59, hs⟩ := bI hs
 refine ae (dC rfl rfl a59) (sZ (R := fH) (vs := [(.int .i64 ((c + xy)))]) (xs := [(c + xy)]) h 15 kg rfl rfl rfl ⟨rfl, trivial⟩ rfl fun w u60 h => ?_)
 obtain ⟨a61, hs⟩ := bI hs
 refine mf (R := fH) (m := [(c + xy)]) h 12 rfl (h.ed 15 rfl) kg rfl rfl rfl a61.1 a61.2 fun w XE h => ae (aj (v := u57) rfl) (ae (aj (v := (.int .i64 ((x34 + xM.2)))) rfl) (ae (aj (v := XE) rfl) (ah (aA (aa (ag ?_))))))
 obtain ⟨a63, hs⟩ := bI hs
 refine ae (dC rfl rfl a63) (ae (au (v := (.int .i64 ((xy + 1)))) rfl) (ah (az ?_)))
 subst RG
 exact jN ⟨Y6, u57, (x31 ++ xM.1), XE, (xN ++ [(c + xy)]), (x34 + xM.2), (xy + 1)⟩ ⟨h.cn _, hs⟩
 refine df (aO (aO (bF (aa (ai (ag (ae (au (v := (.int .i64 (c))) rfl) (ae (ak mq rfl) (ae (aF h 4 rfl bz rfl rfl) (ae (dO (pv := [(1, (.int .i64 (c))), (2, (.int .i64 (x1.n)))]) (out := [(.int .i64 (0)), (.int .i64 (c)), (.int .i64 (x1.n)), (.int .i64 (0)), (.slice none 0 0)]) lT rfl ⟨1, 1, [(.int .i64 (c))], rfl, rfl, rfl, Nat.le_of_ble_eq_true rfl, ⟨2, 1, [(.int .i64 (x1.n))], rfl, rfl, rfl, Nat.le_of_ble_eq_true rfl, rfl⟩⟩) (bW h 16 oW fun w b64 h => dA (vs := [(.int .i64 (0)), (.int .i64 (c)), (.int .i64 (x1.n)), (.int .i64 (0)), (.slice none 0 0)]) h 16 [(.int .i64 (0)), (.int .i64 (c)), (.int .i64 (x1.n)), (.int .i64 (0)), (.slice none 0 0)] rfl oW rfl rfl rfl rfl rfl (ax rfl (ax rfl (ax rfl (ax rfl (ax rfl bu))))) fun w h => ah (aa (bY (σ := Int × Int × Int × Value × List Int) (inl [53, 54, 55, 56, 57, 58, 59, 60, 61, 62, 63, 64, 65, 66, 67, 68, 69, 70, 71, 72, 73, 74, 75, 76, 77, 78, 79, 80, 81, 82, 83, 84, 85]) (fun ⟨yB, KP, tX, v68, AQ⟩ => []) (fun ⟨yB, KP, tX, v68, AQ⟩ w => SH w0 M BE w (hset [(11, .own jk 93 v30 x31), (16, .blk b64 [(.int .i64 (yB)), (.int .i64 (c)), (.int .i64 (KP)), (.int .i64 (tX)), v68]), (17, .own fH 3 v68 AQ)]) ∧ fE x31 c x34 yB KP tX AQ = some r) ?_ ?_)))))))))))))
 rintro ⟨yB, KP, tX, v68, AQ⟩ w dD ⟨h, hs⟩
 refine ai (ag (ae (au (v := v30) rfl) (ae (dz (vs := [(.int .i64 (yB)), (.int .i64 (c)), (.int .i64 (KP)), (.int .i64 (tX)), v68]) h 16 rfl oW rfl rfl rfl) ?_)))
 replace h := h.freeze 17 rfl
 refine sZ (R := jk) (vs := [(.agg #[(.int .i64 (yB)), (.int .i64 (c)), (.int .i64 (KP)), (.int .i64 (tX)), v68])]) (xs := [(⟨yB, c, KP, tX, AQ⟩ : Ins)]) h 18 eT rfl rfl rfl ⟨⟨_, rfl, (h.gF 17 rfl)⟩, trivial⟩ rfl fun w u70 h => ?_
 obtain ⟨a71, hs⟩ := bI hs
 refine mf (R := jk) (m := [(⟨yB, c, KP, tX, AQ⟩ : Ins)]) h 11 rfl (h.ed 18 rfl) eT rfl rfl rfl a71.1 a71.2 fun w u72 h => ae (au (v := (.int .i64 (x34))) rfl) (ae (aj (v := u72) rfl) (ae (aj (v := (.int .i64 (x34))) rfl) (ah (aa (aI (Dm (v1 := u72) (v2 := (.int .i64 (x34))) Tryz.results100 rfl rfl ?_))))))
 obtain rfl := Option.some.inj hs
 exact ⟨h.grown, _, rfl, (h.mg 11 rfl).1, (h.mg 11 rfl).2⟩
 refine ai (ag (ae (ak Cz rfl) (ae (aF h 4 rfl bz rfl rfl) (ah (aa (aT (ai (ag (ae (bH rfl rfl) (ae (aj (v := (.bool (decide ((x1.kind : Int) = 1)))) rfl) (ah (aa (aK hs rfl (fun c73 hs => ?_) (fun c73 hs => ?_))))))))))))))
 refine ag (ae (ak oN rfl) (fw h 16 [(.int .i64 (1)), (.int .i64 (c)), (.int .i64 (x1.n)), (.int .i64 (0)), (.slice none 0 0)] rfl bz rfl rfl rfl rfl rfl fun w h => ah (aA (az ?_))))
 replace h := h.yF (R := fH) (E := 3) 17
 exact bS (1, x1.n, 0, (.slice none 0 0), []) ⟨h.cn _, hs⟩
 refine ai (ag (ae (bH rfl rfl) (ae (aj (v := (.bool (decide ((x1.kind : Int) = 2)))) rfl) (ah (aa (aK hs rfl (fun YU hs => ?_) (fun YU hs => ?_)))))))
 refine ag (ae (ak oN rfl) (fw h 16 [(.int .i64 (2)), (.int .i64 (c)), (.int .i64 (x1.n)), (.int .i64 (0)), (.slice none 0 0)] rfl bz rfl rfl rfl rfl rfl fun w h => ah (aA (az ?_))))
 replace h := h.yF (R := fH) (E := 3) 17
 exact bS (2, x1.n, 0, (.slice none 0 0), []) ⟨h.cn _, hs⟩
 refine ai (ag (ae (bH rfl rfl) (ae (aj (v := (.bool (decide ((x1.kind : Int) = 5)))) rfl) (ah (aa (aK hs rfl (fun c75 hs => ?_) (fun c75 hs => ?_)))))))
 refine ag (ae (ak oN rfl) (fw h 16 [(.int .i64 (5)), (.int .i64 (c)), (.int .i64 (x1.n)), (.int .i64 (0)), (.slice none 0 0)] rfl bz rfl rfl rfl rfl rfl fun w h => ah (aA (az ?_))))
 replace h := h.yF (R := fH) (E := 3) 17
 exact bS (5, x1.n, 0, (.slice none 0 0), []) ⟨h.cn _, hs⟩
 refine ai (ag (ae (bH rfl rfl) (ae (aj (v := (.bool (decide ((x1.kind : Int) = 3)))) rfl) (ah (aa (aK hs rfl (fun c76 hs => ?_) (fun c76 hs => ?_)))))))
 refine ag (ae (au (v := (.int .i64 (c))) rfl) (ae (au (v := (.int .i64 (c))) rfl) (ae (au (v := (.int .i64 (c))) rfl) ?_)))
 obtain ⟨a77, hs⟩ := bI hs
 refine ae (dC rfl rfl a77) (ae (ak mq rfl) (ae (aF h 4 rfl bz rfl rfl) (sZ (R := fH) (vs := [(.int .i64 (x1.n))]) (xs := [x1.n]) h 19 kg rfl rfl rfl ⟨rfl, trivial⟩ rfl fun w J7 h => ae (dO (pv := [(0, (.int .i64 (3))), (1, (.int .i64 (c))), (2, (.int .i64 (c))), (3, (.int .i64 ((c + 1)))), (4, J7)]) (out := [(.int .i64 (3)), (.int .i64 (c)), (.int .i64 (c)), (.int .i64 ((c + 1))), J7]) lT rfl ⟨0, 1, [(.int .i64 (3))], rfl, rfl, rfl, Nat.le_of_ble_eq_true rfl, ⟨1, 1, [(.int .i64 (c))], rfl, rfl, rfl, Nat.le_of_ble_eq_true rfl, ⟨2, 1, [(.int .i64 (c))], rfl, rfl, rfl, Nat.le_of_ble_eq_true rfl, ⟨3, 1, [(.int .i64 ((c + 1)))], rfl, rfl, rfl, Nat.le_of_ble_eq_true rfl, ⟨4, 1, [J7], rfl, (iT (h.dG 19 rfl).one), rfl, Nat.le_of_ble_eq_true rfl, rfl⟩⟩⟩⟩⟩) (dA (vs := [(.int .i64 (3)), (.int .i64 (c)), (.int .i64 (c)), (.int .i64 ((c + 1))), J7]) h 16 [(.int .i64 (3)), (.int .i64 (c)), (.int .i64 (c)), (.int .i64 ((c + 1))), J7] rfl oW rfl rfl rfl rfl rfl (ax rfl (ax rfl (ax rfl (ax rfl (ax (h.dG 19 rfl).one bu))))) fun w h => ah (aA (az ?_))))))
 replace h := h.Ct 19 17 rfl rfl (by decide)
 exact bS (3, c, (c + 1), J7, [x1.n]) ⟨h.cn _, hs⟩
 refine ai (ag (ae (bH rfl rfl) (ae (aj (v := (.bool (decide ((x1.kind : Int) = 4)))) rfl) (ah (aa (aK hs rfl (fun c79 hs => ?_) (fun c79 hs => ?_)))))))
 refine ag (ae (au (v := (.int .i64 (c))) rfl) (ae (au (v := (.int .i64 (c))) rfl) (ae (ak mq rfl) (ae (aF h 4 rfl bz rfl rfl) (ae (dO (pv := [(0, (.int .i64 (4))), (1, (.int .i64 (c))), (2, (.int .i64 (c))), (3, (.int .i64 (x1.n)))]) (out := [(.int .i64 (4)), (.int .i64 (c)), (.int .i64 (c)), (.int .i64 (x1.n)), (.slice none 0 0)]) lT rfl ⟨0, 1, [(.int .i64 (4))], rfl, rfl, rfl, Nat.le_of_ble_eq_true rfl, ⟨1, 1, [(.int .i64 (c))], rfl, rfl, rfl, Nat.le_of_ble_eq_true rfl, ⟨2, 1, [(.int .i64 (c))], rfl, rfl, rfl, Nat.le_of_ble_eq_true rfl, ⟨3, 1, [(.int .i64 (x1.n))], rfl, rfl, rfl, Nat.le_of_ble_eq_true rfl, rfl⟩⟩⟩⟩) (dA (vs := [(.int .i64 (4)), (.int .i64 (c)), (.int .i64 (c)), (.int .i64 (x1.n)), (.slice none 0 0)]) h 16 [(.int .i64 (4)), (.int .i64 (c)), (.int .i64 (c)), (.int .i64 (x1.n)), (.slice none 0 0)] rfl oW rfl rfl rfl rfl rfl (ax rfl (ax rfl (ax rfl (ax rfl (ax rfl bu))))) fun w h => ah (aA (az ?_))))))))
 replace h := h.yF (R := fH) (E := 3) 17
 exact bS (4, c, x1.n, (.slice none 0 0), []) ⟨h.cn _, hs⟩
 refine ai (ag (ae (bH rfl rfl) (ae (aj (v := (.bool (decide ((x1.kind : Int) = 6)))) rfl) (ah (aa (aK hs rfl (fun c80 hs => ?_) (fun c80 hs => ?_)))))))
 refine ag (ae (au (v := v32) rfl) (ae (ak oN rfl) (fw h 16 [(.int .i64 (7)), (.int .i64 (c)), (.int .i64 (x1.n)), (.int .i64 (0)), (.slice none 0 0)] rfl bz rfl rfl rfl rfl rfl fun w h => ae (ak vD rfl) (fw h 16 [(.int .i64 (7)), (.int .i64 (c)), (.int .i64 (x1.n)), (.int .i64 (0)), v32] rfl uo rfl rfl rfl rfl (h.dG 12 rfl).one fun w h => ah (aA (az ?_))))))
 replace h := h.Ct 12 17 rfl rfl (by decide)
 exact bS (7, x1.n, 0, v32, xN) ⟨h.cn _, hs⟩
 refine aG (aA (az ?_))
 replace h := h.yF (R := fH) (E := 3) 17
 exact bS (0, x1.n, 0, (.slice none 0 0), []) ⟨h.cn _, hs⟩
def dW (x8 : List Ins) (nk : List Ins → Option (List Ins)) (x34 : List Ins) : Option (List Ins) :=
  gQ (Room 56 x8 x34) (nk (x8 ++ x34))
def nL (x32 : List Ins) (c : Int) (d : Int) (x8 : List Ins) (zI : List Ins) (NP : List Ins) (nk : List Ins → Option (List Ins)) (x90 : Int) : Option (List Ins) :=
  gQ (Room 56 x32 [(⟨13, c, (((((d + (x8.length : Int)) + (x32.length : Int)) + 1) + (zI.length : Int)) + 1), 0, []⟩ : Ins)]) (gQ (Room 56 (x32 ++ [(⟨13, c, (((((d + (x8.length : Int)) + (x32.length : Int)) + 1) + (zI.length : Int)) + 1), 0, []⟩ : Ins)]) zI) (gQ (Room 56 ((x32 ++ [(⟨13, c, (((((d + (x8.length : Int)) + (x32.length : Int)) + 1) + (zI.length : Int)) + 1), 0, []⟩ : Ins)]) ++ zI) [(⟨12, 0, x90, 0, []⟩ : Ins)]) (gQ (Room 56 (((x32 ++ [(⟨13, c, (((((d + (x8.length : Int)) + (x32.length : Int)) + 1) + (zI.length : Int)) + 1), 0, []⟩ : Ins)]) ++ zI) ++ [(⟨12, 0, x90, 0, []⟩ : Ins)]) NP) (dW x8 nk ((((x32 ++ [(⟨13, c, (((((d + (x8.length : Int)) + (x32.length : Int)) + 1) + (zI.length : Int)) + 1), 0, []⟩ : Ins)]) ++ zI) ++ [(⟨12, 0, x90, 0, []⟩ : Ins)]) ++ NP)))))
def nM (F0 : List bG → List eX → Int → Int → Option (List Ins)) (d : Int) (x8 : List Ins) (x32 : List Ins) (dV : bG) (a : List bG) (b : List eX) (c : Int) (nk : List Ins → Option (List Ins)) (x69 : Bool) : Option (List Ins) :=
  bif x69 then gQ (jB ((d + (x8.length : Int)) + (x32.length : Int))) (gQ (jB (((d + (x8.length : Int)) + (x32.length : Int)) + 1)) ((F0 dV.a b c (((d + (x8.length : Int)) + (x32.length : Int)) + 1)).bind fun zI => gQ (jB ((d + (x8.length : Int)) + (x32.length : Int))) (gQ (jB (((d + (x8.length : Int)) + (x32.length : Int)) + 1)) (gQ (jB ((((d + (x8.length : Int)) + (x32.length : Int)) + 1) + (zI.length : Int))) (gQ (jB (((((d + (x8.length : Int)) + (x32.length : Int)) + 1) + (zI.length : Int)) + 1)) ((F0 dV.b b c (((((d + (x8.length : Int)) + (x32.length : Int)) + 1) + (zI.length : Int)) + 1)).bind fun NP => gQ (jB ((((((d + (x8.length : Int)) + (x32.length : Int)) + 1) + (zI.length : Int)) + 1) + (NP.length : Int))) (bif decide ((dV.kind : Int) = 7) then nL x32 c d x8 zI NP nk (d + (x8.length : Int)) else nL x32 c d x8 zI NP nk ((((((d + (x8.length : Int)) + (x32.length : Int)) + 1) + (zI.length : Int)) + 1) + (NP.length : Int))))))))) else dW x8 nk x32
def nN (N : Nat) (F0 : List bG → List eX → Int → Int → Option (List Ins)) (dV : bG) (c : Int) (x8 : List Ins) (nk : List Ins → Option (List Ins)) (b : List eX) (d : Int) (a : List bG) (x32 : List Ins) : Option (List Ins) :=
  bif decide ((dV.kind : Int) = 1) then gQ (Room 56 x32 [(⟨2, dV.n, c, 0, []⟩ : Ins)]) (dW x8 nk (x32 ++ [(⟨2, dV.n, c, 0, []⟩ : Ins)])) else bif decide ((dV.kind : Int) = 2) then gQ (jB (c + 1)) ((jv N dV.f b (c + 1)).bind fun yT => gQ (jB (c + 1)) (gQ (Room 56 x32 yT.1) (gQ (Room 56 (x32 ++ yT.1) [(⟨6, c, (c + 1), dV.n, []⟩ : Ins)]) (dW x8 nk ((x32 ++ yT.1) ++ [(⟨6, c, (c + 1), dV.n, []⟩ : Ins)]))))) else bif decide ((dV.kind : Int) = 3) then gQ (Room 56 x32 [(⟨9, c, 0, 0, []⟩ : Ins)]) (dW x8 nk (x32 ++ [(⟨9, c, 0, 0, []⟩ : Ins)])) else bif decide ((dV.kind : Int) = 4) then gQ (Room 56 x32 [(⟨10, 0, 0, 0, []⟩ : Ins)]) (dW x8 nk (x32 ++ [(⟨10, 0, 0, 0, []⟩ : Ins)])) else bif decide ((dV.kind : Int) = 5) then gQ (Room 56 x32 [(⟨11, c, 0, 0, []⟩ : Ins)]) (dW x8 nk (x32 ++ [(⟨11, c, 0, 0, []⟩ : Ins)])) else bif decide ((dV.kind : Int) = 8) then gQ (Room 56 x32 [(⟨8, c, 0, 0, []⟩ : Ins)]) (dW x8 nk (x32 ++ [(⟨8, c, 0, 0, []⟩ : Ins)])) else bif decide ((dV.kind : Int) = 6) then nM F0 d x8 x32 dV a b c nk (decide ((dV.kind : Int) = 6)) else nM F0 d x8 x32 dV a b c nk (decide ((dV.kind : Int) = 7))
def nO (N : Nat) (F0 : List bG → List eX → Int → Int → Option (List Ins)) (d : Int) (b : List eX) (c : Int) (a : List bG) (dV : bG) (x8 : List Ins) (nk : List Ins → Option (List Ins)) : Option (List Ins) :=
  gQ (jB (d + (x8.length : Int))) (bif decide ((0 : Int) < (dV.e.length : Int)) then (jv N dV.e b c).bind fun y104 => nN N F0 dV c x8 nk b d a y104.1 else nN N F0 dV c x8 nk b d a [])
def nP (x8 : List Ins) : Option (List Ins) :=
  some x8
def uF (N : Nat) (F0 : List bG → List eX → Int → Int → Option (List Ins)) (a : List bG) (b : List eX) (c : Int) (d : Int) : Option (List Ins) :=
  each (nO N F0 d b c a) nP a []
def kU : Nat → List bG → List eX → Int → Int → Option (List Ins)
  | 0 => fun _ _ _ _ => none
  | N + 1 => uF N (kU N)
theorem uG : ∀ (N : Nat) (w0 : World) (M : BS) (hM : ∀ b, M b → b < w0.heap.size) (va : Value) (a : List bG) (ha : gp eu w0 BE M va a) (vb : Value) (b : List eX) (hb : gp iH w0 BE M vb b) (c : Int) (d : Int) (r : List Ins) (hs : kU N a b c d = some r),
    Calls Tryz.prog 76 #[va, vb, (.int .i64 (c)), (.int .i64 (d))] w0 (fun e w' => Grow w0 w' ∧ ∃ u0, e = .returned (u0) ∧ dU jk 93 w' M u0 r ∧ (∀ b, ob u0 b → w0.heap.size ≤ b)) := by
 intro N
 induction N with
 | zero => intro w0 M hM va a ha vb b hb c d r hs; cases hs
 | succ N ih =>
 intro w0 M hM va a ha vb b hb c d r hs
 replace hs : uF N (kU N) a b c d = some r := hs
 generalize kU N = F0 at hs ih
 refine aQ (args := [va, vb, (.int .i64 (c)), (.int .i64 (d))]) Tryz.func76 rfl Tryz.ntmps76 (Nat.le_of_ble_eq_true rfl) ?_
 have h := SH.init hM
 replace h := h.fC 1 ha bJ
 replace h := h.fC 2 hb (di bJ)
 have uu := ha.bZ
 have JA := hb.bZ
 refine ai (ag (ae (aj (v := (.slice none 0 0)) rfl) (ah (aa (ai (ag (ae (aj (v := (.slice none 0 0)) rfl) (ah (aa (ai (ai (ag (ae (au (v := va) rfl) (ae (bU kr rfl (h.iw 1 rfl)) (ae (au (v := (.int .i64 (0))) rfl) (ah (aa (aT ?_))))))))))))))))))
 replace h := h.yF (R := jk) (E := 93) 6
 refine gL (σ := Nat × Int × Value × List Ins) (inl [9, 11, 12, 13, 14, 15, 16, 17, 18, 19, 22, 23, 24, 25, 26, 27, 28, 29, 30, 31, 32, 33, 34, 35, 36, 37, 38, 39, 40, 41, 42, 43, 44, 45, 46, 47, 48, 49, 50, 51, 52, 53, 54, 55, 56, 57, 58, 59, 60, 61, 62, 63, 64, 65, 66, 67, 68, 69, 70, 71, 72, 73, 74, 75, 76, 77, 78, 79, 80, 81, 82, 83, 84, 85, 86, 87, 88, 89, 90, 91, 92, 93, 94, 95, 96, 97, 98, 99, 100, 101, 102, 103, 104, 105, 106, 107, 108, 109, 110, 111, 112, 113, 114, 115, 116, 117, 118, 119, 120, 121, 122, 123, 124, 125, 126, 127, 128, 129, 130, 131, 132, 133, 134, 135, 136, 137, 138, 139, 140, 141, 142, 143, 144, 145, 146, 147, 148, 149, 150, 151, 152, 153, 154, 155]) (fun ⟨k9, i10, v7, x8⟩ => [(9, v7), (22, (.int .i64 (i10)))]) (fun ⟨k9, i10, v7, x8⟩ w => SH w0 M BE w (hset [(1, .sr eu va a), (2, .sr iH vb b), (6, .own jk 93 v7 x8)]) ∧ i10 = (k9 : Int) ∧ each (nO N F0 d b c a) nP (a.drop k9) x8 = some r) (fun ⟨k9, i10, v7, x8⟩ => a.length - k9) ⟨0, 0, (.slice none 0 0), []⟩ ⟨rfl, rfl, trivial⟩ ?_ ?_
 exact ⟨h.cn _, rfl, hs⟩
 rintro ⟨k9, i10, v7, x8⟩ w dD ⟨h, hik, hs⟩
 refine ai (ag ?_)
 refine ae (dS rfl rfl) (ah (aa ?_))
 refine ai (iy rfl (fun e14 => ?_) (fun e14 => ?_))
 refine aG (aa ?_)
 obtain ⟨dV, Me, Mf⟩ := gy (hik ▸ e14)
 rw [Mf, dP] at hs
 generalize FZ : each (nO N F0 d b c a) nP (a.drop (k9 + 1)) = nk at hs
 have Mg := gD ((h.iw 1 rfl)).bZ hik e14
 refine ai (aT (ai (ag ?_)))
 obtain ⟨b17, o18, Uc, h, Rm, i16⟩ := h.yE 1 7 rfl kr rfl (iQ hik) (gB hik Me)
 obtain ⟨u21, u23, u25, u27, rfl, g22, g24, WQ, Y7⟩ := yK Rm
 replace h := h.cO 8 g22.up
 replace h := h.cO 9 g24.up.up
 replace h := h.cO 10 WQ.up.up.up
 replace h := h.cO 11 Y7.up.up.up.up
 refine ae (i16 _ _ _ _ _ _ _ _ _ rfl rfl) (ae (ji (k := 0) (vs := [(.int .i64 (dV.kind)), (.int .i64 (dV.n)), u21, u23, u25, u27]) h 7 rfl nA rfl rfl rfl (Nat.le_of_ble_eq_true rfl)) (bW h 12 nA fun w b29 h => dA (vs := [(.int .i64 (dV.kind)), (.int .i64 (dV.n)), u21, u23, u25, u27]) h 12 [(.int .i64 (dV.kind)), (.int .i64 (dV.n)), u21, u23, u25, u27] rfl nA rfl rfl rfl rfl rfl (ax rfl (ax rfl (ax (h.gF 8 rfl).one (ax (h.gF 9 rfl).one (ax (h.gF 10 rfl).one (ax (h.gF 11 rfl).one bu)))))) fun w h => ah (aa (ai (ag (ae (au (v := (.int .i64 (d))) rfl) (ae (au (v := v7) rfl) (ae (bU jf rfl (h.ed 6 rfl)) ?_))))))))
 obtain ⟨a30, hs⟩ := bI hs
 refine ae (dC rfl rfl a30) (ae (aj (v := (.int .i64 ((d + (x8.length : Int))))) rfl) (ah (aa (ai (ag (ae (aj (v := (.slice none 0 0)) rfl) (ah (aa (bY (σ := Value × List Ins) (inl [13, 30, 31, 32, 33, 34, 35, 36, 37, 38, 39, 40, 41]) (fun ⟨v31, x32⟩ => [(13, v31)]) (fun ⟨v31, x32⟩ w => SH w0 M BE w (hset [(1, .sr eu va a), (2, .sr iH vb b), (6, .own jk 93 v7 x8), (8, .rd jU u21 dV.e), (9, .rd jU u23 dV.f), (10, .rd eu u25 dV.a), (11, .rd eu u27 dV.b), (12, .blk b29 [(.int .i64 (dV.kind)), (.int .i64 (dV.n)), u21, u23, u25, u27]), (13, .own jk 93 v31 x32)]) ∧ nN N F0 dV c x8 nk b d a x32 = some r) ?_ ?_)))))))))
 rintro ⟨v31, x32⟩ w dD ⟨h, hs⟩
 refine bY (σ := Value × List Ins) (inl [13, 14, 15, 16, 17, 18, 19, 42, 43, 44, 45, 46, 47, 48, 49, 50, 51, 52, 53, 54, 55, 56, 57, 58, 59, 60, 61, 62, 63, 64, 65, 66, 67, 68, 69, 70, 71, 72, 73, 74, 75, 76, 77, 78, 79, 80, 81, 82, 83, 84, 85, 86, 87, 88, 89, 90, 91, 92, 93, 94, 95, 96, 97, 98, 99, 100, 101, 102, 103, 104, 105, 106, 107, 108, 109, 110, 111, 112, 113, 114, 115, 116, 117, 118, 119, 120, 121, 122, 123, 124, 125, 126, 127, 128, 129, 130, 131, 132, 133, 134, 135, 136, 137, 138, 139, 140, 141, 142, 143, 144, 145, 146, 147, 148, 149, 150, 151]) (fun ⟨v33, x34⟩ => [(13, v33)]) (fun ⟨v33, x34⟩ w => SH w0 M BE w (hset [(1, .sr eu va a), (2, .sr iH vb b), (6, .own jk 93 v7 x8), (13, .own jk 93 v33 x34)]) ∧ dW x8 nk x34 = some r) ?_ ?_
 rintro ⟨v33, x34⟩ w dD ⟨h, hs⟩
 refine ag (ae (au (v := v7) rfl) (ae (au (v := v33) rfl) ?_))
 obtain ⟨a35, hs⟩ := bI hs
 refine mf (R := jk) (m := x34) h 6 rfl (h.ed 13 rfl) eT rfl rfl rfl a35.1 a35.2 fun w u36 h => ae (aj (v := u36) rfl) (ah (aA (aa (ag (ae (dC rfl rfl Mg) (ae (au (v := (.int .i64 ((i10 + 1)))) rfl) (ah (az ?_))))))))
 subst FZ
 exact jN ⟨k9 + 1, i10 + 1, u36, (x8 ++ x34)⟩ ⟨h.cn _, by omega, hs⟩ (by have := of_decide_eq_true e14; dsimp only; omega)
 refine ai (ag (ae (ak jC rfl) (ae (aF h 12 rfl bz rfl rfl) (ah (aa (aT (ai (ag (ae (bH rfl rfl) (ae (aj (v := (.bool (decide ((dV.kind : Int) = 1)))) rfl) (ah (aa (aK hs rfl (fun c37 hs => ?_) (fun c37 hs => ?_))))))))))))))
 refine ag (ae (au (v := v31) rfl) (ae (ak um rfl) (ae (aF h 12 rfl bz rfl rfl) (ae (au (v := (.int .i64 (c))) rfl) (ae (dO (pv := [(0, (.int .i64 (2))), (1, (.int .i64 (dV.n))), (2, (.int .i64 (c)))]) (out := [(.int .i64 (2)), (.int .i64 (dV.n)), (.int .i64 (c)), (.int .i64 (0)), (.slice none 0 0)]) lT rfl ⟨0, 1, [(.int .i64 (2))], rfl, rfl, rfl, Nat.le_of_ble_eq_true rfl, ⟨1, 1, [(.int .i64 (dV.n))], rfl, rfl, rfl, Nat.le_of_ble_eq_true rfl, ⟨2, 1, [(.int .i64 (c))], rfl, rfl, rfl, Nat.le_of_ble_eq_true rfl, rfl⟩⟩⟩) (sZ (R := jk) (vs := [(.agg #[(.int .i64 (2)), (.int .i64 (dV.n)), (.int .i64 (c)), (.int .i64 (0)), (.slice none 0 0)])]) (xs := [(⟨2, dV.n, c, 0, []⟩ : Ins)]) h 14 eT rfl rfl rfl ⟨⟨_, rfl, gp.nil⟩, trivial⟩ rfl fun w u38 h => ?_))))))
 obtain ⟨a39, hs⟩ := bI hs
 refine mf (R := jk) (m := [(⟨2, dV.n, c, 0, []⟩ : Ins)]) h 13 rfl (h.ed 14 rfl) eT rfl rfl rfl a39.1 a39.2 fun w u40 h => ae (aj (v := u40) rfl) (ah (aA (az ?_)))
 exact bS (u40, (x32 ++ [(⟨2, dV.n, c, 0, []⟩ : Ins)])) ⟨h.cn _, hs⟩
 refine ai (ag (ae (bH rfl rfl) (ae (aj (v := (.bool (decide ((dV.kind : Int) = 2)))) rfl) (ah (aa (aK hs rfl (fun Wl hs => ?_) (fun Wl hs => ?_)))))))
 refine ai (ag (ae (ak zS rfl) (ae (aF h 12 rfl vU rfl rfl) (ae (au (v := vb) rfl) (ae (au (v := (.int .i64 (c))) rfl) ?_)))))
 obtain ⟨a42, hs⟩ := bI hs
 refine ae (dC rfl rfl a42) ?_
 obtain ⟨yT, e44, hs⟩ := aP hs
 refine bA Jp rfl rfl (uE N _ _ h.lt u23 dV.f (h.lY 9 rfl) vb b (h.iw 2 rfl) (c + 1) _ e44) ?_
 rintro _ w ⟨k48, u45, rfl, g46, g47⟩
 refine ⟨_, rfl, ?_⟩
 replace h := h.jM 15 k48 g46 g47
 refine ae (au (v := (.tuple #[u45, (.int .i64 (yT.2))])) rfl) (ae (bB rfl rfl) (ae (bB rfl rfl) (ae (aj (v := u45) rfl) (ae (aj (v := (.int .i64 (yT.2))) rfl) (ah (aa (lS (L := (ob v31)) mixed h fun w h => aZ 0 (aS.refl _ _) rfl ay (by kernel_rfl) (by kernel_rfl) (by kernel_rfl) (fun w hk => au (v := v31) rfl) (aZ 1 (aS.refl _ _) rfl ay (by kernel_rfl) (by kernel_rfl) (by kernel_rfl) (fun w hk => au (v := u45) rfl) (aZ 3 (aS.refl _ _) rfl ay (by kernel_rfl) (by kernel_rfl) (by kernel_rfl) (fun w hk => au (v := (.int .i64 (c))) rfl) (aZ 4 (aS.refl _ _) rfl ay (by kernel_rfl) (by kernel_rfl) (by kernel_rfl) (fun w hk => au (v := (.int .i64 (c))) rfl) ?_))))))))))
 obtain ⟨RH, hs⟩ := bI hs
 refine aZ 5 (aS.refl _ _) rfl ay (by kernel_rfl) (by kernel_rfl) (by kernel_rfl) (fun w hk => dC rfl rfl RH) (aZ 6 (aS.refl _ _) rfl ay (by kernel_rfl) (by kernel_rfl) (by kernel_rfl) (fun w hk => ak um rfl) (aZ 7 (aS.refl _ _) rfl ay (by kernel_rfl) (by kernel_rfl) (by kernel_rfl) (fun w hk => have h := h.qB 13 rfl hk; aF h 12 rfl bz rfl rfl) (aZ 8 (aS.refl _ _) rfl ay (by kernel_rfl) (by kernel_rfl) (by kernel_rfl) (fun w hk => dO (pv := [(0, (.int .i64 (6))), (1, (.int .i64 (c))), (2, (.int .i64 ((c + 1)))), (3, (.int .i64 (dV.n)))]) (out := [(.int .i64 (6)), (.int .i64 (c)), (.int .i64 ((c + 1))), (.int .i64 (dV.n)), (.slice none 0 0)]) lT rfl ⟨0, 1, [(.int .i64 (6))], rfl, rfl, rfl, Nat.le_of_ble_eq_true rfl, ⟨1, 1, [(.int .i64 (c))], rfl, rfl, rfl, Nat.le_of_ble_eq_true rfl, ⟨2, 1, [(.int .i64 ((c + 1)))], rfl, rfl, rfl, Nat.le_of_ble_eq_true rfl, ⟨3, 1, [(.int .i64 (dV.n))], rfl, rfl, rfl, Nat.le_of_ble_eq_true rfl, rfl⟩⟩⟩⟩) ?_)))
 obtain ⟨CP, hs⟩ := bI hs
 obtain ⟨AU, hs⟩ := bI hs
 obtain ⟨MG, U7⟩ : ∃ x, x = w := ⟨_, rfl⟩
 have rF : aS (ob v31) MG w := U7 ▸ aS.refl (ob v31) w
 refine rP U7.symm (nY 2 9 (by kernel_rfl) rfl ay rfl ay ?_ ?_)
 have O4 := rF.size
 refine oL (R := jk) (m := yT.1) h 13 rfl (h.ed 15 rfl) eT rfl rfl rfl CP.1 CP.2 fun w F7 h DI DJ => ?_
 have xU : ∀ b, ob F7 b → b < MG.heap.size → ob v31 b := fun b hb hl => DJ b hb (Nat.lt_of_lt_of_le hl (rF).size)
 replace rF := rF.same DI
 refine ah (aX rF (bP 9 (by kernel_rfl) rfl ay (zn (R := jk) (vs := [(.agg #[(.int .i64 (6)), (.int .i64 (c)), (.int .i64 ((c + 1))), (.int .i64 (dV.n)), (.slice none 0 0)])]) (xs := [(⟨6, c, (c + 1), dV.n, []⟩ : Ins)]) h 124 eT rfl rfl rfl ⟨⟨_, rfl, gp.nil⟩, trivial⟩ rfl fun w F8 h DK DL => ?_)))
 have O5 : ∀ b, ob F8 b → MG.heap.size ≤ b := fun b hb => Nat.le_trans rF.size (DL b hb)
 replace rF := rF.grow DK
 refine ah (aX rF (bP 10 (by kernel_rfl) rfl ay ?_))
 have MH := rF.size
 refine oL (R := jk) (m := [(⟨6, c, (c + 1), dV.n, []⟩ : Ins)]) h 13 rfl (h.ed 124 rfl) eT rfl rfl rfl AU.1 AU.2 fun w tu h BF BG => ?_
 have MI : ∀ b, ob tu b → b < MG.heap.size → ob v31 b := fun b hb hl => xU b (BG b hb (Nat.lt_of_lt_of_le hl (rF).size)) hl
 replace rF := aS.step rF BF (fun x hx hl => xU x hx hl)
 refine ah (aX rF (aZ 11 rF rfl ay (by kernel_rfl) (by kernel_rfl) (by kernel_rfl) (fun w hk => aj (v := tu) rfl) (fZ (by kernel_rfl) (aA (az ?_)))))
 exact bS (tu, ((x32 ++ yT.1) ++ [(⟨6, c, (c + 1), dV.n, []⟩ : Ins)])) ⟨h.cn _, hs⟩
 refine zn (R := jk) (vs := [(.agg #[(.int .i64 (6)), (.int .i64 (c)), (.int .i64 ((c + 1))), (.int .i64 (dV.n)), (.slice none 0 0)])]) (xs := [(⟨6, c, (c + 1), dV.n, []⟩ : Ins)]) h 124 eT rfl rfl rfl ⟨⟨_, rfl, gp.nil⟩, trivial⟩ rfl fun w F8 h DK DL => ?_
 have O5 : ∀ b, ob F8 b → MG.heap.size ≤ b := fun b hb => Nat.le_trans rF.size (DL b hb)
 replace rF := rF.grow DK
 refine ah (aX rF (bP 2 (by kernel_rfl) rfl ay ?_))
 have O4 := rF.size
 refine oL (R := jk) (m := yT.1) h 13 rfl (h.ed 15 rfl) eT rfl rfl rfl CP.1 CP.2 fun w F7 h DI DJ => ?_
 have xU : ∀ b, ob F7 b → b < MG.heap.size → ob v31 b := fun b hb hl => DJ b hb (Nat.lt_of_lt_of_le hl (rF).size)
 replace rF := rF.same DI
 refine ah (aX rF (bP 10 (by kernel_rfl) rfl ay ?_))
 have MH := rF.size
 refine oL (R := jk) (m := [(⟨6, c, (c + 1), dV.n, []⟩ : Ins)]) h 13 rfl (h.ed 124 rfl) eT rfl rfl rfl AU.1 AU.2 fun w tu h BF BG => ?_
 have MI : ∀ b, ob tu b → b < MG.heap.size → ob v31 b := fun b hb hl => xU b (BG b hb (Nat.lt_of_lt_of_le hl (rF).size)) hl
 replace rF := aS.step rF BF (fun x hx hl => xU x hx hl)
 refine ah (aX rF (aZ 11 rF rfl ay (by kernel_rfl) (by kernel_rfl) (by kernel_rfl) (fun w hk => aj (v := tu) rfl) (fZ (by kernel_rfl) (aA (az ?_)))))
 exact bS (tu, ((x32 ++ yT.1) ++ [(⟨6, c, (c + 1), dV.n, []⟩ : Ins)])) ⟨h.cn _, hs⟩
 refine ai (ag (ae (bH rfl rfl) (ae (aj (v := (.bool (decide ((dV.kind : Int) = 3)))) rfl) (ah (aa (aK hs rfl (fun c53 hs => ?_) (fun c53 hs => ?_)))))))
 refine ag (ae (au (v := v31) rfl) (ae (au (v := (.int .i64 (c))) rfl) (ae (dO (pv := [(0, (.int .i64 (9))), (1, (.int .i64 (c)))]) (out := [(.int .i64 (9)), (.int .i64 (c)), (.int .i64 (0)), (.int .i64 (0)), (.slice none 0 0)]) lT rfl ⟨0, 1, [(.int .i64 (9))], rfl, rfl, rfl, Nat.le_of_ble_eq_true rfl, ⟨1, 1, [(.int .i64 (c))], rfl, rfl, rfl, Nat.le_of_ble_eq_true rfl, rfl⟩⟩) (sZ (R := jk) (vs := [(.agg #[(.int .i64 (9)), (.int .i64 (c)), (.int .i64 (0)), (.int .i64 (0)), (.slice none 0 0)])]) (xs := [(⟨9, c, 0, 0, []⟩ : Ins)]) h 172 eT rfl rfl rfl ⟨⟨_, rfl, gp.nil⟩, trivial⟩ rfl fun w RA h => ?_))))
 obtain ⟨a55, hs⟩ := bI hs
 refine mf (R := jk) (m := [(⟨9, c, 0, 0, []⟩ : Ins)]) h 13 rfl (h.ed 172 rfl) eT rfl rfl rfl a55.1 a55.2 fun w u56 h => ae (aj (v := u56) rfl) (ah (aA (az ?_)))
 exact bS (u56, (x32 ++ [(⟨9, c, 0, 0, []⟩ : Ins)])) ⟨h.cn _, hs⟩
 refine ai (ag (ae (bH rfl rfl) (ae (aj (v := (.bool (decide ((dV.kind : Int) = 4)))) rfl) (ah (aa (aK hs rfl (fun c57 hs => ?_) (fun c57 hs => ?_)))))))
 refine ag (ae (au (v := v31) rfl) (ae (dO (pv := [(0, (.int .i64 (10)))]) (out := [(.int .i64 (10)), (.int .i64 (0)), (.int .i64 (0)), (.int .i64 (0)), (.slice none 0 0)]) lT rfl ⟨0, 1, [(.int .i64 (10))], rfl, rfl, rfl, Nat.le_of_ble_eq_true rfl, rfl⟩) (sZ (R := jk) (vs := [(.agg #[(.int .i64 (10)), (.int .i64 (0)), (.int .i64 (0)), (.int .i64 (0)), (.slice none 0 0)])]) (xs := [(⟨10, 0, 0, 0, []⟩ : Ins)]) h 173 eT rfl rfl rfl ⟨⟨_, rfl, gp.nil⟩, trivial⟩ rfl fun w u58 h => ?_)))
 obtain ⟨a59, hs⟩ := bI hs
 refine mf (R := jk) (m := [(⟨10, 0, 0, 0, []⟩ : Ins)]) h 13 rfl (h.ed 173 rfl) eT rfl rfl rfl a59.1 a59.2 fun w u60 h => ae (aj (v := u60) rfl) (ah (aA (az ?_)))
 exact bS (u60, (x32 ++ [(⟨10, 0, 0, 0, []⟩ : Ins)])) ⟨h.cn _, hs⟩
 refine ai (ag (ae (bH rfl rfl) (ae (aj (v := (.bool (decide ((dV.kind : Int) = 5)))) rfl) (ah (aa (aK hs rfl (fun c61 hs => ?_) (fun c61 hs => ?_)))))))
 refine ag (ae (au (v := v31) rfl) (ae (au (v := (.int .i64 (c))) rfl) (ae (dO (pv := [(0, (.int .i64 (11))), (1, (.int .i64 (c)))]) (out := [(.int .i64 (11)), (.int .i64 (c)), (.int .i64 (0)), (.int .i64 (0)), (.slice none 0 0)]) lT rfl ⟨0, 1, [(.int .i64 (11))], rfl, rfl, rfl, Nat.le_of_ble_eq_true rfl, ⟨1, 1, [(.int .i64 (c))], rfl, rfl, rfl, Nat.le_of_ble_eq_true rfl, rfl⟩⟩) (sZ (R := jk) (vs := [(.agg #[(.int .i64 (11)), (.int .i64 (c)), (.int .i64 (0)), (.int .i64 (0)), (.slice none 0 0)])]) (xs := [(⟨11, c, 0, 0, []⟩ : Ins)]) h 174 eT rfl rfl rfl ⟨⟨_, rfl, gp.nil⟩, trivial⟩ rfl fun w XE h => ?_))))
 obtain ⟨a63, hs⟩ := bI hs
 refine mf (R := jk) (m := [(⟨11, c, 0, 0, []⟩ : Ins)]) h 13 rfl (h.ed 174 rfl) eT rfl rfl rfl a63.1 a63.2 fun w u64 h => ae (aj (v := u64) rfl) (ah (aA (az ?_)))
 exact bS (u64, (x32 ++ [(⟨11, c, 0, 0, []⟩ : Ins)])) ⟨h.cn _, hs⟩
 refine ai (ag (ae (bH rfl rfl) (ae (aj (v := (.bool (decide ((dV.kind : Int) = 8)))) rfl) (ah (aa (aK hs rfl (fun Bi hs => ?_) (fun Bi hs => ?_)))))))
 refine ag (ae (au (v := v31) rfl) (ae (au (v := (.int .i64 (c))) rfl) (ae (dO (pv := [(0, (.int .i64 (8))), (1, (.int .i64 (c)))]) (out := [(.int .i64 (8)), (.int .i64 (c)), (.int .i64 (0)), (.int .i64 (0)), (.slice none 0 0)]) lT rfl ⟨0, 1, [(.int .i64 (8))], rfl, rfl, rfl, Nat.le_of_ble_eq_true rfl, ⟨1, 1, [(.int .i64 (c))], rfl, rfl, rfl, Nat.le_of_ble_eq_true rfl, rfl⟩⟩) (sZ (R := jk) (vs := [(.agg #[(.int .i64 (8)), (.int .i64 (c)), (.int .i64 (0)), (.int .i64 (0)), (.slice none 0 0)])]) (xs := [(⟨8, c, 0, 0, []⟩ : Ins)]) h 175 eT rfl rfl rfl ⟨⟨_, rfl, gp.nil⟩, trivial⟩ rfl fun w u66 h => ?_))))
 obtain ⟨a67, hs⟩ := bI hs
 refine mf (R := jk) (m := [(⟨8, c, 0, 0, []⟩ : Ins)]) h 13 rfl (h.ed 175 rfl) eT rfl rfl rfl a67.1 a67.2 fun w u68 h => ae (aj (v := u68) rfl) (ah (aA (az ?_)))
 exact bS (u68, (x32 ++ [(⟨8, c, 0, 0, []⟩ : Ins)])) ⟨h.cn _, hs⟩
 refine bY (σ := Bool) (inl [102, 103, 104]) (fun x69 => [(102, (.bool (x69)))]) (fun x69 w => SH w0 M BE w (hset [(1, .sr eu va a), (2, .sr iH vb b), (6, .own jk 93 v7 x8), (8, .rd jU u21 dV.e), (9, .rd jU u23 dV.f), (10, .rd eu u25 dV.a), (11, .rd eu u27 dV.b), (12, .blk b29 [(.int .i64 (dV.kind)), (.int .i64 (dV.n)), u21, u23, u25, u27]), (13, .own jk 93 v31 x32)]) ∧ nM F0 d x8 x32 dV a b c nk x69 = some r) ?_ ?_
 rintro x69 w dD ⟨h, hs⟩
 refine aK hs rfl (fun c70 hs => ?_) (fun c70 hs => ?_)
 refine ai (ag (ae (ak xH rfl) (ae (aF h 12 rfl ow rfl rfl) (ae (au (v := vb) rfl) (ae (au (v := (.int .i64 (c))) rfl) (ae (au (v := (.int .i64 ((d + (x8.length : Int))))) rfl) (ae (au (v := v31) rfl) (ae (bU jf rfl (h.ed 13 rfl)) ?_))))))))
 obtain ⟨a71, hs⟩ := bI hs
 refine ae (dC rfl rfl a71) ?_
 obtain ⟨a72, hs⟩ := bI hs
 refine ae (dC rfl rfl a72) ?_
 obtain ⟨zI, e74, hs⟩ := aP hs
 refine bA Jy rfl rfl (ih _ _ h.lt u25 dV.a (h.lY 10 rfl) vb b (h.iw 2 rfl) c (((d + (x8.length : Int)) + (x32.length : Int)) + 1) _ e74) ?_
 rintro _ w ⟨k78, u75, rfl, g76, g77⟩
 refine ⟨_, rfl, ?_⟩
 replace h := h.jM 176 k78 g76 g77
 refine ae (aj (v := u75) rfl) (ah (aa (ai (ag (ae (au (v := (.int .i64 ((d + (x8.length : Int))))) rfl) (ae (au (v := v31) rfl) (ae (bU jf rfl (h.ed 13 rfl)) ?_)))))))
 obtain ⟨a79, hs⟩ := bI hs
 refine ae (dC rfl rfl a79) ?_
 obtain ⟨a80, hs⟩ := bI hs
 refine ae (dC rfl rfl a80) (ae (au (v := u75) rfl) (ae (bU jf rfl (h.ed 176 rfl)) ?_))
 obtain ⟨a81, hs⟩ := bI hs
 refine ae (dC rfl rfl a81) ?_
 obtain ⟨a82, hs⟩ := bI hs
 refine ae (dC rfl rfl a82) (ae (aj (v := (.int .i64 ((((((d + (x8.length : Int)) + (x32.length : Int)) + 1) + (zI.length : Int)) + 1)))) rfl) (ah (aa (ai (ag (ae (ak xI rfl) (ae (aF h 12 rfl ow rfl rfl) (ae (au (v := vb) rfl) (ae (au (v := (.int .i64 (c))) rfl) (ae (au (v := (.int .i64 ((((((d + (x8.length : Int)) + (x32.length : Int)) + 1) + (zI.length : Int)) + 1)))) rfl) ?_))))))))))
 obtain ⟨NP, e84, hs⟩ := aP hs
 refine bA Jy rfl rfl (ih _ _ h.lt u27 dV.b (h.lY 11 rfl) vb b (h.iw 2 rfl) c (((((d + (x8.length : Int)) + (x32.length : Int)) + 1) + (zI.length : Int)) + 1) _ e84) ?_
 rintro _ w ⟨k88, u85, rfl, g86, g87⟩
 refine ⟨_, rfl, ?_⟩
 replace h := h.jM 177 k88 g86 g87
 refine ae (aj (v := u85) rfl) (ah (aa (ai (ag (ae (au (v := (.int .i64 ((((((d + (x8.length : Int)) + (x32.length : Int)) + 1) + (zI.length : Int)) + 1)))) rfl) (ae (au (v := u85) rfl) (ae (bU jf rfl (h.ed 177 rfl)) ?_)))))))
 obtain ⟨a89, hs⟩ := bI hs
 refine ae (dC rfl rfl a89) (ae (aj (v := (.int .i64 (((((((d + (x8.length : Int)) + (x32.length : Int)) + 1) + (zI.length : Int)) + 1) + (NP.length : Int))))) rfl) (ah (aa (bY (σ := Int) (inl [19, 134, 135, 136, 137]) (fun x90 => [(19, (.int .i64 (x90)))]) (fun x90 w => SH w0 M BE w (hset [(1, .sr eu va a), (2, .sr iH vb b), (6, .own jk 93 v7 x8), (13, .own jk 93 v31 x32), (176, .own jk 93 u75 zI), (177, .own jk 93 u85 NP)]) ∧ nL x32 c d x8 zI NP nk x90 = some r) ?_ ?_))))
 rintro x90 w dD ⟨h, hs⟩
 refine ag (ae (au (v := v31) rfl) (ae (au (v := (.int .i64 (c))) rfl) (ae (au (v := (.int .i64 ((((((d + (x8.length : Int)) + (x32.length : Int)) + 1) + (zI.length : Int)) + 1)))) rfl) (ae (dO (pv := [(0, (.int .i64 (13))), (1, (.int .i64 (c))), (2, (.int .i64 ((((((d + (x8.length : Int)) + (x32.length : Int)) + 1) + (zI.length : Int)) + 1))))]) (out := [(.int .i64 (13)), (.int .i64 (c)), (.int .i64 ((((((d + (x8.length : Int)) + (x32.length : Int)) + 1) + (zI.length : Int)) + 1))), (.int .i64 (0)), (.slice none 0 0)]) lT rfl ⟨0, 1, [(.int .i64 (13))], rfl, rfl, rfl, Nat.le_of_ble_eq_true rfl, ⟨1, 1, [(.int .i64 (c))], rfl, rfl, rfl, Nat.le_of_ble_eq_true rfl, ⟨2, 1, [(.int .i64 ((((((d + (x8.length : Int)) + (x32.length : Int)) + 1) + (zI.length : Int)) + 1)))], rfl, rfl, rfl, Nat.le_of_ble_eq_true rfl, rfl⟩⟩⟩) (sZ (R := jk) (vs := [(.agg #[(.int .i64 (13)), (.int .i64 (c)), (.int .i64 ((((((d + (x8.length : Int)) + (x32.length : Int)) + 1) + (zI.length : Int)) + 1))), (.int .i64 (0)), (.slice none 0 0)])]) (xs := [(⟨13, c, (((((d + (x8.length : Int)) + (x32.length : Int)) + 1) + (zI.length : Int)) + 1), 0, []⟩ : Ins)]) h 178 eT rfl rfl rfl ⟨⟨_, rfl, gp.nil⟩, trivial⟩ rfl fun w Wv h => ?_)))))
 obtain ⟨a92, hs⟩ := bI hs
 refine mf (R := jk) (m := [(⟨13, c, (((((d + (x8.length : Int)) + (x32.length : Int)) + 1) + (zI.length : Int)) + 1), 0, []⟩ : Ins)]) h 13 rfl (h.ed 178 rfl) eT rfl rfl rfl a92.1 a92.2 fun w u93 h => ae (au (v := u75) rfl) ?_
 obtain ⟨a94, hs⟩ := bI hs
 refine mf (R := jk) (m := zI) h 13 rfl (h.ed 176 rfl) eT rfl rfl rfl a94.1 a94.2 fun w u95 h => ae (au (v := (.int .i64 (x90))) rfl) (ae (dO (pv := [(0, (.int .i64 (12))), (2, (.int .i64 (x90)))]) (out := [(.int .i64 (12)), (.int .i64 (0)), (.int .i64 (x90)), (.int .i64 (0)), (.slice none 0 0)]) lT rfl ⟨0, 1, [(.int .i64 (12))], rfl, rfl, rfl, Nat.le_of_ble_eq_true rfl, ⟨2, 1, [(.int .i64 (x90))], rfl, rfl, rfl, Nat.le_of_ble_eq_true rfl, rfl⟩⟩) (sZ (R := jk) (vs := [(.agg #[(.int .i64 (12)), (.int .i64 (0)), (.int .i64 (x90)), (.int .i64 (0)), (.slice none 0 0)])]) (xs := [(⟨12, 0, x90, 0, []⟩ : Ins)]) h 179 eT rfl rfl rfl ⟨⟨_, rfl, gp.nil⟩, trivial⟩ rfl fun w u96 h => ?_))
 obtain ⟨a97, hs⟩ := bI hs
 refine mf (R := jk) (m := [(⟨12, 0, x90, 0, []⟩ : Ins)]) h 13 rfl (h.ed 179 rfl) eT rfl rfl rfl a97.1 a97.2 fun w u98 h => ae (au (v := u85) rfl) ?_
 obtain ⟨a99, hs⟩ := bI hs
 refine mf (R := jk) (m := NP) h 13 rfl (h.ed 177 rfl) eT rfl rfl rfl a99.1 a99.2 fun w Wm h => ae (aj (v := Wm) rfl) (ah (aA (az ?_)))
 exact bS (Wm, ((((x32 ++ [(⟨13, c, (((((d + (x8.length : Int)) + (x32.length : Int)) + 1) + (zI.length : Int)) + 1), 0, []⟩ : Ins)]) ++ zI) ++ [(⟨12, 0, x90, 0, []⟩ : Ins)]) ++ NP)) ⟨h.cn _, hs⟩
 refine ai (ag (ae (ak jC rfl) (ae (aF h 12 rfl bz rfl rfl) (ae (bH rfl rfl) (ah (aa (aK hs rfl (fun c101 hs => ?_) (fun c101 hs => ?_))))))))
 refine ag (ae (au (v := (.int .i64 ((d + (x8.length : Int))))) rfl) (ae (aj (v := (.int .i64 ((d + (x8.length : Int))))) rfl) (ah (az ?_))))
 exact bS (d + (x8.length : Int)) ⟨h.cn _, hs⟩
 refine aG (az ?_)
 exact bS ((((((d + (x8.length : Int)) + (x32.length : Int)) + 1) + (zI.length : Int)) + 1) + (NP.length : Int)) ⟨h.cn _, hs⟩
 refine aG (aA (az ?_))
 exact bS (v31, x32) ⟨h.cn _, hs⟩
 refine ai (ag (ae (bH rfl rfl) (ae (aj (v := (.bool (decide ((dV.kind : Int) = 6)))) rfl) (ah (aa (aK hs rfl (fun Rx hs => ?_) (fun Rx hs => ?_)))))))
 refine aG (az ?_)
 exact bS (decide ((dV.kind : Int) = 6)) ⟨h.cn _, hs⟩
 refine ag (ae (bH rfl rfl) (ae (aj (v := (.bool (decide ((dV.kind : Int) = 7)))) rfl) (ah (az ?_))))
 exact bS (decide ((dV.kind : Int) = 7)) ⟨h.cn _, hs⟩
 refine ai (ag (ae (ak xG rfl) (ae (aF h 12 rfl vU rfl rfl) (ae (bU jQ rfl (h.lY 8 rfl)) (ae (jA rfl rfl) (ah (aa (aK hs rfl (fun WB hs => ?_) (fun WB hs => ?_)))))))))
 refine ag (ae (ak xG rfl) (ae (aF h 12 rfl vU rfl rfl) (ae (au (v := vb) rfl) (ae (au (v := (.int .i64 (c))) rfl) ?_))))
 obtain ⟨y104, JF, hs⟩ := aP hs
 refine bA Jp rfl rfl (uE N _ _ h.lt u21 dV.e (h.lY 8 rfl) vb b (h.iw 2 rfl) c _ JF) ?_
 rintro _ w ⟨k109, Ry, rfl, YV, g108⟩
 refine ⟨_, rfl, ?_⟩
 replace h := h.jM 180 k109 YV g108
 refine ae (au (v := (.tuple #[Ry, (.int .i64 (y104.2))])) rfl) (ae (bB rfl rfl) (ae (bB rfl rfl) (ae (aj (v := Ry) rfl) (ah (az ?_)))))
 replace h := h.Ct 180 13 rfl rfl (by decide)
 exact bS (Ry, y104.1) ⟨h.cn _, hs⟩
 refine aG (az ?_)
 replace h := h.yF (R := jk) (E := 93) 13
 exact bS ((.slice none 0 0), []) ⟨h.cn _, hs⟩
 rw [gz (hik ▸ e14), gU] at hs
 refine df (aO (aO (bF (aa (ai (ag (ae (au (v := v7) rfl) (ae (aj (v := v7) rfl) (ah (aa (aI (bV (v := v7) Tryz.results76 rfl ?_))))))))))))
 obtain rfl := Option.some.inj hs
 exact ⟨h.grown, _, rfl, (h.mg 6 rfl).1, (h.mg 6 rfl).2⟩
def sW (x8 : List cz) (dV : eX) (nk : List cz → Option (List cz)) (J8 : List Ins) : Option (List cz) :=
  gQ (Room 40 x8 [(⟨dV.params, 30, J8⟩ : cz)]) (nk (x8 ++ [(⟨dV.params, 30, J8⟩ : cz)]))
def oF (N : Nat) (a : List eX) (dV : eX) (x8 : List cz) (nk : List cz → Option (List cz)) : Option (List cz) :=
  (kU N dV.body a dV.locals 0).bind fun zU => gQ (Room 56 zU [(⟨1, dV.locals, 0, 0, []⟩ : Ins), (⟨8, dV.locals, 0, 0, []⟩ : Ins)]) (sW x8 dV nk (zU ++ [(⟨1, dV.locals, 0, 0, []⟩ : Ins), (⟨8, dV.locals, 0, 0, []⟩ : Ins)]))
def oG (x8 : List cz) : Option (List cz) :=
  some x8
def wU (N : Nat) (a : List eX) : Option (List cz) :=
  each (oF N a) oG a []
theorem Bj (N : Nat) (w0 : World) (M : BS) (hM : ∀ b, M b → b < w0.heap.size) (va : Value) (a : List eX) (ha : gp iH w0 BE M va a) (r : List cz) (hs : wU N a = some r) :
    Calls Tryz.prog 39 #[va] w0 (fun e w' => Grow w0 w' ∧ ∃ u0, e = .returned (u0) ∧ dU j4 57 w' M u0 r ∧ (∀ b, ob u0 b → w0.heap.size ≤ b)) := by
 refine aQ (args := [va]) Tryz.func39 rfl Tryz.ntmps39 (Nat.le_of_ble_eq_true rfl) ?_
 have h := SH.init hM
 replace h := h.fC 1 ha bJ
 have uu := ha.bZ
 refine ai (ag (ae (aj (v := (.slice none 0 0)) rfl) (ah (aa (ai (ag (ae (aj (v := (.slice none 0 0)) rfl) (ah (aa (ai (ai (ag (ae (au (v := va) rfl) (ae (bU il rfl (h.iw 1 rfl)) (ae (au (v := (.int .i64 (0))) rfl) (ah (aa (aT ?_))))))))))))))))))
 replace h := h.yF (R := j4) (E := 57) 5
 refine gL (σ := Nat × Int × Value × List cz) (inl [3, 5, 6, 9, 10, 11, 12, 13, 14, 15, 16, 17, 18, 19, 20, 21, 22, 23, 24, 25, 26, 27, 28, 29, 30, 31, 32, 33, 34, 35]) (fun ⟨k9, i10, v7, x8⟩ => [(3, v7), (9, (.int .i64 (i10)))]) (fun ⟨k9, i10, v7, x8⟩ w => SH w0 M BE w (hset [(1, .sr iH va a), (5, .own j4 57 v7 x8)]) ∧ i10 = (k9 : Int) ∧ each (oF N a) oG (a.drop k9) x8 = some r) (fun ⟨k9, i10, v7, x8⟩ => a.length - k9) ⟨0, 0, (.slice none 0 0), []⟩ ⟨rfl, rfl, trivial⟩ ?_ ?_
 exact ⟨h.cn _, rfl, hs⟩
 rintro ⟨k9, i10, v7, x8⟩ w dD ⟨h, hik, hs⟩
 refine ai (ag ?_)
 refine ae (dS rfl rfl) (ah (aa ?_))
 refine ai (iy rfl (fun e14 => ?_) (fun e14 => ?_))
 refine aG (aa ?_)
 obtain ⟨dV, Me, Mf⟩ := gy (hik ▸ e14)
 rw [Mf, dP] at hs
 generalize FZ : each (oF N a) oG (a.drop (k9 + 1)) = nk at hs
 have Mg := gD ((h.iw 1 rfl)).bZ hik e14
 refine ai (aT (ai (ag ?_)))
 obtain ⟨b17, o18, Uc, h, Rm, i16⟩ := h.yE 1 6 rfl il rfl (iQ hik) (gB hik Me)
 obtain ⟨u21, rfl, g22⟩ := qY Rm
 replace h := h.cO 7 g22.up
 refine ae (i16 _ _ _ _ _ _ _ _ _ rfl rfl) (ae (ji (k := 0) (vs := [(.int .i64 (dV.params)), (.int .i64 (dV.locals)), u21]) h 6 rfl ll rfl rfl rfl (Nat.le_of_ble_eq_true rfl)) (bW h 8 ll fun w Bt h => dA (vs := [(.int .i64 (dV.params)), (.int .i64 (dV.locals)), u21]) h 8 [(.int .i64 (dV.params)), (.int .i64 (dV.locals)), u21] rfl ll rfl rfl rfl rfl rfl (ax rfl (ax rfl (ax (h.gF 7 rfl).one bu))) fun w h => ah (aa (ai (ag (ae (ak uk rfl) (ae (aF h 8 rfl bz rfl rfl) (ae (dO (pv := [(0, (.int .i64 (dV.params))), (1, (.int .i64 (30)))]) (out := [(.int .i64 (dV.params)), (.int .i64 (30)), (.slice none 0 0)]) QY rfl ⟨0, 1, [(.int .i64 (dV.params))], rfl, rfl, rfl, Nat.le_of_ble_eq_true rfl, ⟨1, 1, [(.int .i64 (30))], rfl, rfl, rfl, Nat.le_of_ble_eq_true rfl, rfl⟩⟩) (bW h 9 uS fun w XO h => dA (vs := [(.int .i64 (dV.params)), (.int .i64 (30)), (.slice none 0 0)]) h 9 [(.int .i64 (dV.params)), (.int .i64 (30)), (.slice none 0 0)] rfl uS rfl rfl rfl rfl rfl (ax rfl (ax rfl (ax rfl bu))) fun w h => ah (aa (bY (σ := Value × List Ins) (inl [16, 17, 18, 19, 20, 21, 22, 23, 24, 25, 26, 27, 28, 29, 30]) (fun ⟨v25, J8⟩ => []) (fun ⟨v25, J8⟩ w => SH w0 M BE w (hset [(1, .sr iH va a), (5, .own j4 57 v7 x8), (9, .blk XO [(.int .i64 (dV.params)), (.int .i64 (30)), v25]), (70, .own jk 93 v25 J8)]) ∧ sW x8 dV nk J8 = some r) ?_ ?_)))))))))))
 rintro ⟨v25, J8⟩ w dD ⟨h, hs⟩
 refine ag (ae (au (v := v7) rfl) (ae (dz (vs := [(.int .i64 (dV.params)), (.int .i64 (30)), v25]) h 9 rfl uS rfl rfl rfl) ?_))
 replace h := h.freeze 70 rfl
 refine sZ (R := j4) (vs := [(.agg #[(.int .i64 (dV.params)), (.int .i64 (30)), v25])]) (xs := [(⟨dV.params, 30, J8⟩ : cz)]) h 71 Kv rfl rfl rfl ⟨⟨_, rfl, (h.gF 70 rfl)⟩, trivial⟩ rfl fun w u27 h => ?_
 obtain ⟨a28, hs⟩ := bI hs
 refine mf (R := j4) (m := [(⟨dV.params, 30, J8⟩ : cz)]) h 5 rfl (h.ed 71 rfl) Kv rfl rfl rfl a28.1 a28.2 fun w u29 h => ae (aj (v := u29) rfl) (ah (aA (aa (ag (ae (dC rfl rfl Mg) (ae (au (v := (.int .i64 ((i10 + 1)))) rfl) (ah (az ?_))))))))
 subst FZ
 exact jN ⟨k9 + 1, i10 + 1, u29, (x8 ++ [(⟨dV.params, 30, J8⟩ : cz)])⟩ ⟨h.cn _, by omega, hs⟩ (by have := of_decide_eq_true e14; dsimp only; omega)
 refine lS (L := (fun x => x = XO)) mixed h fun w h => aZ 0 (aS.refl _ _) rfl ay (by kernel_rfl) (by kernel_rfl) (by kernel_rfl) (fun w hk => ak zR rfl) (aZ 1 (aS.refl _ _) rfl ay (by kernel_rfl) (by kernel_rfl) (by kernel_rfl) (fun w hk => have h := h.qB 9 rfl hk; aF h 8 rfl ow rfl rfl) (aZ 2 (aS.refl _ _) rfl ay (by kernel_rfl) (by kernel_rfl) (by kernel_rfl) (fun w hk => au (v := va) rfl) (aZ 3 (aS.refl _ _) rfl ay (by kernel_rfl) (by kernel_rfl) (by kernel_rfl) (fun w hk => ak xE rfl) (aZ 4 (aS.refl _ _) rfl ay (by kernel_rfl) (by kernel_rfl) (by kernel_rfl) (fun w hk => have h := h.qB 9 rfl hk; aF h 8 rfl bz rfl rfl) (aZ 6 (aS.refl _ _) rfl ay (by kernel_rfl) (by kernel_rfl) (by kernel_rfl) (fun w hk => ak xE rfl) (aZ 7 (aS.refl _ _) rfl ay (by kernel_rfl) (by kernel_rfl) (by kernel_rfl) (fun w hk => have h := h.qB 9 rfl hk; aF h 8 rfl bz rfl rfl) (aZ 8 (aS.refl _ _) rfl ay (by kernel_rfl) (by kernel_rfl) (by kernel_rfl) (fun w hk => dO (pv := [(0, (.int .i64 (1))), (1, (.int .i64 (dV.locals)))]) (out := [(.int .i64 (1)), (.int .i64 (dV.locals)), (.int .i64 (0)), (.int .i64 (0)), (.slice none 0 0)]) lT rfl ⟨0, 1, [(.int .i64 (1))], rfl, rfl, rfl, Nat.le_of_ble_eq_true rfl, ⟨1, 1, [(.int .i64 (dV.locals))], rfl, rfl, rfl, Nat.le_of_ble_eq_true rfl, rfl⟩⟩) (aZ 9 (aS.refl _ _) rfl ay (by kernel_rfl) (by kernel_rfl) (by kernel_rfl) (fun w hk => ak xE rfl) (aZ 10 (aS.refl _ _) rfl ay (by kernel_rfl) (by kernel_rfl) (by kernel_rfl) (fun w hk => have h := h.qB 9 rfl hk; aF h 8 rfl bz rfl rfl) (aZ 11 (aS.refl _ _) rfl ay (by kernel_rfl) (by kernel_rfl) (by kernel_rfl) (fun w hk => dO (pv := [(0, (.int .i64 (8))), (1, (.int .i64 (dV.locals)))]) (out := [(.int .i64 (8)), (.int .i64 (dV.locals)), (.int .i64 (0)), (.int .i64 (0)), (.slice none 0 0)]) lT rfl ⟨0, 1, [(.int .i64 (8))], rfl, rfl, rfl, Nat.le_of_ble_eq_true rfl, ⟨1, 1, [(.int .i64 (dV.locals))], rfl, rfl, rfl, Nat.le_of_ble_eq_true rfl, rfl⟩⟩) ?_))))))))))
 obtain ⟨zU, KQ, hs⟩ := aP hs
 obtain ⟨AV, hs⟩ := bI hs
 obtain ⟨Md, KF⟩ : ∃ x, x = w := ⟨_, rfl⟩
 have l7 : aS (fun x => x = XO) Md w := KF ▸ aS.refl (fun x => x = XO) w
 refine rP KF.symm (nY 5 12 (by kernel_rfl) rfl ay rfl ay ?_ ?_)
 refine bA Jy rfl rfl (uG N _ _ h.lt u21 dV.body (h.lY 7 rfl) va a (h.iw 1 rfl) dV.locals 0 _ KQ) ?_
 rintro _ w ⟨zV, F9, rfl, Ga, zW⟩
 refine ⟨_, rfl, ?_⟩
 replace h := h.jM 132 zV Ga zW
 have xV : ∀ b, ob F9 b → Md.heap.size ≤ b := fun b hb => Nat.le_trans l7.size (zW b hb)
 replace l7 := l7.grow zV
 refine ah (aX l7 (bP 12 (by kernel_rfl) rfl ay (zn (R := jk) (vs := [(.agg #[(.int .i64 (1)), (.int .i64 (dV.locals)), (.int .i64 (0)), (.int .i64 (0)), (.slice none 0 0)]), (.agg #[(.int .i64 (8)), (.int .i64 (dV.locals)), (.int .i64 (0)), (.int .i64 (0)), (.slice none 0 0)])]) (xs := [(⟨1, dV.locals, 0, 0, []⟩ : Ins), (⟨8, dV.locals, 0, 0, []⟩ : Ins)]) h 216 eT rfl rfl rfl ⟨⟨_, rfl, gp.nil⟩, ⟨⟨_, rfl, gp.nil⟩, trivial⟩⟩ rfl fun w DN h BH BI => ?_)))
 have MJ : ∀ b, ob DN b → Md.heap.size ≤ b := fun b hb => Nat.le_trans l7.size (BI b hb)
 replace l7 := l7.grow BH
 refine ah (aX l7 (bP 13 (by kernel_rfl) rfl ay ?_))
 have BJ := l7.size
 refine oL (R := jk) (m := [(⟨1, dV.locals, 0, 0, []⟩ : Ins), (⟨8, dV.locals, 0, 0, []⟩ : Ins)]) h 132 rfl (h.ed 216 rfl) eT rfl rfl rfl AV.1 AV.2 fun w xW h BK BL => ?_
 replace l7 := l7.Qn BK xV
 have MK := H9 BJ xV BL
 refine ah (aX l7 (aZ 14 l7 rfl ay (by kernel_rfl) (by kernel_rfl) (by kernel_rfl) (fun w hk => ak qM rfl) (bP 15 (by kernel_rfl) rfl ay (qO h 9 [(.int .i64 (dV.params)), (.int .i64 (30)), xW] rfl zq rfl rfl rfl rfl (h.dG 132 rfl).one fun w h DR => ?_))))
 replace l7 := l7.same DR
 refine ah (aX l7 (fZ (by kernel_rfl) (az ?_)))
 replace h := h.Ct 132 70 rfl rfl (by decide)
 exact bS (xW, (zU ++ [(⟨1, dV.locals, 0, 0, []⟩ : Ins), (⟨8, dV.locals, 0, 0, []⟩ : Ins)])) ⟨h.cn _, hs⟩
 refine zn (R := jk) (vs := [(.agg #[(.int .i64 (1)), (.int .i64 (dV.locals)), (.int .i64 (0)), (.int .i64 (0)), (.slice none 0 0)]), (.agg #[(.int .i64 (8)), (.int .i64 (dV.locals)), (.int .i64 (0)), (.int .i64 (0)), (.slice none 0 0)])]) (xs := [(⟨1, dV.locals, 0, 0, []⟩ : Ins), (⟨8, dV.locals, 0, 0, []⟩ : Ins)]) h 216 eT rfl rfl rfl ⟨⟨_, rfl, gp.nil⟩, ⟨⟨_, rfl, gp.nil⟩, trivial⟩⟩ rfl fun w DN h BH BI => ?_
 have MJ : ∀ b, ob DN b → Md.heap.size ≤ b := fun b hb => Nat.le_trans l7.size (BI b hb)
 replace l7 := l7.grow BH
 refine ah (aX l7 (bP 5 (by kernel_rfl) rfl ay (bA Jy rfl rfl (uG N _ _ h.lt u21 dV.body (h.lY 7 rfl) va a (h.iw 1 rfl) dV.locals 0 _ KQ) ?_)))
 rintro _ w ⟨zV, F9, rfl, Ga, zW⟩
 refine ⟨_, rfl, ?_⟩
 replace h := h.jM 132 zV Ga zW
 have xV : ∀ b, ob F9 b → Md.heap.size ≤ b := fun b hb => Nat.le_trans l7.size (zW b hb)
 replace l7 := l7.grow zV
 refine ah (aX l7 (bP 13 (by kernel_rfl) rfl ay ?_))
 have BJ := l7.size
 refine oL (R := jk) (m := [(⟨1, dV.locals, 0, 0, []⟩ : Ins), (⟨8, dV.locals, 0, 0, []⟩ : Ins)]) h 132 rfl (h.ed 216 rfl) eT rfl rfl rfl AV.1 AV.2 fun w xW h BK BL => ?_
 replace l7 := l7.Qn BK xV
 have MK := H9 BJ xV BL
 refine ah (aX l7 (aZ 14 l7 rfl ay (by kernel_rfl) (by kernel_rfl) (by kernel_rfl) (fun w hk => ak qM rfl) (bP 15 (by kernel_rfl) rfl ay (qO h 9 [(.int .i64 (dV.params)), (.int .i64 (30)), xW] rfl zq rfl rfl rfl rfl (h.dG 132 rfl).one fun w h DR => ?_))))
 replace l7 := l7.same DR
 refine ah (aX l7 (fZ (by kernel_rfl) (az ?_)))
 replace h := h.Ct 132 70 rfl rfl (by decide)
 exact bS (xW, (zU ++ [(⟨1, dV.locals, 0, 0, []⟩ : Ins), (⟨8, dV.locals, 0, 0, []⟩ : Ins)])) ⟨h.cn _, hs⟩
 rw [gz (hik ▸ e14), gU] at hs
 refine df (aO (aO (bF (aa (ai (ag (ae (au (v := v7) rfl) (ae (aj (v := v7) rfl) (ah (aa (aI (bV (v := v7) Tryz.results39 rfl ?_))))))))))))
 obtain rfl := Option.some.inj hs
 exact ⟨h.grown, _, rfl, (h.mg 5 rfl).1, (h.mg 5 rfl).2⟩
def fG (x6 : Bool) : Bool × Bool × Bool × Bool :=
  bif x6 then (false, false, false, true) else (false, false, false, false)
def fe (a : Int) (x3 : Bool) : Bool × Bool × Bool × Bool :=
  bif x3 then (true, true, false, true) else bif decide ((a : Int) = 3) then (true, true, true, true) else bif decide ((a : Int) = 10) then fG (decide ((a : Int) = 10)) else fG (decide ((a : Int) = 12))
def dM (a : Int) (x1 : Bool) : Bool × Bool × Bool × Bool :=
  bif x1 then (true, false, false, true) else bif decide ((a : Int) = 2) then fe a (decide ((a : Int) = 2)) else bif decide ((a : Int) = 4) then fe a (decide ((a : Int) = 4)) else fe a (decide ((a : Int) = 6))
def bO (a : Int) : Bool × Bool × Bool × Bool :=
  bif decide ((a : Int) = 1) then dM a (decide ((a : Int) = 1)) else bif decide ((a : Int) = 5) then dM a (decide ((a : Int) = 5)) else bif decide ((a : Int) = 8) then dM a (decide ((a : Int) = 8)) else bif decide ((a : Int) = 9) then dM a (decide ((a : Int) = 9)) else bif decide ((a : Int) = 11) then dM a (decide ((a : Int) = 11)) else bif decide ((a : Int) = 13) then dM a (decide ((a : Int) = 13)) else dM a (decide ((a : Int) = 7))
theorem KR (w0 : World) (M : BS) (hM : ∀ b, M b → b < w0.heap.size) (a : Int) (r : Bool × Bool × Bool × Bool) (hs : bO a = r) :
    Calls Tryz.prog 115 #[(.int .i64 (a))] w0 (fun e w' => Grow w0 w' ∧ e = .returned (.tuple #[.bool r.1, .bool r.2.1, .bool r.2.2.1, .bool r.2.2.2])) := by
 refine aQ (args := [(.int .i64 (a))]) Tryz.func115 rfl Tryz.ntmps115 (Nat.le_of_ble_eq_true rfl) ?_
 have h := SH.init hM
 refine ai (ag (ae (aj (v := (.bool (false))) rfl) (ae (aj (v := (.bool (false))) rfl) (ae (aj (v := (.bool (false))) rfl) (ae (aj (v := (.bool (false))) rfl) (ah (aa (ai (ai (ag (ae (au (v := (.int .i64 (a))) rfl) (ah (aa (aT (bY (σ := Bool) (inl [7, 8, 9, 10, 11, 12, 13, 14]) (fun x1 => [(7, (.bool (x1)))]) (fun x1 w => SH w0 M BE w (hset []) ∧ dM a x1 = r) ?_ ?_)))))))))))))))
 rintro x1 w dD ⟨h, hs⟩
 refine aK hs rfl (fun c2 hs => ?_) (fun c2 hs => ?_)
 refine ai (ag (ae (aj (v := (.bool (true))) rfl) (ae (aj (v := (.bool (false))) rfl) (ae (aj (v := (.bool (false))) rfl) (ae (aj (v := (.bool (true))) rfl) (ah (aa (aI (aH (aC (Qy (v1 := (.bool (true))) (v2 := (.bool (false))) (v3 := (.bool (false))) (v4 := (.bool (true))) Tryz.results115 rfl rfl rfl rfl ?_)))))))))))
 obtain rfl := hs
 exact ⟨h.grown, rfl⟩
 refine bY (σ := Bool) (inl [15, 16, 17, 18]) (fun x3 => [(15, (.bool (x3)))]) (fun x3 w => SH w0 M BE w (hset []) ∧ fe a x3 = r) ?_ ?_
 rintro x3 w dD ⟨h, hs⟩
 refine aK hs rfl (fun c4 hs => ?_) (fun c4 hs => ?_)
 refine ai (ag (ae (aj (v := (.bool (true))) rfl) (ae (aj (v := (.bool (true))) rfl) (ae (aj (v := (.bool (false))) rfl) (ae (aj (v := (.bool (true))) rfl) (ah (aa (aI (aH (aC (Qy (v1 := (.bool (true))) (v2 := (.bool (true))) (v3 := (.bool (false))) (v4 := (.bool (true))) Tryz.results115 rfl rfl rfl rfl ?_)))))))))))
 obtain rfl := hs
 exact ⟨h.grown, rfl⟩
 refine ai (ag (ae (bH rfl rfl) (ae (aj (v := (.bool (decide ((a : Int) = 3)))) rfl) (ah (aa (aK hs rfl (fun c5 hs => ?_) (fun c5 hs => ?_)))))))
 refine ai (ag (ae (aj (v := (.bool (true))) rfl) (ae (aj (v := (.bool (true))) rfl) (ae (aj (v := (.bool (true))) rfl) (ae (aj (v := (.bool (true))) rfl) (ah (aa (aI (aH (aC (Qy (v1 := (.bool (true))) (v2 := (.bool (true))) (v3 := (.bool (true))) (v4 := (.bool (true))) Tryz.results115 rfl rfl rfl rfl ?_)))))))))))
 obtain rfl := hs
 exact ⟨h.grown, rfl⟩
 refine bY (σ := Bool) (inl [21, 22, 23]) (fun x6 => [(21, (.bool (x6)))]) (fun x6 w => SH w0 M BE w (hset []) ∧ fG x6 = r) ?_ ?_
 rintro x6 w dD ⟨h, hs⟩
 refine aK hs rfl (fun c7 hs => ?_) (fun c7 hs => ?_)
 refine ai (ag (ae (aj (v := (.bool (false))) rfl) (ae (aj (v := (.bool (false))) rfl) (ae (aj (v := (.bool (false))) rfl) (ae (aj (v := (.bool (true))) rfl) (ah (aa (aI (aH (aC (Qy (v1 := (.bool (false))) (v2 := (.bool (false))) (v3 := (.bool (false))) (v4 := (.bool (true))) Tryz.results115 rfl rfl rfl rfl ?_)))))))))))
 obtain rfl := hs
 exact ⟨h.grown, rfl⟩
 refine aG (aA (aa (ai (ag (ae (aj (v := (.bool (false))) rfl) (ae (aj (v := (.bool (false))) rfl) (ae (aj (v := (.bool (false))) rfl) (ae (aj (v := (.bool (false))) rfl) (ah (aa (aI (Qy (v1 := (.bool (false))) (v2 := (.bool (false))) (v3 := (.bool (false))) (v4 := (.bool (false))) Tryz.results115 rfl rfl rfl rfl ?_))))))))))))
 obtain rfl := hs
 exact ⟨h.grown, rfl⟩
 refine ai (ag (ae (bH rfl rfl) (ae (aj (v := (.bool (decide ((a : Int) = 10)))) rfl) (ah (aa (aK hs rfl (fun c8 hs => ?_) (fun c8 hs => ?_)))))))
 refine aG (az ?_)
 exact bS (decide ((a : Int) = 10)) ⟨h.cn _, hs⟩
 refine ag (ae (bH rfl rfl) (ae (aj (v := (.bool (decide ((a : Int) = 12)))) rfl) (ah (az ?_))))
 exact bS (decide ((a : Int) = 12)) ⟨h.cn _, hs⟩
 refine ai (ag (ae (bH rfl rfl) (ae (aj (v := (.bool (decide ((a : Int) = 2)))) rfl) (ah (aa (aK hs rfl (fun c9 hs => ?_) (fun c9 hs => ?_)))))))
 refine aG (az ?_)
 exact bS (decide ((a : Int) = 2)) ⟨h.cn _, hs⟩
 refine ai (ag (ae (bH rfl rfl) (ae (aj (v := (.bool (decide ((a : Int) = 4)))) rfl) (ah (aa (aK hs rfl (fun c10 hs => ?_) (fun c10 hs => ?_)))))))
 refine aG (az ?_)
 exact bS (decide ((a : Int) = 4)) ⟨h.cn _, hs⟩
 refine ag (ae (bH rfl rfl) (ae (aj (v := (.bool (decide ((a : Int) = 6)))) rfl) (ah (az ?_))))
 exact bS (decide ((a : Int) = 6)) ⟨h.cn _, hs⟩
 refine ai (ag (ae (bH rfl rfl) (ae (aj (v := (.bool (decide ((a : Int) = 1)))) rfl) (ah (aa (aK hs rfl (fun c11 hs => ?_) (fun c11 hs => ?_)))))))
 refine aG (az ?_)
 exact bS (decide ((a : Int) = 1)) ⟨h.cn _, hs⟩
 refine ai (ag (ae (bH rfl rfl) (ae (aj (v := (.bool (decide ((a : Int) = 5)))) rfl) (ah (aa (aK hs rfl (fun c12 hs => ?_) (fun c12 hs => ?_)))))))
 refine aG (az ?_)
 exact bS (decide ((a : Int) = 5)) ⟨h.cn _, hs⟩
 refine ai (ag (ae (bH rfl rfl) (ae (aj (v := (.bool (decide ((a : Int) = 8)))) rfl) (ah (aa (aK hs rfl (fun c13 hs => ?_) (fun c13 hs => ?_)))))))
 refine aG (az ?_)
 exact bS (decide ((a : Int) = 8)) ⟨h.cn _, hs⟩
 refine ai (ag (ae (bH rfl rfl) (ae (aj (v := (.bool (decide ((a : Int) = 9)))) rfl) (ah (aa (aK hs rfl (fun c14 hs => ?_) (fun c14 hs => ?_)))))))
 refine aG (az ?_)
 exact bS (decide ((a : Int) = 9)) ⟨h.cn _, hs⟩
 refine ai (ag (ae (bH rfl rfl) (ae (aj (v := (.bool (decide ((a : Int) = 11)))) rfl) (ah (aa (aK hs rfl (fun c15 hs => ?_) (fun c15 hs => ?_)))))))
 refine aG (az ?_)
 exact bS (decide ((a : Int) = 11)) ⟨h.cn _, hs⟩
 refine ai (ag (ae (bH rfl rfl) (ae (aj (v := (.bool (decide ((a : Int) = 13)))) rfl) (ah (aa (aK hs rfl (fun c16 hs => ?_) (fun c16 hs => ?_)))))))
 refine aG (az ?_)
 exact bS (decide ((a : Int) = 13)) ⟨h.cn _, hs⟩
 refine ag (ae (bH rfl rfl) (ae (aj (v := (.bool (decide ((a : Int) = 7)))) rfl) (ah (az ?_))))
 exact bS (decide ((a : Int) = 7)) ⟨h.cn _, hs⟩
def dZ (a : Bool) (b : Int) (jG : Int) : Bool :=
  ((!a) || (decide ((0 : Int) ≤ b) && decide ((b : Int) < jG)))
theorem zt (w0 : World) (M : BS) (hM : ∀ b, M b → b < w0.heap.size) (a : Bool) (b : Int) (jG : Int) (q0 : Nat) (hq0 : ∃ E, w0.heap[q0]? = some (.cells #[(.int .i64 (jG))] E (0, 0))) (r : Bool) (hs : dZ a b jG = r) :
    Calls Tryz.prog 116 #[(.bool (a)), (.int .i64 (b)), (.pointer (some ⟨q0, 0, none⟩))] w0 (fun e w' => Grow w0 w' ∧ e = .returned (.bool r)) := by
 refine aQ (args := [(.bool (a)), (.int .i64 (b)), (.pointer (some ⟨q0, 0, none⟩))]) Tryz.func116 rfl Tryz.ntmps116 (Nat.le_of_ble_eq_true rfl) ?_
 have h := SH.init hM
 replace h := h.H6 1 (cs := [(.int .i64 (jG))]) hq0 bJ
 refine ai (ag (ae (aj (v := (.bool (false))) rfl) (ah (aa (ai (ag (ae (au (v := (.bool (a))) rfl) (ae (gP rfl) (ae (au (v := (.bool ((!a)))) rfl) (aD rfl rfl (fun q => au (v := (.int .i64 (b))) rfl) (aD rfl rfl (fun q => oI (dx q) rfl) (aD rfl rfl (fun q => au (v := (.bool (decide ((0 : Int) ≤ b)))) (dx q)) (lN ((!a) == false) rfl rfl (fun q => au (v := (.int .i64 (b))) rfl) (lN ((!a) == false) rfl rfl (fun q => ek (k := 0) h 1 rfl bz rfl rfl) (lN ((!a) == false) rfl rfl (fun q => dS (dx q) (dx q)) (aD rfl rfl (fun q => fT (dx q) (PZ q) lQ) (ae (gK rfl rfl lQ) (ae (aj (v := (.bool (((!a) || (decide ((0 : Int) ≤ b) && decide ((b : Int) < jG)))))) rfl) (ah (aa (aI (bV (v := (.bool (((!a) || (decide ((0 : Int) ≤ b) && decide ((b : Int) < jG)))))) Tryz.results116 rfl ?_))))))))))))))))))))))
 obtain rfl := hs
 exact ⟨h.grown, rfl⟩
def l5 (d : Int) (x20 : Int) (s : Unit) (Uj : Unit → Option Int) : Option Int :=
  bif (!(decide ((0 : Int) ≤ x20) && decide ((x20 : Int) < d))) then some 3 else Uj ()
def qF (s : Unit) : Option Int :=
  some 0
def dR (x9 : Bool) (a : Ins) (b : Int) (Fv : Int) (c : List cz) (y13 : Int) (zB : Int) (d : Int) (P8 : Int) : Option Int :=
  bif (!x9) then some 3 else bif (((decide ((a.a : Int) ≠ P8) || decide ((a.b : Int) ≠ Fv)) || decide ((a.c : Int) ≠ y13)) || decide (((a.args.length : Int) : Int) ≠ zB)) then some 4 else bif decide ((a.op : Int) = 7) then each (l5 d) qF a.args () else some 0
def cu (a : Ins) (b : Int) (c : List cz) (d : Int) (x9 : Bool) (zB : Int) (O6 : Int) (Fv : Int) (y13 : Int) : Option Int :=
  bif decide ((a.op : Int) = 12) then dR x9 a b Fv c y13 zB d 0 else dR x9 a b Fv c y13 zB d O6
def dB (a : Ins) (b : Int) (c : List cz) (d : Int) (pz : Bool) : Option Int :=
  bif pz then cu a b c d ((bO a.op).2.2.2) 0 a.a 0 0 else bif decide ((a.op : Int) = 10) then cu a b c d ((bO a.op).2.2.2) 0 0 0 0 else cu a b c d ((bO a.op).2.2.2) 0 a.a a.b 0
def dH (a : Ins) (b : Int) (c : List cz) (d : Int) (e : Int) (XP : Bool) : Option Int :=
  bif XP then cu a b c d (decide ((0 : Int) ≤ a.b) && decide ((a.b : Int) < e)) 0 a.a a.b 0 else bif decide ((a.op : Int) = 7) then bif (decide ((a.b : Int) < 0) || decide (((c.length : Int) : Int) ≤ a.b)) then some 5 else (idx c a.b).bind fun x54 => cu a b c d ((bO a.op).2.2.2) x54.params a.a a.b 0 else bif decide ((a.op : Int) = 8) then dB a b c d (decide ((a.op : Int) = 8)) else bif decide ((a.op : Int) = 9) then dB a b c d (decide ((a.op : Int) = 9)) else dB a b c d (decide ((a.op : Int) = 11))
def dI (a : Ins) (b : Int) (c : List cz) (d : Int) (e : Int) (x34 : Bool) : Option Int :=
  bif x34 then cu a b c d (decide ((0 : Int) ≤ a.c) && decide ((a.c : Int) < 4)) 0 a.a a.b a.c else bif decide ((a.op : Int) = 3) then bif decide (((a.args.length : Int) : Int) = 1) then (idx a.args 0).bind fun x38 => cu a b c d (decide ((1 : Int) ≤ x38) && decide ((x38 : Int) ≤ 5)) 1 a.a a.b a.c else cu a b c d false 1 a.a a.b a.c else bif decide ((a.op : Int) = 12) then dH a b c d e (decide ((a.op : Int) = 12)) else dH a b c d e (decide ((a.op : Int) = 13))
def gJ (a : Ins) (b : Int) (c : List cz) (d : Int) (e : Int) : Option Int :=
  bif (!(bO a.op).2.2.2) then some 4 else bif (((!((!(bO a.op).1) || (decide ((0 : Int) ≤ a.a) && decide ((a.a : Int) < d)))) || (!(dZ ((bO a.op).2.1) a.b d))) || (!(dZ ((bO a.op).2.2.1) a.c d))) then some 3 else bif decide ((a.op : Int) = 1) then cu a b c d (decide ((-1000000000 : Int) ≤ a.b) && decide ((a.b : Int) ≤ 1000000000)) 0 a.a a.b 0 else bif decide ((a.op : Int) = 5) then cu a b c d (decide ((1 : Int) ≤ a.b) && decide ((a.b : Int) ≤ 4)) 0 a.a a.b 0 else bif decide ((a.op : Int) = 4) then dI a b c d e (decide ((a.op : Int) = 4)) else dI a b c d e (decide ((a.op : Int) = 6))
theorem JK (w0 : World) (M : BS) (hM : ∀ b, M b → b < w0.heap.size) (a : Ins) (BM : Value) (Y8 : gp fH w0 BE M BM a.args) (b : Int) (vc : Value) (c : List cz) (hc : gp j4 w0 BE M vc c) (d : Int) (e : Int) (r : Int) (hs : gJ a b c d e = some r) :
    Calls Tryz.prog 86 #[(.agg #[(.int .i64 (a.op)), (.int .i64 (a.a)), (.int .i64 (a.b)), (.int .i64 (a.c)), BM]), (.int .i64 (b)), vc, (.int .i64 (d)), (.int .i64 (e))] w0 (fun e w' => Grow w0 w' ∧ e = .returned (.int .i64 r)) := by
 refine aQ (args := [(.agg #[(.int .i64 (a.op)), (.int .i64 (a.a)), (.int .i64 (a.b)), (.int .i64 (a.c)), BM]), (.int .i64 (b)), vc, (.int .i64 (d)), (.int .i64 (e))]) Tryz.func86 rfl Tryz.ntmps86 (Nat.le_of_ble_eq_true rfl) ?_
 have h := SH.init hM
 replace h := h.fC 1 Y8 bJ
 replace h := h.fC 2 hc (di bJ)
 have hl_c := hc.bZ
 refine ai (ag (nX (cs := [(.int .i64 (a.op)), (.int .i64 (a.a)), (.int .i64 (a.b)), (.int .i64 (a.c)), BM]) h 3 rfl rfl fun w b1 h => nX (cs := [(.int .i64 (d))]) h 4 rfl rfl fun w b2 h => ae (aj (v := (.int .i64 (0))) rfl) (ah (aa (ai (ag (ae (ak oN rfl) (ae (aF h 3 rfl bz rfl rfl) (bA TT rfl rfl (KR _ _ h.lt a.op _ rfl) ?_)))))))))
 rintro _ w ⟨k3, rfl⟩
 refine ⟨_, rfl, ?_⟩
 replace h := h.grow k3
 refine ae (au (v := (.tuple #[(.bool ((bO a.op).1)), (.bool ((bO a.op).2.1)), (.bool ((bO a.op).2.2.1)), (.bool ((bO a.op).2.2.2))])) rfl) (ae (bB rfl rfl) (ae (bB rfl rfl) (ae (bB rfl rfl) (ae (bB rfl rfl) (ae (aj (v := (.bool ((bO a.op).1))) rfl) (ae (aj (v := (.bool ((bO a.op).2.1))) rfl) (ae (aj (v := (.bool ((bO a.op).2.2.1))) rfl) (ae (aj (v := (.bool ((bO a.op).2.2.2))) rfl) (ah (aa (ai (ai (ag (ae (au (v := (.bool ((bO a.op).2.2.2))) rfl) (ae (gP rfl) (ah (aa (aK hs rfl (fun c4 hs => ?_) (fun c4 hs => ?_)))))))))))))))))))
 refine ai (ag (ae (aj (v := (.int .i64 (4))) rfl) (ah (aa (aI (aC (bV (v := (.int .i64 (4))) Tryz.results86 rfl ?_)))))))
 obtain rfl := Option.some.inj hs
 exact ⟨h.grown, rfl⟩
 refine aG (aa (ai (ag (ae (qN (c1 := []) (c2 := [(.pointer (some ⟨b2, 0, none⟩))]) rfl rfl) (ae (aj (v := (.func (.func 116) #[] #[(.pointer (some ⟨b2, 0, none⟩))])) rfl) (ah (aa (ai (ai (ag (ae (au (v := (.func (.func 116) #[] #[(.pointer (some ⟨b2, 0, none⟩))])) rfl) (ae (au (v := (.bool ((bO a.op).1))) rfl) (ae (ak jV rfl) (ae (aF h 3 rfl bz rfl rfl) (jl (args := [(.bool ((bO a.op).1)), (.int .i64 (a.a)), (.pointer (some ⟨b2, 0, none⟩))]) Fg rfl rfl (aQ (args := [(.bool ((bO a.op).1)), (.int .i64 (a.a)), (.pointer (some ⟨b2, 0, none⟩))]) Tryz.func116 rfl Tryz.ntmps116 (Nat.le_of_ble_eq_true rfl) (ai (ag (ae (aj (v := (.bool (false))) rfl) (ah (aa (ai (ag ?_)))))))))))))))))))))))
 refine ae (au (v := (.bool ((bO a.op).1))) rfl) (ae (gP rfl) (ae (au (v := (.bool ((!(bO a.op).1)))) rfl) (aD rfl rfl (fun q => au (v := (.int .i64 (a.a))) rfl) (aD rfl rfl (fun q => oI (dx q) rfl) (aD rfl rfl (fun q => au (v := (.bool (decide ((0 : Int) ≤ a.a)))) (dx q)) (lN ((!(bO a.op).1) == false) rfl rfl (fun q => au (v := (.int .i64 (a.a))) rfl) (lN ((!(bO a.op).1) == false) rfl rfl (fun q => aF h 4 rfl bz rfl rfl) (lN ((!(bO a.op).1) == false) rfl rfl (fun q => dS (dx q) (dx q)) (aD rfl rfl (fun q => fT (dx q) (PZ q) lQ) (ae (gK rfl rfl lQ) (ae (aj (v := (.bool (((!(bO a.op).1) || (decide ((0 : Int) ≤ a.a) && decide ((a.a : Int) < d)))))) rfl) (ah (aa (aI (bV (v := (.bool (((!(bO a.op).1) || (decide ((0 : Int) ≤ a.a) && decide ((a.a : Int) < d)))))) Tryz.results116 rfl (⟨_, rfl, ?_⟩))))))))))))))))
 refine ae (gP rfl) (ae (au (v := (.bool ((!((!(bO a.op).1) || (decide ((0 : Int) ≤ a.a) && decide ((a.a : Int) < d))))))) rfl) (aD rfl rfl (fun q => au (v := (.func (.func 116) #[] #[(.pointer (some ⟨b2, 0, none⟩))])) rfl) (aD rfl rfl (fun q => au (v := (.bool ((bO a.op).2.1))) rfl) (aD rfl rfl (fun q => ak iF rfl) (aD rfl rfl (fun q => aF h 3 rfl bz (dx q) rfl) (FC [(.pointer (some ⟨b2, 0, none⟩))] rfl rfl Fg (fun q => (dx q)) (fun q => lh (dx q) (lh (dx q) rfl)) (zt _ _ h.lt ((bO a.op).2.1) a.b d b2 (h.ql 4 rfl) _ rfl) fun w k5 => ?_))))))
 replace h := h.grow k5
 refine aD rfl rfl (fun q => gP (dx q)) (ae (gK rfl rfl lQ) (ae (au (v := (.bool (((!((!(bO a.op).1) || (decide ((0 : Int) ≤ a.a) && decide ((a.a : Int) < d)))) || (!(dZ ((bO a.op).2.1) a.b d)))))) rfl) (aD rfl rfl (fun q => au (v := (.func (.func 116) #[] #[(.pointer (some ⟨b2, 0, none⟩))])) rfl) (aD rfl rfl (fun q => au (v := (.bool ((bO a.op).2.2.1))) rfl) (aD rfl rfl (fun q => ak qa rfl) (aD rfl rfl (fun q => aF h 3 rfl bz (dx q) rfl) (FC [(.pointer (some ⟨b2, 0, none⟩))] rfl rfl Fg (fun q => (dx q)) (fun q => lh (dx q) (lh (dx q) rfl)) (zt _ _ h.lt ((bO a.op).2.2.1) a.c d b2 (h.ql 4 rfl) _ rfl) fun w k6 => ?_)))))))
 replace h := h.grow k6
 refine aD rfl rfl (fun q => gP (dx q)) (ae (gK rfl rfl lQ) (ah (aa (aK hs rfl (fun c7 hs => ?_) (fun c7 hs => ?_)))))
 refine ai (ag (ae (aj (v := (.int .i64 (3))) rfl) (ah (aa (aI (aC (bV (v := (.int .i64 (3))) Tryz.results86 rfl ?_)))))))
 obtain rfl := Option.some.inj hs
 exact ⟨h.grown, rfl⟩
 refine aG (aa (ai (ag (ae (ak qa rfl) (ae (aF h 3 rfl bz rfl rfl) (ae (oI rfl rfl) (ae (au (v := (.bool (decide ((0 : Int) ≤ a.c)))) rfl) (aD rfl rfl (fun q => ak qa rfl) (aD rfl rfl (fun q => aF h 3 rfl bz (dx q) rfl) (aD rfl rfl (fun q => dS (dx q) rfl) (ae (fT rfl rfl lQ) (ae (aj (v := (.bool ((decide ((0 : Int) ≤ a.c) && decide ((a.c : Int) < 4))))) rfl) (ah (aa (ai (ag (ae (aj (v := (.int .i64 (0))) rfl) (ah (aa (ai (ag (ae (ak oN rfl) (ae (aF h 3 rfl bz rfl rfl) ?_)))))))))))))))))))))))
 refine ae (ak jV rfl) (ae (aF h 3 rfl bz rfl rfl) (ae (ak iF rfl) (ae (aF h 3 rfl bz rfl rfl) (ae (dO (pv := [(0, (.int .i64 (a.op))), (1, (.int .i64 (a.a))), (2, (.int .i64 (a.b)))]) (out := [(.int .i64 (a.op)), (.int .i64 (a.a)), (.int .i64 (a.b)), (.int .i64 (0)), (.slice none 0 0)]) lT rfl ⟨0, 1, [(.int .i64 (a.op))], rfl, rfl, rfl, Nat.le_of_ble_eq_true rfl, ⟨1, 1, [(.int .i64 (a.a))], rfl, rfl, rfl, Nat.le_of_ble_eq_true rfl, ⟨2, 1, [(.int .i64 (a.b))], rfl, rfl, rfl, Nat.le_of_ble_eq_true rfl, rfl⟩⟩⟩) (bW h 5 oW fun w b8 h => dA (vs := [(.int .i64 (a.op)), (.int .i64 (a.a)), (.int .i64 (a.b)), (.int .i64 (0)), (.slice none 0 0)]) h 5 [(.int .i64 (a.op)), (.int .i64 (a.a)), (.int .i64 (a.b)), (.int .i64 (0)), (.slice none 0 0)] rfl oW rfl rfl rfl rfl rfl (ax rfl (ax rfl (ax rfl (ax rfl (ax rfl bu))))) fun w h => ah (aa (bY (σ := Bool × Int × Int × Int × Int) (inl [10, 14, 17, 69, 70, 71, 72, 73, 74, 75, 76, 77, 78, 79, 80, 81, 82, 83, 84, 85, 86, 87, 88, 89, 90, 91, 92, 93, 94, 95, 96, 97, 98, 99, 100, 101, 102, 103, 104, 105, 106, 107, 108, 109, 110, 111, 112, 113, 114, 115, 116, 117, 118, 119, 120, 121, 122, 123, 124, 125, 126, 127, 128, 129, 130, 131, 132, 133, 134, 135, 136, 137, 138, 139, 140, 141, 142, 143, 144, 145, 146, 147, 148, 149, 150, 151, 152, 153, 154, 155, 156, 157, 158, 159]) (fun ⟨x9, zB, O6, Fv, y13⟩ => [(14, (.bool (x9))), (17, (.int .i64 (zB)))]) (fun ⟨x9, zB, O6, Fv, y13⟩ w => SH w0 M BE w (hset [(1, .sr fH BM a.args), (3, .blk b1 [(.int .i64 (a.op)), (.int .i64 (a.a)), (.int .i64 (a.b)), (.int .i64 (a.c)), BM]), (4, .blk b2 [(.int .i64 (d))]), (5, .blk b8 [(.int .i64 (a.op)), (.int .i64 (O6)), (.int .i64 (Fv)), (.int .i64 (y13)), (.slice none 0 0)])]) ∧ cu a b c d x9 zB O6 Fv y13 = some r) ?_ ?_)))))))
 rintro ⟨x9, zB, O6, Fv, y13⟩ w dD ⟨h, hs⟩
 refine bY (σ := Int) (inl [160, 161, 162, 163]) (fun P8 => []) (fun P8 w => SH w0 M BE w (hset [(1, .sr fH BM a.args), (3, .blk b1 [(.int .i64 (a.op)), (.int .i64 (a.a)), (.int .i64 (a.b)), (.int .i64 (a.c)), BM]), (4, .blk b2 [(.int .i64 (d))]), (5, .blk b8 [(.int .i64 (a.op)), (.int .i64 (P8)), (.int .i64 (Fv)), (.int .i64 (y13)), (.slice none 0 0)])]) ∧ dR x9 a b Fv c y13 zB d P8 = some r) ?_ ?_
 rintro P8 w dD ⟨h, hs⟩
 refine ai (ai (ag (ae (au (v := (.bool (x9))) rfl) (ae (gP rfl) (ah (aa (aK hs rfl (fun c15 hs => ?_) (fun c15 hs => ?_))))))))
 refine ai (ag (ae (aj (v := (.int .i64 (3))) rfl) (ah (aa (aI (aC (bV (v := (.int .i64 (3))) Tryz.results86 rfl ?_)))))))
 obtain rfl := Option.some.inj hs
 exact ⟨h.grown, rfl⟩
 refine aG (aa (ai (ai (ag (ae (ak jV rfl) (ae (aF h 3 rfl bz rfl rfl) (ae (ak jV rfl) (ae (aF h 5 rfl bz rfl rfl) (ae (iA rfl rfl) (ae (au (v := (.bool (decide ((a.a : Int) ≠ P8)))) rfl) (aD rfl rfl (fun q => ak iF rfl) (aD rfl rfl (fun q => aF h 3 rfl bz (dx q) rfl) (aD rfl rfl (fun q => ak iF rfl) (aD rfl rfl (fun q => aF h 5 rfl bz (dx q) rfl) (aD rfl rfl (fun q => iA (dx q) (dx q)) (ae (gK rfl rfl lQ) (ae (au (v := (.bool ((decide ((a.a : Int) ≠ P8) || decide ((a.b : Int) ≠ Fv))))) rfl) (aD rfl rfl (fun q => ak qa rfl) (aD rfl rfl (fun q => aF h 3 rfl bz (dx q) rfl) (aD rfl rfl (fun q => ak qa rfl) (aD rfl rfl (fun q => aF h 5 rfl bz (dx q) rfl) (aD rfl rfl (fun q => iA (dx q) (dx q)) (ae (gK rfl rfl lQ) ?_)))))))))))))))))))))))
 refine ae (au (v := (.bool (((decide ((a.a : Int) ≠ P8) || decide ((a.b : Int) ≠ Fv)) || decide ((a.c : Int) ≠ y13))))) rfl) (aD rfl rfl (fun q => ak vD rfl) (aD rfl rfl (fun q => aF h 3 rfl uo (dx q) rfl) (aD rfl rfl (fun q => bU dh (dx q) (h.iw 1 rfl)) (aD rfl rfl (fun q => au (v := (.int .i64 (zB))) rfl) (aD rfl rfl (fun q => iA (dx q) (dx q)) (ae (gK rfl rfl lQ) (ah (aa (aK hs rfl (fun c16 hs => ?_) (fun c16 hs => ?_))))))))))
 refine ai (ag (ae (aj (v := (.int .i64 (4))) rfl) (ah (aa (aI (aC (bV (v := (.int .i64 (4))) Tryz.results86 rfl ?_)))))))
 obtain rfl := Option.some.inj hs
 exact ⟨h.grown, rfl⟩
 refine aG (aa (ai (ai (ag (ae (ak oN rfl) (ae (aF h 3 rfl bz rfl rfl) (ae (bH rfl rfl) (ah (aa (aK hs rfl (fun c17 hs => ?_) (fun c17 hs => ?_)))))))))))
 refine ai (ag (ae (ak vD rfl) (ae (aF h 3 rfl uo rfl rfl) (ae (bU dh rfl (h.iw 1 rfl)) (ae (au (v := (.int .i64 (0))) rfl) (ah (aa (aT (gL (σ := Nat × Int) (inl [10, 20, 198, 199, 200, 201, 202, 203, 204, 205, 206]) (fun ⟨k18, i19⟩ => [(198, (.int .i64 (i19)))]) (fun ⟨k18, i19⟩ w => SH w0 M BE w (hset [(1, .sr fH BM a.args), (4, .blk b2 [(.int .i64 (d))])]) ∧ i19 = (k18 : Int) ∧ each (l5 d) qF (a.args.drop k18) () = some r) (fun ⟨k18, i19⟩ => a.args.length - k18) ⟨0, 0⟩ ⟨rfl, trivial⟩ ?_ ?_)))))))))
 exact ⟨h.cn _, rfl, hs⟩
 rintro ⟨k18, i19⟩ w dD ⟨h, hik, hs⟩
 refine ai (ag ?_)
 refine ae (dS rfl rfl) (ah (aa ?_))
 refine ai (iy rfl (fun e23 => ?_) (fun e23 => ?_))
 refine aG (aa ?_)
 obtain ⟨x20, e24a, e24b⟩ := gy (hik ▸ e23)
 rw [e24b, dP] at hs
 generalize Y9 : each (l5 d) qF (a.args.drop (k18 + 1)) = Uj at hs
 have e24r := gD ((h.iw 1 rfl)).bZ hik e23
 refine ai (aT (ai (ag ?_)))
 obtain ⟨Wd, o27, Ui, h, WG, i25⟩ := h.yE 1 6 rfl dh rfl (iQ hik) (gB hik e24a)
 obtain rfl := WG
 refine ae (i25 _ _ _ _ _ _ _ _ _ rfl rfl) (ae (ek (k := 0) h 6 rfl bz rfl rfl) (ae (aj (v := (.int .i64 (x20))) rfl) (ah (aa (ai (ag (ae (au (v := (.func (.func 116) #[] #[(.pointer (some ⟨b2, 0, none⟩))])) rfl) (ae (au (v := (.int .i64 (x20))) rfl) (jl (args := [(.bool (true)), (.int .i64 (x20)), (.pointer (some ⟨b2, 0, none⟩))]) Fg rfl rfl (aQ (args := [(.bool (true)), (.int .i64 (x20)), (.pointer (some ⟨b2, 0, none⟩))]) Tryz.func116 rfl Tryz.ntmps116 (Nat.le_of_ble_eq_true rfl) (ai (ag (ae (aj (v := (.bool (false))) rfl) (ah (aa (ai (ag (ae (au (v := (.bool (true))) rfl) (ae (gP rfl) (ae (au (v := (.bool (false))) rfl) (dn rfl rfl (ae (au (v := (.int .i64 (x20))) rfl) (dn rfl rfl ?_)))))))))))))))))))))))
 refine ae (oI rfl rfl) (dn rfl rfl (ae (au (v := (.bool (decide ((0 : Int) ≤ x20)))) rfl) (aD rfl rfl (fun q => au (v := (.int .i64 (x20))) rfl) (aD rfl rfl (fun q => aF h 4 rfl bz rfl rfl) (aD rfl rfl (fun q => dS (dx q) (dx q)) (dn rfl rfl (ae (fT rfl rfl lQ) (ae (dL (b := false) (v := (.bool ((decide ((0 : Int) ≤ x20) && decide ((x20 : Int) < d))))) rfl rfl) (ae (aj (v := (.bool ((decide ((0 : Int) ≤ x20) && decide ((x20 : Int) < d))))) rfl) (ah (aa (aI (bV (v := (.bool ((decide ((0 : Int) ≤ x20) && decide ((x20 : Int) < d))))) Tryz.results116 rfl (⟨_, rfl, ?_⟩))))))))))))))
 refine ae (gP rfl) (ah (aa (aK hs rfl (fun c30 hs => ?_) (fun c30 hs => ?_))))
 refine ai (ag (ae (aj (v := (.int .i64 (3))) rfl) (ah (aa (aI (aH (aC (aC (aH (aC (bV (v := (.int .i64 (3))) Tryz.results86 rfl ?_)))))))))))
 obtain rfl := Option.some.inj hs
 exact ⟨h.grown, rfl⟩
 refine aG (aA (aa (ag (ae (dC rfl rfl e24r) (ae (au (v := (.int .i64 ((i19 + 1)))) rfl) (ah (az ?_)))))))
 subst Y9
 exact jN ⟨k18 + 1, i19 + 1⟩ ⟨h.cn _, by omega, hs⟩ (by have := of_decide_eq_true e23; dsimp only; omega)
 rw [gz (hik ▸ e23), gU] at hs
 refine df (aO (aO (bF (aa (ai (ag (ae (aj (v := (.int .i64 (0))) rfl) (ah (aa (aI (bV (v := (.int .i64 (0))) Tryz.results86 rfl ?_)))))))))))
 obtain rfl := Option.some.inj hs
 exact ⟨h.grown, rfl⟩
 refine aG (aa (ai (ag (ae (aj (v := (.int .i64 (0))) rfl) (ah (aa (aI (bV (v := (.int .i64 (0))) Tryz.results86 rfl ?_))))))))
 obtain rfl := Option.some.inj hs
 exact ⟨h.grown, rfl⟩
 refine ai (ag (ae (ak oN rfl) (ae (aF h 3 rfl bz rfl rfl) (ae (bH rfl rfl) (ah (aa (aK hs rfl (fun c31 hs => ?_) (fun c31 hs => ?_))))))))
 refine ag (ae (ak jV rfl) (fw h 5 [(.int .i64 (a.op)), (.int .i64 (0)), (.int .i64 (Fv)), (.int .i64 (y13)), (.slice none 0 0)] rfl bz rfl rfl rfl rfl rfl fun w h => ah (az ?_)))
 exact bS 0 ⟨h.cn _, hs⟩
 refine aG (az ?_)
 exact bS O6 ⟨h.cn _, hs⟩
 refine ai (ag (ae (ak oN rfl) (ae (aF h 3 rfl bz rfl rfl) (ah (aa (aT (ai (ag (ae (bH rfl rfl) (ae (aj (v := (.bool (decide ((a.op : Int) = 1)))) rfl) (ah (aa (aK hs rfl (fun c32 hs => ?_) (fun c32 hs => ?_))))))))))))))
 refine ag (ae (ak iF rfl) (ae (aF h 3 rfl bz rfl rfl) (ae (oI rfl rfl) (ae (au (v := (.bool (decide ((-1000000000 : Int) ≤ a.b)))) rfl) (aD rfl rfl (fun q => ak iF rfl) (aD rfl rfl (fun q => aF h 3 rfl bz (dx q) rfl) (aD rfl rfl (fun q => Cn (dx q) rfl) (ae (fT rfl rfl lQ) (ae (aj (v := (.bool ((decide ((-1000000000 : Int) ≤ a.b) && decide ((a.b : Int) ≤ 1000000000))))) rfl) (ah (aA (az ?_))))))))))))
 exact bS ((decide ((-1000000000 : Int) ≤ a.b) && decide ((a.b : Int) ≤ 1000000000)), 0, a.a, a.b, 0) ⟨h.cn _, hs⟩
 refine ai (ag (ae (bH rfl rfl) (ae (aj (v := (.bool (decide ((a.op : Int) = 5)))) rfl) (ah (aa (aK hs rfl (fun c33 hs => ?_) (fun c33 hs => ?_)))))))
 refine ag (ae (ak iF rfl) (ae (aF h 3 rfl bz rfl rfl) (ae (oI rfl rfl) (ae (au (v := (.bool (decide ((1 : Int) ≤ a.b)))) rfl) (aD rfl rfl (fun q => ak iF rfl) (aD rfl rfl (fun q => aF h 3 rfl bz (dx q) rfl) (aD rfl rfl (fun q => Cn (dx q) rfl) (ae (fT rfl rfl lQ) (ae (aj (v := (.bool ((decide ((1 : Int) ≤ a.b) && decide ((a.b : Int) ≤ 4))))) rfl) (ah (aA (az ?_))))))))))))
 exact bS ((decide ((1 : Int) ≤ a.b) && decide ((a.b : Int) ≤ 4)), 0, a.a, a.b, 0) ⟨h.cn _, hs⟩
 refine bY (σ := Bool) (inl [91, 92, 93]) (fun x34 => [(91, (.bool (x34)))]) (fun x34 w => SH w0 M BE w (hset [(1, .sr fH BM a.args), (2, .sr j4 vc c), (3, .blk b1 [(.int .i64 (a.op)), (.int .i64 (a.a)), (.int .i64 (a.b)), (.int .i64 (a.c)), BM]), (4, .blk b2 [(.int .i64 (d))]), (5, .blk b8 [(.int .i64 (a.op)), (.int .i64 (a.a)), (.int .i64 (a.b)), (.int .i64 (0)), (.slice none 0 0)])]) ∧ dI a b c d e x34 = some r) ?_ ?_
 rintro x34 w dD ⟨h, hs⟩
 refine aK hs rfl (fun Wo hs => ?_) (fun Wo hs => ?_)
 refine qI 5 mixed (by kernel_rfl) h fun w h => aN (au (v := (.bool ((decide ((0 : Int) ≤ a.c) && decide ((a.c : Int) < 4))))) rfl) (aN (ak qa rfl) (aN (aF h 3 rfl bz rfl rfl) (aN (aj (v := (.bool ((decide ((0 : Int) ≤ a.c) && decide ((a.c : Int) < 4))))) rfl) (aN (ak qa rfl) (zm (fw h 5 [(.int .i64 (a.op)), (.int .i64 (a.a)), (.int .i64 (a.b)), (.int .i64 (a.c)), (.slice none 0 0)] rfl bz rfl rfl rfl rfl rfl fun w h => ah (aA (az ?_))))))))
 exact bS ((decide ((0 : Int) ≤ a.c) && decide ((a.c : Int) < 4)), 0, a.a, a.b, a.c) ⟨h.cn _, hs⟩
 refine ai (ag (ae (bH rfl rfl) (ae (aj (v := (.bool (decide ((a.op : Int) = 3)))) rfl) (ah (aa (aK hs rfl (fun c36 hs => ?_) (fun c36 hs => ?_)))))))
 refine ai (qI 4 mixed (by kernel_rfl) h fun w h => aN (ak qa rfl) (aN (aF h 3 rfl bz rfl rfl) (aN (aj (v := (.int .i64 (1))) rfl) (aN (ak qa rfl) (zm (fw h 5 [(.int .i64 (a.op)), (.int .i64 (a.a)), (.int .i64 (a.b)), (.int .i64 (a.c)), (.slice none 0 0)] rfl bz rfl rfl rfl rfl rfl fun w h => ah (aa (ag (ae (ak vD rfl) (ae (aF h 3 rfl uo rfl rfl) (ae (bU dh rfl (h.iw 1 rfl)) (ae (bH rfl rfl) (ae (au (v := (.bool (decide (((a.args.length : Int) : Int) = 1)))) rfl) (jH (b := decide (((a.args.length : Int) : Int) = 1)) hs (fun c37 hs => ?_) (fun c37 hs => ?_)))))))))))))))
 refine dn rfl (congrArg Value.bool c37) (ae (ak vD rfl) (dn rfl (congrArg Value.bool c37) (ae (aF h 3 rfl uo rfl rfl) (dn rfl (congrArg Value.bool c37) ?_))))
 obtain ⟨x38, e39, hs⟩ := aP hs
 obtain ⟨b41, o42, cs43, h, r44, i40⟩ := h.yE 1 7 rfl dh rfl (aJ e39).1 (aJ e39).2
 obtain rfl := r44
 refine ae (i40 _ _ _ _ _ _ _ _ _ rfl rfl) (dn rfl (congrArg Value.bool c37) (ae (ek (k := 0) h 7 rfl bz rfl rfl) (dn rfl (congrArg Value.bool c37) (ae (oI rfl rfl) (ae (dL (b := true) (v := (.bool (decide ((1 : Int) ≤ x38)))) (congrArg Value.bool c37) rfl) (ae (au (v := (.bool (decide ((1 : Int) ≤ x38)))) rfl) (aD rfl rfl (fun q => ak vD rfl) (aD rfl rfl (fun q => aF h 3 rfl uo (dx q) rfl) ?_))))))))
 obtain ⟨b46, o47, cs48, h, r49, i45⟩ := h.yE 1 8 rfl dh rfl (aJ e39).1 (aJ e39).2
 obtain rfl := r49
 refine aD rfl rfl (fun q => i45 _ _ _ _ _ _ _ _ _ (dx q) rfl) (aD rfl rfl (fun q => ek (k := 0) h 8 rfl bz (dx q) rfl) (aD rfl rfl (fun q => Cn (dx q) rfl) (ae (fT rfl rfl lQ) (ae (aj (v := (.bool ((decide ((1 : Int) ≤ x38) && decide ((x38 : Int) ≤ 5))))) rfl) (ah (aA (az ?_)))))))
 exact bS ((decide ((1 : Int) ≤ x38) && decide ((x38 : Int) ≤ 5)), 1, a.a, a.b, a.c) ⟨h.cn _, hs⟩
 refine bE (b' := false) rfl (congrArg Value.bool c37) rfl (bE (b' := false) rfl (congrArg Value.bool c37) rfl (bE (b' := false) rfl (congrArg Value.bool c37) rfl (bE (b' := false) rfl (congrArg Value.bool c37) rfl (bE (b' := false) rfl (congrArg Value.bool c37) rfl (ae (dL (b := false) (v := (.bool (false))) (congrArg Value.bool c37) rfl) (ae (au (v := (.bool (false))) rfl) (bE (b' := false) rfl rfl rfl (bE (b' := false) rfl rfl rfl (bE (b' := false) rfl rfl rfl (bE (b' := false) rfl rfl rfl (bE (b' := false) rfl rfl rfl (ae (dL (b := false) (v := (.bool (false))) rfl rfl) (ae (aj (v := (.bool (false))) rfl) (ah (aA (az ?_))))))))))))))))
 exact bS (false, 1, a.a, a.b, a.c) ⟨h.cn _, hs⟩
 refine bY (σ := Bool) (inl [121, 122, 123]) (fun XP => [(121, (.bool (XP)))]) (fun XP w => SH w0 M BE w (hset [(1, .sr fH BM a.args), (2, .sr j4 vc c), (3, .blk b1 [(.int .i64 (a.op)), (.int .i64 (a.a)), (.int .i64 (a.b)), (.int .i64 (a.c)), BM]), (4, .blk b2 [(.int .i64 (d))]), (5, .blk b8 [(.int .i64 (a.op)), (.int .i64 (a.a)), (.int .i64 (a.b)), (.int .i64 (0)), (.slice none 0 0)])]) ∧ dH a b c d e XP = some r) ?_ ?_
 rintro XP w dD ⟨h, hs⟩
 refine aK hs rfl (fun c51 hs => ?_) (fun c51 hs => ?_)
 refine ag (ae (ak iF rfl) (ae (aF h 3 rfl bz rfl rfl) (ae (oI rfl rfl) (ae (au (v := (.bool (decide ((0 : Int) ≤ a.b)))) rfl) (aD rfl rfl (fun q => ak iF rfl) (aD rfl rfl (fun q => aF h 3 rfl bz (dx q) rfl) (aD rfl rfl (fun q => au (v := (.int .i64 (e))) rfl) (aD rfl rfl (fun q => dS (dx q) (dx q)) (ae (fT rfl rfl lQ) (ae (aj (v := (.bool ((decide ((0 : Int) ≤ a.b) && decide ((a.b : Int) < e))))) rfl) (ah (aA (az ?_)))))))))))))
 exact bS ((decide ((0 : Int) ≤ a.b) && decide ((a.b : Int) < e)), 0, a.a, a.b, 0) ⟨h.cn _, hs⟩
 refine ai (ag (ae (bH rfl rfl) (ae (aj (v := (.bool (decide ((a.op : Int) = 7)))) rfl) (ah (aa (aK hs rfl (fun BB hs => ?_) (fun BB hs => ?_)))))))
 refine ai (ai (ag (ae (ak iF rfl) (ae (aF h 3 rfl bz rfl rfl) (ae (dS rfl rfl) (ae (au (v := (.bool (decide ((a.b : Int) < 0)))) rfl) (aD rfl rfl (fun q => ak iF rfl) (aD rfl rfl (fun q => aF h 3 rfl bz (dx q) rfl) (aD rfl rfl (fun q => au (v := vc) rfl) (aD rfl rfl (fun q => bU jq (dx q) (h.iw 2 rfl)) (aD rfl rfl (fun q => oI (dx q) (dx q)) (ae (gK rfl rfl lQ) (ah (aa (aK hs rfl (fun c53 hs => ?_) (fun c53 hs => ?_))))))))))))))))
 refine ai (ag (ae (aj (v := (.int .i64 (5))) rfl) (ah (aa (aI (aC (aH (aC (bV (v := (.int .i64 (5))) Tryz.results86 rfl ?_)))))))))
 obtain rfl := Option.some.inj hs
 exact ⟨h.grown, rfl⟩
 refine aG (aa (ag (ae (au (v := vc) rfl) (ae (ak iF rfl) (ae (aF h 3 rfl bz rfl rfl) ?_)))))
 obtain ⟨x54, e55, hs⟩ := aP hs
 obtain ⟨b57, o58, Za, h, Zb, i56⟩ := h.yE 2 9 rfl jq rfl (aJ e55).1 (aJ e55).2
 obtain ⟨u61, rfl, Zc⟩ := nz Zb
 replace h := h.cO 10 Zc.up
 refine ae (i56 _ _ _ _ _ _ _ _ _ rfl rfl) (ae (ak CB rfl) (ae (ek (k := 0) h 9 rfl bz rfl rfl) (ae (aj (v := (.int .i64 (x54.params))) rfl) (ah (aA (az ?_))))))
 exact bS ((bO a.op).2.2.2, x54.params, a.a, a.b, 0) ⟨h.cn _, hs⟩
 refine bY (σ := Bool) (inl [151, 152, 153, 154]) (fun pz => [(151, (.bool (pz)))]) (fun pz w => SH w0 M BE w (hset [(1, .sr fH BM a.args), (3, .blk b1 [(.int .i64 (a.op)), (.int .i64 (a.a)), (.int .i64 (a.b)), (.int .i64 (a.c)), BM]), (4, .blk b2 [(.int .i64 (d))]), (5, .blk b8 [(.int .i64 (a.op)), (.int .i64 (a.a)), (.int .i64 (a.b)), (.int .i64 (0)), (.slice none 0 0)])]) ∧ dB a b c d pz = some r) ?_ ?_
 rintro pz w dD ⟨h, hs⟩
 refine aK hs rfl (fun c64 hs => ?_) (fun c64 hs => ?_)
 refine ag (ae (ak iF rfl) (fw h 5 [(.int .i64 (a.op)), (.int .i64 (a.a)), (.int .i64 (0)), (.int .i64 (0)), (.slice none 0 0)] rfl bz rfl rfl rfl rfl rfl fun w h => ah (aA (az ?_))))
 exact bS ((bO a.op).2.2.2, 0, a.a, 0, 0) ⟨h.cn _, hs⟩
 refine ai (ag (ae (bH rfl rfl) (ae (aj (v := (.bool (decide ((a.op : Int) = 10)))) rfl) (ah (aa (aK hs rfl (fun Bi hs => ?_) (fun Bi hs => ?_)))))))
 refine ag (ae (ak jV rfl) (fw h 5 [(.int .i64 (a.op)), (.int .i64 (0)), (.int .i64 (a.b)), (.int .i64 (0)), (.slice none 0 0)] rfl bz rfl rfl rfl rfl rfl fun w h => ae (ak iF rfl) (fw h 5 [(.int .i64 (a.op)), (.int .i64 (0)), (.int .i64 (0)), (.int .i64 (0)), (.slice none 0 0)] rfl bz rfl rfl rfl rfl rfl fun w h => ah (aA (az ?_)))))
 exact bS ((bO a.op).2.2.2, 0, 0, 0, 0) ⟨h.cn _, hs⟩
 refine aG (aA (az ?_))
 exact bS ((bO a.op).2.2.2, 0, a.a, a.b, 0) ⟨h.cn _, hs⟩
 refine ai (ag (ae (bH rfl rfl) (ae (aj (v := (.bool (decide ((a.op : Int) = 8)))) rfl) (ah (aa (aK hs rfl (fun c66 hs => ?_) (fun c66 hs => ?_)))))))
 refine aG (az ?_)
 exact bS (decide ((a.op : Int) = 8)) ⟨h.cn _, hs⟩
 refine ai (ag (ae (bH rfl rfl) (ae (aj (v := (.bool (decide ((a.op : Int) = 9)))) rfl) (ah (aa (aK hs rfl (fun c67 hs => ?_) (fun c67 hs => ?_)))))))
 refine aG (az ?_)
 exact bS (decide ((a.op : Int) = 9)) ⟨h.cn _, hs⟩
 refine ag (ae (bH rfl rfl) (ae (aj (v := (.bool (decide ((a.op : Int) = 11)))) rfl) (ah (az ?_))))
 exact bS (decide ((a.op : Int) = 11)) ⟨h.cn _, hs⟩
 refine ai (ag (ae (bH rfl rfl) (ae (aj (v := (.bool (decide ((a.op : Int) = 12)))) rfl) (ah (aa (aK hs rfl (fun c68 hs => ?_) (fun c68 hs => ?_)))))))
 refine aG (az ?_)
 exact bS (decide ((a.op : Int) = 12)) ⟨h.cn _, hs⟩
 refine ag (ae (bH rfl rfl) (ae (aj (v := (.bool (decide ((a.op : Int) = 13)))) rfl) (ah (az ?_))))
 exact bS (decide ((a.op : Int) = 13)) ⟨h.cn _, hs⟩
 refine ai (ag (ae (bH rfl rfl) (ae (aj (v := (.bool (decide ((a.op : Int) = 4)))) rfl) (ah (aa (aK hs rfl (fun O7 hs => ?_) (fun O7 hs => ?_)))))))
 refine aG (az ?_)
 exact bS (decide ((a.op : Int) = 4)) ⟨h.cn _, hs⟩
 refine ag (ae (bH rfl rfl) (ae (aj (v := (.bool (decide ((a.op : Int) = 6)))) rfl) (ah (az ?_))))
 exact bS (decide ((a.op : Int) = 6)) ⟨h.cn _, hs⟩
def fK (a : List cz) (BN : cz) (i35 : Int) (rV : Ins) (s : Unit) (JM : Unit → Option Int) : Option Int :=
  (gJ rV i35 a BN.regs (BN.code.length : Int)).bind fun Hf => bif decide ((Hf : Int) ≠ 0) then some Hf else JM ()
def mF (BN : cz) (kR : Unit → Option Int) (s : Unit) : Option Int :=
  gQ (jB ((BN.code.length : Int) - 1)) ((idx BN.code ((BN.code.length : Int) - 1)).bind fun x54 => bif (decide ((x54.op : Int) ≠ 8) && decide ((x54.op : Int) ≠ 12)) then some 4 else kR ())
def jD (a : List cz) (BN : cz) (s : Unit) (kR : Unit → Option Int) : Option Int :=
  eO (fK a BN) (mF BN kR) 0 BN.code ()
def mG (s : Unit) : Option Int :=
  some 0
def iE (i3 : Int) (x4 : cz) (s : Unit) (EX : Unit → Option Int) : Option Int :=
  bif (((((decide ((x4.params : Int) < 0) || decide ((3 : Int) < x4.params)) || decide ((x4.regs : Int) < 1)) || decide ((x4.regs : Int) < x4.params)) || decide ((40 : Int) < x4.regs)) || (decide ((i3 : Int) = 0) && decide ((0 : Int) < x4.params))) then some 3 else bif (decide (((x4.code.length : Int) : Int) = 0) || decide ((2000 : Int) < (x4.code.length : Int))) then some 2 else EX ()
def kV (a : List cz) (s : Unit) : Option Int :=
  each (jD a) mG a ()
def pE (a : List cz) : Option Int :=
  bif (decide (((a.length : Int) : Int) = 0) || decide ((4 : Int) < (a.length : Int))) then some 2 else eO iE (kV a) 0 a ()
theorem CQ (w0 : World) (M : BS) (hM : ∀ b, M b → b < w0.heap.size) (va : Value) (a : List cz) (ha : gp j4 w0 BE M va a) (r : Int) (hs : pE a = some r) :
    Calls Tryz.prog 63 #[va] w0 (fun e w' => Grow w0 w' ∧ e = .returned (.int .i64 r)) := by
 refine aQ (args := [va]) Tryz.func63 rfl Tryz.ntmps63 (Nat.le_of_ble_eq_true rfl) ?_
 have h := SH.init hM
 replace h := h.fC 1 ha bJ
 have uu := ha.bZ
 refine ai (ag (ae (aj (v := (.int .i64 (0))) rfl) (ah (aa (ai (ai (ag (ae (au (v := va) rfl) (ae (bU jq rfl (h.iw 1 rfl)) (ae (bH rfl rfl) (ae (au (v := (.bool (decide (((a.length : Int) : Int) = 0)))) rfl) (aD rfl rfl (fun q => au (v := va) rfl) (aD rfl rfl (fun q => bU jq (dx q) (h.iw 1 rfl)) (aD rfl rfl (fun q => jA (dx q) rfl) (ae (gK rfl rfl lQ) (ah (aa (aK hs rfl (fun c1 hs => ?_) (fun c1 hs => ?_)))))))))))))))))))
 refine ai (ag (ae (aj (v := (.int .i64 (2))) rfl) (ah (aa (aI (aC (bV (v := (.int .i64 (2))) Tryz.results63 rfl ?_)))))))
 obtain rfl := Option.some.inj hs
 exact ⟨h.grown, rfl⟩
 refine aG (aa (ai (ai (ag (ae (au (v := va) rfl) (ae (bU jq rfl (h.iw 1 rfl)) (ae (au (v := (.int .i64 (0))) rfl) (ah (aa (aT (gL (σ := Nat × Int) (inl [2, 3, 4, 21, 22, 23, 24, 25, 26, 27, 28, 29, 30, 31, 32, 33, 34, 35, 36, 37, 38, 39, 40, 41, 42, 43, 44, 45, 46, 47, 48, 49, 50, 51, 52, 53, 54, 55, 56, 57, 58, 59, 60, 61, 62, 63, 64, 65, 66, 67, 68, 69, 70]) (fun ⟨k2, i3⟩ => [(21, (.int .i64 (i3)))]) (fun ⟨k2, i3⟩ w => SH w0 M BE w (hset [(1, .sr j4 va a)]) ∧ i3 = (k2 : Int) ∧ eO iE (kV a) i3 (a.drop k2) () = some r) (fun ⟨k2, i3⟩ => a.length - k2) ⟨0, 0⟩ ⟨rfl, trivial⟩ ?_ ?_)))))))))))
 exact ⟨h.cn _, rfl, hs⟩
 rintro ⟨k2, i3⟩ w dD ⟨h, hik, hs⟩
 refine ai (ag ?_)
 refine ae (dS rfl rfl) (ah (aa ?_))
 refine ai (iy rfl (fun e7 => ?_) (fun e7 => ?_))
 refine aG (aa ?_)
 obtain ⟨x4, We, Wh⟩ := gy (hik ▸ e7)
 rw [Wh, iG] at hs
 generalize FW : eO iE (kV a) (i3 + 1) (a.drop (k2 + 1)) = EX at hs
 have Q3 := gD ((h.iw 1 rfl)).bZ hik e7
 refine ai (aT (ai (ag (ae (au (v := (.int .i64 (i3))) rfl) ?_))))
 obtain ⟨b10, o11, Wi, h, Wj, i9⟩ := h.yE 1 2 rfl jq rfl (iQ hik) (gB hik We)
 obtain ⟨Ii, rfl, g15⟩ := nz Wj
 replace h := h.cO 3 g15.up
 refine ae (i9 _ _ _ _ _ _ _ _ _ rfl rfl) (ae (ji (k := 0) (vs := [(.int .i64 (x4.params)), (.int .i64 (x4.regs)), Ii]) h 2 rfl uS rfl rfl rfl (Nat.le_of_ble_eq_true rfl)) (bW h 4 uS fun w b16 h => ae (aj (v := (.int .i64 (i3))) rfl) (dA (vs := [(.int .i64 (x4.params)), (.int .i64 (x4.regs)), Ii]) h 4 [(.int .i64 (x4.params)), (.int .i64 (x4.regs)), Ii] rfl uS rfl rfl rfl rfl rfl (ax rfl (ax rfl (ax (h.gF 3 rfl).one bu))) fun w h => ah (aa (ai (ai (ag (ae (ak CB rfl) (ae (aF h 4 rfl bz rfl rfl) (ae (dS rfl rfl) (ae (au (v := (.bool (decide ((x4.params : Int) < 0)))) rfl) (aD rfl rfl (fun q => ak CB rfl) (aD rfl rfl (fun q => aF h 4 rfl bz (dx q) rfl) (aD rfl rfl (fun q => jA (dx q) rfl) (ae (gK rfl rfl lQ) (ae (au (v := (.bool ((decide ((x4.params : Int) < 0) || decide ((3 : Int) < x4.params))))) rfl) (aD rfl rfl (fun q => ak yP rfl) (aD rfl rfl (fun q => aF h 4 rfl bz (dx q) rfl) (aD rfl rfl (fun q => dS (dx q) rfl) (ae (gK rfl rfl lQ) (ae (au (v := (.bool (((decide ((x4.params : Int) < 0) || decide ((3 : Int) < x4.params)) || decide ((x4.regs : Int) < 1))))) rfl) ?_)))))))))))))))))))))
 refine aD rfl rfl (fun q => ak yP rfl) (aD rfl rfl (fun q => aF h 4 rfl bz (dx q) rfl) (aD rfl rfl (fun q => ak CB rfl) (aD rfl rfl (fun q => aF h 4 rfl bz (dx q) rfl) (aD rfl rfl (fun q => dS (dx q) (dx q)) (ae (gK rfl rfl lQ) (ae (au (v := (.bool ((((decide ((x4.params : Int) < 0) || decide ((3 : Int) < x4.params)) || decide ((x4.regs : Int) < 1)) || decide ((x4.regs : Int) < x4.params))))) rfl) (aD rfl rfl (fun q => ak yP rfl) (aD rfl rfl (fun q => aF h 4 rfl bz (dx q) rfl) (aD rfl rfl (fun q => jA (dx q) rfl) (ae (gK rfl rfl lQ) (ae (au (v := (.bool (((((decide ((x4.params : Int) < 0) || decide ((3 : Int) < x4.params)) || decide ((x4.regs : Int) < 1)) || decide ((x4.regs : Int) < x4.params)) || decide ((40 : Int) < x4.regs))))) rfl) (aD rfl rfl (fun q => au (v := (.int .i64 (i3))) rfl) (aD rfl rfl (fun q => bH (dx q) rfl) (aD rfl rfl (fun q => au (v := (.bool (decide ((i3 : Int) = 0)))) (dx q)) (lN (((((decide ((x4.params : Int) < 0) || decide ((3 : Int) < x4.params)) || decide ((x4.regs : Int) < 1)) || decide ((x4.regs : Int) < x4.params)) || decide ((40 : Int) < x4.regs)) == false) rfl rfl (fun q => ak CB rfl) (lN (((((decide ((x4.params : Int) < 0) || decide ((3 : Int) < x4.params)) || decide ((x4.regs : Int) < 1)) || decide ((x4.regs : Int) < x4.params)) || decide ((40 : Int) < x4.regs)) == false) rfl rfl (fun q => aF h 4 rfl bz (dx q) rfl) (lN (((((decide ((x4.params : Int) < 0) || decide ((3 : Int) < x4.params)) || decide ((x4.regs : Int) < 1)) || decide ((x4.regs : Int) < x4.params)) || decide ((40 : Int) < x4.regs)) == false) rfl rfl (fun q => jA (dx q) rfl) (aD rfl rfl (fun q => fT (dx q) (PZ q) lQ) (ae (gK rfl rfl lQ) (ah (aa (aK hs rfl (fun c17 hs => ?_) (fun c17 hs => ?_)))))))))))))))))))))))
 refine ai (ag (ae (aj (v := (.int .i64 (3))) rfl) (ah (aa (aI (aC (aH (aC (aC (aH (aC (bV (v := (.int .i64 (3))) Tryz.results63 rfl ?_))))))))))))
 obtain rfl := Option.some.inj hs
 exact ⟨h.grown, rfl⟩
 refine aG (aa (ai (ag (ae (ak qM rfl) (ae (aF h 4 rfl zq rfl rfl) (ae (bU jf rfl (h.lY 3 rfl)) (ae (bH rfl rfl) (ae (au (v := (.bool (decide (((x4.code.length : Int) : Int) = 0)))) rfl) (aD rfl rfl (fun q => ak qM rfl) (aD rfl rfl (fun q => aF h 4 rfl zq (dx q) rfl) (aD rfl rfl (fun q => bU jf (dx q) (h.lY 3 rfl)) (aD rfl rfl (fun q => jA (dx q) rfl) (ae (gK rfl rfl lQ) (ah (aa (aK hs rfl (fun c18 hs => ?_) (fun c18 hs => ?_)))))))))))))))))
 refine ai (ag (ae (aj (v := (.int .i64 (2))) rfl) (ah (aa (aI (aH (aC (aC (aH (aC (bV (v := (.int .i64 (2))) Tryz.results63 rfl ?_)))))))))))
 obtain rfl := Option.some.inj hs
 exact ⟨h.grown, rfl⟩
 refine aG (aA (aa (ag (ae (dC rfl rfl Q3) (ae (au (v := (.int .i64 ((i3 + 1)))) rfl) (ah (az ?_)))))))
 subst FW
 exact jN ⟨k2 + 1, i3 + 1⟩ ⟨h.cn _, by omega, hs⟩ (by have := of_decide_eq_true e7; dsimp only; omega)
 rw [gz (hik ▸ e7), mh] at hs
 refine df (aO (aO (bF (aa (ai (ai (ag (ae (au (v := va) rfl) (ae (bU jq rfl (h.iw 1 rfl)) (ae (au (v := (.int .i64 (0))) rfl) (ah (aa (aT (gL (σ := Nat × Int) (inl [2, 6, 7, 8, 9, 10, 73, 74, 75, 76, 77, 78, 79, 80, 81, 82, 83, 84, 85, 86, 87, 88, 89, 90, 91, 92, 93, 94, 95, 96, 97, 98, 99, 100, 101, 102, 103, 104, 105, 106, 107, 108, 109, 110, 111, 112, 113]) (fun ⟨k19, i20⟩ => [(73, (.int .i64 (i20)))]) (fun ⟨k19, i20⟩ w => SH w0 M BE w (hset [(1, .sr j4 va a)]) ∧ i20 = (k19 : Int) ∧ each (jD a) mG (a.drop k19) () = some r) (fun ⟨k19, i20⟩ => a.length - k19) ⟨0, 0⟩ ⟨rfl, trivial⟩ ?_ ?_))))))))))))))
 exact ⟨h.cn _, rfl, hs⟩
 rintro ⟨k19, i20⟩ w dD ⟨h, hik, hs⟩
 refine ai (ag ?_)
 refine ae (dS rfl rfl) (ah (aa ?_))
 refine ai (iy rfl (fun e24 => ?_) (fun e24 => ?_))
 refine aG (aa ?_)
 obtain ⟨BN, e25a, e25b⟩ := gy (hik ▸ e24)
 rw [e25b, dP] at hs
 generalize Rv : each (jD a) mG (a.drop (k19 + 1)) = kR at hs
 have e25r := gD ((h.iw 1 rfl)).bZ hik e24
 refine ai (aT (ai (ag ?_)))
 obtain ⟨b27, o28, cs29, h, WR, i26⟩ := h.yE 1 5 rfl jq rfl (iQ hik) (gB hik e25a)
 obtain ⟨u31, rfl, Zd⟩ := nz WR
 replace h := h.cO 6 Zd.up
 refine ae (i26 _ _ _ _ _ _ _ _ _ rfl rfl) (ae (ji (k := 0) (vs := [(.int .i64 (BN.params)), (.int .i64 (BN.regs)), u31]) h 5 rfl uS rfl rfl rfl (Nat.le_of_ble_eq_true rfl)) (bW h 7 uS fun w Wt h => dA (vs := [(.int .i64 (BN.params)), (.int .i64 (BN.regs)), u31]) h 7 [(.int .i64 (BN.params)), (.int .i64 (BN.regs)), u31] rfl uS rfl rfl rfl rfl rfl (ax rfl (ax rfl (ax (h.gF 6 rfl).one bu))) fun w h => ah (aa (ai (ai (ag (ae (ak qM rfl) (ae (aF h 7 rfl zq rfl rfl) (ae (bU jf rfl (h.lY 6 rfl)) (ae (au (v := (.int .i64 (0))) rfl) (ah (aa (aT (gL (σ := Nat × Int) (inl [2, 7, 8, 9, 80, 81, 82, 83, 84, 85, 86, 87, 88, 89, 90, 91, 92, 93, 94, 95, 96, 97]) (fun ⟨KS, i35⟩ => [(80, (.int .i64 (i35)))]) (fun ⟨KS, i35⟩ w => SH w0 M BE w (hset [(1, .sr j4 va a), (6, .rd jk u31 BN.code), (7, .blk Wt [(.int .i64 (BN.params)), (.int .i64 (BN.regs)), u31])]) ∧ i35 = (KS : Int) ∧ eO (fK a BN) (mF BN kR) i35 (BN.code.drop KS) () = some r) (fun ⟨KS, i35⟩ => BN.code.length - KS) ⟨0, 0⟩ ⟨rfl, trivial⟩ ?_ ?_))))))))))))))
 exact ⟨h.cn _, rfl, hs⟩
 rintro ⟨KS, i35⟩ w dD ⟨h, hik, hs⟩
 refine ai (ag ?_)
 refine ae (dS rfl rfl) (ah (aa ?_))
 refine ai (iy rfl (fun e39 => ?_) (fun e39 => ?_))
 refine aG (aa ?_)
 obtain ⟨rV, WS, WT⟩ := gy (hik ▸ e39)
 rw [WT, iG] at hs
 generalize RI : eO (fK a BN) (mF BN kR) (i35 + 1) (BN.code.drop (KS + 1)) = JM at hs
 have WU := gD ((h.lY 6 rfl)).bZ hik e39
 refine ai (aT (ai (ag (ae (au (v := (.int .i64 (i35))) rfl) ?_))))
 obtain ⟨b42, o43, cs44, h, r45, i41⟩ := h.Dl 6 8 rfl jf rfl (iQ hik) (gB hik WS)
 obtain ⟨u46, rfl, g47⟩ := Az r45
 replace h := h.cO 9 g47.up
 refine ae (i41 _ _ _ _ _ _ _ _ _ rfl rfl) (ae (ji (k := 0) (vs := [(.int .i64 (rV.op)), (.int .i64 (rV.a)), (.int .i64 (rV.b)), (.int .i64 (rV.c)), u46]) h 8 rfl oW rfl rfl rfl (Nat.le_of_ble_eq_true rfl)) (bW h 10 oW fun w b48 h => ae (aj (v := (.int .i64 (i35))) rfl) (dA (vs := [(.int .i64 (rV.op)), (.int .i64 (rV.a)), (.int .i64 (rV.b)), (.int .i64 (rV.c)), u46]) h 10 [(.int .i64 (rV.op)), (.int .i64 (rV.a)), (.int .i64 (rV.b)), (.int .i64 (rV.c)), u46] rfl oW rfl rfl rfl rfl rfl (ax rfl (ax rfl (ax rfl (ax rfl (ax (h.gF 9 rfl).one bu))))) fun w h => ah (aa (ai (ag (ae (dz (vs := [(.int .i64 (rV.op)), (.int .i64 (rV.a)), (.int .i64 (rV.b)), (.int .i64 (rV.c)), u46]) h 10 rfl oW rfl rfl rfl) (ae (au (v := (.int .i64 (i35))) rfl) (ae (au (v := va) rfl) (ae (ak yP rfl) (ae (aF h 7 rfl bz rfl rfl) (ae (ak qM rfl) (ae (aF h 7 rfl zq rfl rfl) (ae (bU jf rfl (h.lY 6 rfl)) ?_))))))))))))))
 obtain ⟨Hf, e50, hs⟩ := aP hs
 refine bA V8 rfl rfl (JK _ _ h.lt rV u46 (h.lY 9 rfl) i35 va a (h.iw 1 rfl) BN.regs (BN.code.length : Int) _ e50) ?_
 rintro _ w ⟨k51, rfl⟩
 refine ⟨_, rfl, ?_⟩
 replace h := h.grow k51
 refine ae (aj (v := (.int .i64 (Hf))) rfl) (ah (aa (ai (ag (ae (au (v := (.int .i64 (Hf))) rfl) (ae (iA rfl rfl) (ah (aa (aK hs rfl (fun BB hs => ?_) (fun BB hs => ?_))))))))))
 refine ai (ag (ae (au (v := (.int .i64 (Hf))) rfl) (ae (aj (v := (.int .i64 (Hf))) rfl) (ah (aa (aI (aH (aC (aC (aH (aC (aH (aC (aC (aH (aC (bV (v := (.int .i64 (Hf))) Tryz.results63 rfl ?_)))))))))))))))))
 obtain rfl := Option.some.inj hs
 exact ⟨h.grown, rfl⟩
 refine aG (aA (aa (ag (ae (dC rfl rfl WU) (ae (au (v := (.int .i64 ((i35 + 1)))) rfl) (ah (az ?_)))))))
 subst RI
 exact jN ⟨KS + 1, i35 + 1⟩ ⟨h.cn _, by omega, hs⟩ (by have := of_decide_eq_true e39; dsimp only; omega)
 rw [gz (hik ▸ e39), mh] at hs
 refine df (aO (aO (bF (aa (ai (ag (ae (ak qM rfl) (ae (aF h 7 rfl zq rfl rfl) (ae (ak qM rfl) (ae (aF h 7 rfl zq rfl rfl) (ae (bU jf rfl (h.lY 6 rfl)) ?_)))))))))))
 obtain ⟨a53, hs⟩ := bI hs
 refine ae (nW rfl rfl a53) ?_
 obtain ⟨x54, e55, hs⟩ := aP hs
 obtain ⟨b57, o58, Za, h, Zb, i56⟩ := h.Dl 6 11 rfl jf rfl (aJ e55).1 (aJ e55).2
 obtain ⟨u61, rfl, Zc⟩ := Az Zb
 replace h := h.cO 12 Zc.up
 refine ae (i56 _ _ _ _ _ _ _ _ _ rfl rfl) (ae (ak oN rfl) (ae (ek (k := 0) h 11 rfl bz rfl rfl) (ae (aj (v := (.int .i64 (x54.op))) rfl) (ah (aa (ai (ag (ae (au (v := (.int .i64 (x54.op))) rfl) (ae (iA rfl rfl) (ae (au (v := (.bool (decide ((x54.op : Int) ≠ 8)))) rfl) (aD rfl rfl (fun q => au (v := (.int .i64 (x54.op))) rfl) (aD rfl rfl (fun q => iA (dx q) rfl) (ae (fT rfl rfl lQ) (ah (aa (aK hs rfl (fun c63 hs => ?_) (fun c63 hs => ?_)))))))))))))))))
 refine ai (ag (ae (aj (v := (.int .i64 (4))) rfl) (ah (aa (aI (aH (aC (aC (aH (aC (bV (v := (.int .i64 (4))) Tryz.results63 rfl ?_)))))))))))
 obtain rfl := Option.some.inj hs
 exact ⟨h.grown, rfl⟩
 refine aG (aA (aa (ag (ae (dC rfl rfl e25r) (ae (au (v := (.int .i64 ((i20 + 1)))) rfl) (ah (az ?_)))))))
 subst Rv
 exact jN ⟨k19 + 1, i20 + 1⟩ ⟨h.cn _, by omega, hs⟩ (by have := of_decide_eq_true e24; dsimp only; omega)
 rw [gz (hik ▸ e24), gU] at hs
 refine df (aO (aO (bF (aa (ai (ag (ae (aj (v := (.int .i64 (0))) rfl) (ah (aa (aI (bV (v := (.int .i64 (0))) Tryz.results63 rfl ?_)))))))))))
 obtain rfl := Option.some.inj hs
 exact ⟨h.grown, rfl⟩
def RJ (a : List cz) : Option (LX.State × Int) :=
  (pE a).bind fun y2 => bif decide ((y2 : Int) ≠ 0) then some ((⟨[], [], 0, 0⟩ : LX.State), y2) else (idx a 0).bind fun x6 => gQ (0 ≤ x6.regs ∧ x6.regs * 16 ≤ 140737488355328) (some ((⟨[(⟨0, 0, (List.replicate x6.regs.toNat (⟨0, 0⟩ : Val)), 0⟩ : LX.Frame)], [], 0, 0⟩ : LX.State), 0))
theorem RL (w0 : World) (M : BS) (hM : ∀ b, M b → b < w0.heap.size) (va : Value) (a : List cz) (ha : gp j4 w0 BE M va a) (r : LX.State × Int) (hs : RJ a = some r) :
    Calls Tryz.prog 29 #[va] w0 (fun e w' => Grow w0 w' ∧ ∃ wm, ∃ zC, e = .returned (.tuple #[.agg #[wm, zC, .int .i64 r.1.status, .int .i64 r.1.aV], .int .i64 r.2]) ∧ fo gu w' M wm r.1.frames ∧ fo (qV aL) w' M zC r.1.cells) := by
 refine aQ (args := [va]) Tryz.func29 rfl Tryz.ntmps29 (Nat.le_of_ble_eq_true rfl) ?_
 have h := SH.init hM
 replace h := h.fC 1 ha bJ
 have uu := ha.bZ
 refine ai (ag (bW h 2 cZ fun w b1 h => ae (aj (v := (.int .i64 (0))) rfl) (ah (aa (ai (ai (ag (ae (au (v := va) rfl) ?_))))))))
 obtain ⟨y2, e3, hs⟩ := aP hs
 refine bA QQ rfl rfl (CQ _ _ h.lt va a (h.iw 1 rfl) _ e3) ?_
 rintro _ w ⟨k4, rfl⟩
 refine ⟨_, rfl, ?_⟩
 replace h := h.grow k4
 refine ae (aj (v := (.int .i64 (y2))) rfl) (ah (aa (ai (ag (ae (au (v := (.int .i64 (y2))) rfl) (ae (iA rfl rfl) (ah (aa (aK hs rfl (fun c5 hs => ?_) (fun c5 hs => ?_))))))))))
 refine ai (ag (ae (dO (pv := []) (out := [(.slice none 0 0), (.slice none 0 0), (.int .i64 (0)), (.int .i64 (0))]) vV rfl rfl) (ae (au (v := (.int .i64 (y2))) rfl) (dA (vs := [(.slice none 0 0), (.slice none 0 0), (.int .i64 (0)), (.int .i64 (0))]) h 2 [(.slice none 0 0), (.slice none 0 0), (.int .i64 (0)), (.int .i64 (0))] rfl cZ rfl rfl rfl rfl rfl (ax rfl (ax rfl (ax rfl (ax rfl bu)))) fun w h => ae (aj (v := (.int .i64 (y2))) rfl) (ah (aa (aI (aC (jO (vs := [(.slice none 0 0), (.slice none 0 0), (.int .i64 (0)), (.int .i64 (0))]) (v2 := (.int .i64 (y2))) Tryz.results29 rfl rfl h 2 rfl cZ rfl ?_)))))))))
 obtain rfl := Option.some.inj hs
 exact ⟨h.grown, _, _, rfl, gp.nil, gp.nil⟩
 refine aG (aa (ai (ag (ae (au (v := va) rfl) ?_))))
 obtain ⟨x6, e7, hs⟩ := aP hs
 obtain ⟨b9, o10, cs11, h, YE, i8⟩ := h.yE 1 3 rfl jq rfl (aJ e7).1 (aJ e7).2
 obtain ⟨LA, rfl, g14⟩ := nz YE
 replace h := h.cO 4 g14.up
 refine ae (i8 _ _ _ _ _ _ _ _ _ rfl rfl) (ae (ak yP rfl) (ae (ek (k := 1) h 3 rfl bz rfl rfl) ?_))
 obtain ⟨a16, hs⟩ := bI hs
 refine xC (R := aL) (zs := [(.int .i64 (0)), (.int .i64 (0))]) (a := (⟨0, 0⟩ : Val)) h 5 uj bT rfl (by decide) rfl rfl a16 rfl (fun _ _ => rfl) fun w EY h u15k u15f => ae (dO (pv := [(2, EY)]) (out := [(.int .i64 (0)), (.int .i64 (0)), EY, (.int .i64 (0))]) FV rfl ⟨2, 1, [EY], rfl, (iT (h.dG 5 rfl).one), rfl, Nat.le_of_ble_eq_true rfl, rfl⟩) ?_
 replace h := h.freeze 5 rfl
 refine sZ (R := gu) (vs := [(.agg #[(.int .i64 (0)), (.int .i64 (0)), EY, (.int .i64 (0))])]) (xs := [(⟨0, 0, (List.replicate x6.regs.toNat (⟨0, 0⟩ : Val)), 0⟩ : LX.Frame)]) h 6 oV rfl rfl rfl ⟨⟨_, rfl, (h.gF 5 rfl)⟩, trivial⟩ rfl fun w Fj h => ae (dO (pv := [(0, Fj)]) (out := [Fj, (.slice none 0 0), (.int .i64 (0)), (.int .i64 (0))]) vV rfl ⟨0, 1, [Fj], rfl, (iT (h.dG 6 rfl).one), rfl, Nat.le_of_ble_eq_true rfl, rfl⟩) (dA (vs := [Fj, (.slice none 0 0), (.int .i64 (0)), (.int .i64 (0))]) h 2 [Fj, (.slice none 0 0), (.int .i64 (0)), (.int .i64 (0))] rfl cZ rfl rfl rfl rfl rfl (ax (h.dG 6 rfl).one (ax rfl (ax rfl (ax rfl bu)))) fun w h => ae (aj (v := (.int .i64 (0))) rfl) (ah (aa (aI (jO (vs := [Fj, (.slice none 0 0), (.int .i64 (0)), (.int .i64 (0))]) (v2 := (.int .i64 (0))) Tryz.results29 rfl rfl h 2 rfl cZ rfl ?_)))))
 replace h := h.freeze 6 rfl
 obtain rfl := Option.some.inj hs
 exact ⟨h.grown, _, _, rfl, h.Qj 6 rfl, gp.nil⟩
def cK (a : Val) (b : Int) : Int :=
  bif decide ((a.kind : Int) = 0) then bif decide ((a.n : Int) ≠ 0) then 4 else 0 else bif decide ((a.kind : Int) = 1) then bif (decide ((a.n : Int) < -1000000000) || decide ((1000000000 : Int) < a.n)) then 3 else 0 else bif decide ((a.kind : Int) = 2) then bif (decide ((a.n : Int) < 0) || decide ((b : Int) ≤ a.n)) then 5 else 0 else 4
theorem yZ (w0 : World) (M : BS) (hM : ∀ b, M b → b < w0.heap.size) (a : Val) (b : Int) (r : Int) (hs : cK a b = r) :
    Calls Tryz.prog 81 #[(.agg #[(.int .i64 (a.kind)), (.int .i64 (a.n))]), (.int .i64 (b))] w0 (fun e w' => Grow w0 w' ∧ e = .returned (.int .i64 r)) := by
 refine aQ (args := [(.agg #[(.int .i64 (a.kind)), (.int .i64 (a.n))]), (.int .i64 (b))]) Tryz.func81 rfl Tryz.ntmps81 (Nat.le_of_ble_eq_true rfl) ?_
 have h := SH.init hM
 refine ai (ag (nX (cs := [(.int .i64 (a.kind)), (.int .i64 (a.n))]) h 1 rfl rfl fun w b1 h => ae (aj (v := (.int .i64 (0))) rfl) (ah (aa (ai (ai (ag (ae (ak rR rfl) (ae (aF h 1 rfl bz rfl rfl) (ah (aa (aT (ai (ag (ae (bH rfl rfl) (ae (aj (v := (.bool (decide ((a.kind : Int) = 0)))) rfl) (ah (aa (aK hs rfl (fun c2 hs => ?_) (fun c2 hs => ?_))))))))))))))))))))
 refine ai (ag (ae (ak ik rfl) (ae (aF h 1 rfl bz rfl rfl) (ae (iA rfl rfl) (ah (aa (aK hs rfl (fun c3 hs => ?_) (fun c3 hs => ?_))))))))
 refine ai (ag (ae (aj (v := (.int .i64 (4))) rfl) (ah (aa (aI (aH (aC (bV (v := (.int .i64 (4))) Tryz.results81 rfl ?_))))))))
 obtain rfl := hs
 exact ⟨h.grown, rfl⟩
 refine aG (aA (aa (ai (ag (ae (aj (v := (.int .i64 (0))) rfl) (ah (aa (aI (bV (v := (.int .i64 (0))) Tryz.results81 rfl ?_)))))))))
 obtain rfl := hs
 exact ⟨h.grown, rfl⟩
 refine ai (ag (ae (bH rfl rfl) (ae (aj (v := (.bool (decide ((a.kind : Int) = 1)))) rfl) (ah (aa (aK hs rfl (fun c4 hs => ?_) (fun c4 hs => ?_)))))))
 refine ai (ag (ae (ak ik rfl) (ae (aF h 1 rfl bz rfl rfl) (ae (dS rfl rfl) (ae (au (v := (.bool (decide ((a.n : Int) < -1000000000)))) rfl) (aD rfl rfl (fun q => ak ik rfl) (aD rfl rfl (fun q => aF h 1 rfl bz (dx q) rfl) (aD rfl rfl (fun q => jA (dx q) rfl) (ae (gK rfl rfl lQ) (ah (aa (aK hs rfl (fun c5 hs => ?_) (fun c5 hs => ?_)))))))))))))
 refine ai (ag (ae (aj (v := (.int .i64 (3))) rfl) (ah (aa (aI (aH (aC (bV (v := (.int .i64 (3))) Tryz.results81 rfl ?_))))))))
 obtain rfl := hs
 exact ⟨h.grown, rfl⟩
 refine aG (aA (aa (ai (ag (ae (aj (v := (.int .i64 (0))) rfl) (ah (aa (aI (bV (v := (.int .i64 (0))) Tryz.results81 rfl ?_)))))))))
 obtain rfl := hs
 exact ⟨h.grown, rfl⟩
 refine ai (ag (ae (bH rfl rfl) (ae (aj (v := (.bool (decide ((a.kind : Int) = 2)))) rfl) (ah (aa (aK hs rfl (fun c6 hs => ?_) (fun c6 hs => ?_)))))))
 refine ai (ag (ae (ak ik rfl) (ae (aF h 1 rfl bz rfl rfl) (ae (dS rfl rfl) (ae (au (v := (.bool (decide ((a.n : Int) < 0)))) rfl) (aD rfl rfl (fun q => ak ik rfl) (aD rfl rfl (fun q => aF h 1 rfl bz (dx q) rfl) (aD rfl rfl (fun q => au (v := (.int .i64 (b))) rfl) (aD rfl rfl (fun q => oI (dx q) (dx q)) (ae (gK rfl rfl lQ) (ah (aa (aK hs rfl (fun c7 hs => ?_) (fun c7 hs => ?_))))))))))))))
 refine ai (ag (ae (aj (v := (.int .i64 (5))) rfl) (ah (aa (aI (aH (aC (bV (v := (.int .i64 (5))) Tryz.results81 rfl ?_))))))))
 obtain rfl := hs
 exact ⟨h.grown, rfl⟩
 refine aG (aA (aa (ai (ag (ae (aj (v := (.int .i64 (0))) rfl) (ah (aa (aI (bV (v := (.int .i64 (0))) Tryz.results81 rfl ?_)))))))))
 obtain rfl := hs
 exact ⟨h.grown, rfl⟩
 refine ai (ag (ae (aj (v := (.int .i64 (4))) rfl) (ah (aa (aI (aH (aC (bV (v := (.int .i64 (4))) Tryz.results81 rfl ?_))))))))
 obtain rfl := hs
 exact ⟨h.grown, rfl⟩
def gM (a : List (List Val)) (y5 : Val) (s : Unit) (QZ : Unit → Int) : Int :=
  bif decide (((cK y5 (a.length : Int)) : Int) ≠ 0) then (cK y5 (a.length : Int)) else QZ ()
def fQ (EX : Unit → Int) (s : Unit) : Int :=
  EX ()
def iC (a : List (List Val)) (x4 : List Val) (s : Unit) (EX : Unit → Int) : Int :=
  bif (decide (((x4.length : Int) : Int) = 0) || decide ((4 : Int) < (x4.length : Int))) then 2 else each (gM a) (fQ EX) x4 ()
def gN (s : Unit) : Int :=
  0
def dE (a : List (List Val)) : Int :=
  bif decide ((24 : Int) < (a.length : Int)) then 2 else each (iC a) gN a ()
theorem zu (w0 : World) (M : BS) (hM : ∀ b, M b → b < w0.heap.size) (va : Value) (a : List (List Val)) (ha : gp (qV aL) w0 BE M va a) (r : Int) (hs : dE a = r) :
    Calls Tryz.prog 80 #[va] w0 (fun e w' => Grow w0 w' ∧ e = .returned (.int .i64 r)) := by
 refine aQ (args := [va]) Tryz.func80 rfl Tryz.ntmps80 (Nat.le_of_ble_eq_true rfl) ?_
 have h := SH.init hM
 replace h := h.fC 1 ha bJ
 have uu := ha.bZ
 refine ai (ag (ae (aj (v := (.int .i64 (0))) rfl) (ah (aa (ai (ai (ag (ae (au (v := va) rfl) (ae (bU eY rfl (h.iw 1 rfl)) (ae (jA rfl rfl) (ah (aa (aK hs rfl (fun c1 hs => ?_) (fun c1 hs => ?_))))))))))))))
 refine ai (ag (ae (aj (v := (.int .i64 (2))) rfl) (ah (aa (aI (aC (bV (v := (.int .i64 (2))) Tryz.results80 rfl ?_)))))))
 obtain rfl := hs
 exact ⟨h.grown, rfl⟩
 refine aG (aa (ai (ai (ag (ae (au (v := va) rfl) (ae (bU eY rfl (h.iw 1 rfl)) (ae (au (v := (.int .i64 (0))) rfl) (ah (aa (aT (gL (σ := Nat × Int) (inl [2, 4, 6, 7, 13, 14, 15, 16, 17, 18, 19, 20, 21, 22, 23, 24, 25, 26, 27, 28, 29, 30, 31, 32, 33, 34, 35, 36, 37, 38, 39]) (fun ⟨k2, i3⟩ => [(13, (.int .i64 (i3)))]) (fun ⟨k2, i3⟩ w => SH w0 M BE w (hset [(1, .sr (qV aL) va a)]) ∧ i3 = (k2 : Int) ∧ each (iC a) gN (a.drop k2) () = r) (fun ⟨k2, i3⟩ => a.length - k2) ⟨0, 0⟩ ⟨rfl, trivial⟩ ?_ ?_)))))))))))
 exact ⟨h.cn _, rfl, hs⟩
 rintro ⟨k2, i3⟩ w dD ⟨h, hik, hs⟩
 refine ai (ag ?_)
 refine ae (dS rfl rfl) (ah (aa ?_))
 refine ai (iy rfl (fun e7 => ?_) (fun e7 => ?_))
 refine aG (aa ?_)
 obtain ⟨x4, We, Wh⟩ := gy (hik ▸ e7)
 rw [Wh, dP] at hs
 generalize FW : each (iC a) gN (a.drop (k2 + 1)) = EX at hs
 have Q3 := gD ((h.iw 1 rfl)).bZ hik e7
 refine ai (aT (ai (ag ?_)))
 obtain ⟨b10, o11, Wi, h, Wj, i9⟩ := h.yE 1 2 rfl eY rfl (iQ hik) (gB hik We)
 obtain ⟨Ii, rfl, g15⟩ := Wj
 replace h := h.cO 3 g15.up
 refine ae (i9 _ _ _ _ _ _ _ _ _ rfl rfl) (ae (ek (k := 0) h 2 rfl mr rfl rfl) (ae (aj (v := Ii) rfl) (ah (aa (ai (ai (ag (ae (au (v := Ii) rfl) (ae (bU bR rfl (h.lY 3 rfl)) (ae (bH rfl rfl) (ae (au (v := (.bool (decide (((x4.length : Int) : Int) = 0)))) rfl) (aD rfl rfl (fun q => au (v := Ii) rfl) (aD rfl rfl (fun q => bU bR (dx q) (h.lY 3 rfl)) (aD rfl rfl (fun q => jA (dx q) rfl) (ae (gK rfl rfl lQ) (ah (aa (aK hs rfl (fun c16 hs => ?_) (fun c16 hs => ?_)))))))))))))))))))
 refine ai (ag (ae (aj (v := (.int .i64 (2))) rfl) (ah (aa (aI (aC (aH (aC (aC (aH (aC (bV (v := (.int .i64 (2))) Tryz.results80 rfl ?_))))))))))))
 obtain rfl := hs
 exact ⟨h.grown, rfl⟩
 refine aG (aa (ai (ag (ae (au (v := Ii) rfl) (ae (bU bR rfl (h.lY 3 rfl)) (ae (au (v := (.int .i64 (0))) rfl) (ah (aa (aT (gL (σ := Nat × Int) (inl [2, 6, 7, 27, 28, 29, 30, 31, 32, 33, 34, 35, 36, 37, 38]) (fun ⟨k17, i18⟩ => [(27, (.int .i64 (i18)))]) (fun ⟨k17, i18⟩ w => SH w0 M BE w (hset [(1, .sr (qV aL) va a), (3, .rd aL Ii x4)]) ∧ i18 = (k17 : Int) ∧ each (gM a) (fQ EX) (x4.drop k17) () = r) (fun ⟨k17, i18⟩ => x4.length - k17) ⟨0, 0⟩ ⟨rfl, trivial⟩ ?_ ?_))))))))))
 exact ⟨h.cn _, rfl, hs⟩
 rintro ⟨k17, i18⟩ w dD ⟨h, hik, hs⟩
 refine ai (ag ?_)
 refine ae (dS rfl rfl) (ah (aa ?_))
 refine ai (iy rfl (fun e22 => ?_) (fun e22 => ?_))
 refine aG (aa ?_)
 obtain ⟨y5, e23a, e23b⟩ := gy (hik ▸ e22)
 rw [e23b, dP] at hs
 generalize Q0 : each (gM a) (fQ EX) (x4.drop (k17 + 1)) = QZ at hs
 have e23r := gD ((h.lY 3 rfl)).bZ hik e22
 refine ai (aT (ai (ag ?_)))
 obtain ⟨b25, o26, cs27, h, r28, i24⟩ := h.Dl 3 4 rfl bR rfl (iQ hik) (gB hik e23a)
 obtain rfl := r28
 refine ae (i24 _ _ _ _ _ _ _ _ _ rfl rfl) (ae (ji (k := 0) (vs := [(.int .i64 (y5.kind)), (.int .i64 (y5.n))]) h 4 rfl bT rfl rfl rfl (Nat.le_of_ble_eq_true rfl)) (bW h 5 bT fun w b29 h => dA (vs := [(.int .i64 (y5.kind)), (.int .i64 (y5.n))]) h 5 [(.int .i64 (y5.kind)), (.int .i64 (y5.n))] rfl bT rfl rfl rfl rfl rfl (ax rfl (ax rfl bu)) fun w h => ah (aa (ai (ag (ae (dz (vs := [(.int .i64 (y5.kind)), (.int .i64 (y5.n))]) h 5 rfl bT rfl rfl rfl) (ae (au (v := va) rfl) (ae (bU eY rfl (h.iw 1 rfl)) (bA L8 rfl rfl (yZ _ _ h.lt y5 (a.length : Int) _ rfl) ?_)))))))))
 rintro _ w ⟨YF, rfl⟩
 refine ⟨_, rfl, ?_⟩
 replace h := h.grow YF
 refine ae (aj (v := (.int .i64 ((cK y5 (a.length : Int))))) rfl) (ah (aa (ai (ag (ae (au (v := (.int .i64 ((cK y5 (a.length : Int))))) rfl) (ae (iA rfl rfl) (ah (aa (aK hs rfl (fun c31 hs => ?_) (fun c31 hs => ?_))))))))))
 refine ai (ag (ae (au (v := (.int .i64 ((cK y5 (a.length : Int))))) rfl) (ae (aj (v := (.int .i64 ((cK y5 (a.length : Int))))) rfl) (ah (aa (aI (aH (aC (aC (aH (aH (aC (aC (aH (aC (bV (v := (.int .i64 ((cK y5 (a.length : Int))))) Tryz.results80 rfl ?_))))))))))))))))
 obtain rfl := hs
 exact ⟨h.grown, rfl⟩
 refine aG (aA (aa (ag (ae (dC rfl rfl e23r) (ae (au (v := (.int .i64 ((i18 + 1)))) rfl) (ah (az ?_)))))))
 subst Q0
 exact jN ⟨k17 + 1, i18 + 1⟩ ⟨h.cn _, by omega, hs⟩ (by have := of_decide_eq_true e22; dsimp only; omega)
 rw [gz (hik ▸ e22), gU] at hs
 refine df (aO (aO (bF (aA (aa (ag (ae (dC rfl rfl Q3) (ae (au (v := (.int .i64 ((i3 + 1)))) rfl) (ah (az ?_))))))))))
 subst FW
 exact jN ⟨k2 + 1, i3 + 1⟩ ⟨h.cn _, by omega, hs⟩ (by have := of_decide_eq_true e7; dsimp only; omega)
 rw [gz (hik ▸ e7), gU] at hs
 refine df (aO (aO (bF (aa (ai (ag (ae (aj (v := (.int .i64 (0))) rfl) (ah (aa (aI (bV (v := (.int .i64 (0))) Tryz.results80 rfl ?_)))))))))))
 obtain rfl := hs
 exact ⟨h.grown, rfl⟩
def lV (b : LX.State) (x38 : Val) (s : Unit) (RF : Unit → Option Int) : Option Int :=
  bif decide (((cK x38 (b.cells.length : Int)) : Int) ≠ 0) then some (cK x38 (b.cells.length : Int)) else RF ()
def lW (Gb : Unit → Option Int) (s : Unit) : Option Int :=
  Gb ()
def qd (x9 : LX.Frame) (wT : cz) (b : LX.State) (Gb : Unit → Option Int) (xN : Bool) : Option Int :=
  bif xN then some 3 else bif decide (((x9.regs.length : Int) : Int) ≠ wT.regs) then some 4 else each (lV b) (lW Gb) x9.regs ()
def qf (a : List cz) (b : LX.State) (i8 : Int) (x9 : LX.Frame) (s : Unit) (Gb : Unit → Option Int) : Option Int :=
  bif (decide ((x9.proc : Int) < 0) || decide (((a.length : Int) : Int) ≤ x9.proc)) then some 5 else (idx a x9.proc).bind fun wT => bif (((decide ((x9.at_ : Int) < 0) || decide (((wT.code.length : Int) : Int) ≤ x9.at_)) || decide ((x9.l6 : Int) < 0)) || (decide ((i8 : Int) = 0) && decide ((x9.l6 : Int) ≠ 0))) then qd x9 wT b Gb true else bif decide ((0 : Int) < i8) then gQ (jB (i8 - 1)) ((idx b.frames (i8 - 1)).bind fun x54 => qd x9 wT b Gb (decide (((x54.regs.length : Int) : Int) ≤ x9.l6))) else qd x9 wT b Gb false
def sH (s : Unit) : Option Int :=
  some 0
def wo (a : List cz) (b : LX.State) : Option Int :=
  bif (((decide ((b.status : Int) < 0) || decide ((3 : Int) < b.status)) || decide ((b.aV : Int) < -1000000000)) || decide ((1000000000 : Int) < b.aV)) then some 3 else bif ((decide ((b.status : Int) ≠ 3) && decide ((b.aV : Int) ≠ 0)) || (decide ((b.status : Int) = 1) != decide (((b.frames.length : Int) : Int) = 0))) then some 4 else bif decide ((10 : Int) < (b.frames.length : Int)) then some 2 else bif decide (((dE b.cells) : Int) ≠ 0) then some (dE b.cells) else eO (qf a b) sH 0 b.frames ()
theorem ML (w0 : World) (M : BS) (hM : ∀ b, M b → b < w0.heap.size) (va : Value) (a : List cz) (ha : gp j4 w0 BE M va a) (b : LX.State) (vb0 vb1 : Value) (hb0 : gp gu w0 BE M vb0 b.frames) (hb1 : gp (qV aL) w0 BE M vb1 b.cells) (r : Int) (hs : wo a b = some r) :
    Calls Tryz.prog 64 #[va, (.agg #[vb0, vb1, (.int .i64 (b.status)), (.int .i64 (b.aV))])] w0 (fun e w' => Grow w0 w' ∧ e = .returned (.int .i64 r)) := by
 refine aQ (args := [va, (.agg #[vb0, vb1, (.int .i64 (b.status)), (.int .i64 (b.aV))])]) Tryz.func64 rfl Tryz.ntmps64 (Nat.le_of_ble_eq_true rfl) ?_
 have h := SH.init hM
 replace h := h.fC 1 ha bJ
 replace h := h.fC 2 hb0 (di bJ)
 replace h := h.fC 3 hb1 (di (di bJ))
 have uu := ha.bZ
 refine ai (ag (nX (cs := [vb0, vb1, (.int .i64 (b.status)), (.int .i64 (b.aV))]) h 4 rfl rfl fun w b1 h => ae (aj (v := (.int .i64 (0))) rfl) (ah (aa (ai (ai (ag (ae (ak oM rfl) (ae (aF h 4 rfl bz rfl rfl) (ae (dS rfl rfl) (ae (au (v := (.bool (decide ((b.status : Int) < 0)))) rfl) (aD rfl rfl (fun q => ak oM rfl) (aD rfl rfl (fun q => aF h 4 rfl bz (dx q) rfl) (aD rfl rfl (fun q => jA (dx q) rfl) (ae (gK rfl rfl lQ) (ae (au (v := (.bool ((decide ((b.status : Int) < 0) || decide ((3 : Int) < b.status))))) rfl) (aD rfl rfl (fun q => ak yO rfl) (aD rfl rfl (fun q => aF h 4 rfl bz (dx q) rfl) (aD rfl rfl (fun q => dS (dx q) rfl) (ae (gK rfl rfl lQ) (ae (au (v := (.bool (((decide ((b.status : Int) < 0) || decide ((3 : Int) < b.status)) || decide ((b.aV : Int) < -1000000000))))) rfl) (aD rfl rfl (fun q => ak yO rfl) ?_))))))))))))))))))))))
 refine aD rfl rfl (fun q => aF h 4 rfl bz (dx q) rfl) (aD rfl rfl (fun q => jA (dx q) rfl) (ae (gK rfl rfl lQ) (ah (aa (aK hs rfl (fun c2 hs => ?_) (fun c2 hs => ?_))))))
 refine ai (ag (ae (aj (v := (.int .i64 (3))) rfl) (ah (aa (aI (aC (bV (v := (.int .i64 (3))) Tryz.results64 rfl ?_)))))))
 obtain rfl := Option.some.inj hs
 exact ⟨h.grown, rfl⟩
 refine aG (aa (ai (ai (ag (ae (ak oM rfl) (ae (aF h 4 rfl bz rfl rfl) (ae (iA rfl rfl) (ae (au (v := (.bool (decide ((b.status : Int) ≠ 3)))) rfl) (aD rfl rfl (fun q => ak yO rfl) (aD rfl rfl (fun q => aF h 4 rfl bz (dx q) rfl) (aD rfl rfl (fun q => iA (dx q) rfl) (ae (fT rfl rfl lQ) (ae (au (v := (.bool ((decide ((b.status : Int) ≠ 3) && decide ((b.aV : Int) ≠ 0))))) rfl) (aD rfl rfl (fun q => ak oM rfl) (aD rfl rfl (fun q => aF h 4 rfl bz (dx q) rfl) (aD rfl rfl (fun q => bH (dx q) rfl) (aD rfl rfl (fun q => ak eH rfl) (aD rfl rfl (fun q => aF h 4 rfl iR (dx q) rfl) (aD rfl rfl (fun q => bU dw (dx q) (h.iw 2 rfl)) (aD rfl rfl (fun q => bH (dx q) rfl) (aD rfl rfl (fun q => Vr Tryz.underlying4 (dx q) (dx q)) (ae (gK rfl rfl lQ) (ah ?_)))))))))))))))))))))))
 refine aa (aK hs rfl (fun c3 hs => ?_) (fun c3 hs => ?_))
 refine ai (ag (ae (aj (v := (.int .i64 (4))) rfl) (ah (aa (aI (aC (bV (v := (.int .i64 (4))) Tryz.results64 rfl ?_)))))))
 obtain rfl := Option.some.inj hs
 exact ⟨h.grown, rfl⟩
 refine aG (aa (ai (ai (ag (ae (ak eH rfl) (ae (aF h 4 rfl iR rfl rfl) (ae (bU dw rfl (h.iw 2 rfl)) (ae (jA rfl rfl) (ah (aa (aK hs rfl (fun c4 hs => ?_) (fun c4 hs => ?_))))))))))))
 refine ai (ag (ae (aj (v := (.int .i64 (2))) rfl) (ah (aa (aI (aC (bV (v := (.int .i64 (2))) Tryz.results64 rfl ?_)))))))
 obtain rfl := Option.some.inj hs
 exact ⟨h.grown, rfl⟩
 refine aG (aa (ai (ai (ag (ae (ak jy rfl) (ae (aF h 4 rfl og rfl rfl) (bA QR rfl rfl (zu _ _ h.lt vb1 b.cells (h.iw 3 rfl) _ rfl) ?_)))))))
 rintro _ w ⟨k5, rfl⟩
 refine ⟨_, rfl, ?_⟩
 replace h := h.grow k5
 refine ae (aj (v := (.int .i64 ((dE b.cells)))) rfl) (ah (aa (ai (ag (ae (au (v := (.int .i64 ((dE b.cells)))) rfl) (ae (iA rfl rfl) (ah (aa (aK hs rfl (fun c6 hs => ?_) (fun c6 hs => ?_))))))))))
 refine ai (ag (ae (au (v := (.int .i64 ((dE b.cells)))) rfl) (ae (aj (v := (.int .i64 ((dE b.cells)))) rfl) (ah (aa (aI (aC (bV (v := (.int .i64 ((dE b.cells)))) Tryz.results64 rfl ?_))))))))
 obtain rfl := Option.some.inj hs
 exact ⟨h.grown, rfl⟩
 refine aG (aa (ai (ai (ag (ae (ak eH rfl) (ae (aF h 4 rfl iR rfl rfl) (ae (bU dw rfl (h.iw 2 rfl)) (ae (au (v := (.int .i64 (0))) rfl) (ah (aa (aT (gL (σ := Nat × Int) (inl [4, 6, 7, 8, 10, 11, 61, 62, 63, 64, 65, 66, 67, 68, 69, 70, 71, 72, 73, 74, 75, 76, 77, 78, 79, 80, 81, 82, 83, 84, 85, 86, 87, 88, 89, 90, 91, 92, 93, 94, 95, 96, 97, 98, 99, 100, 101, 102, 103, 104, 105, 106, 107, 108, 109, 110, 111, 112, 113, 114, 115, 116, 117, 118, 119, 120, 121, 122, 123, 124, 125, 126, 127, 128, 129, 130, 131, 132, 133, 134, 135, 136, 137, 138, 139, 140, 141, 142, 143, 144, 145]) (fun ⟨k7, i8⟩ => [(61, (.int .i64 (i8)))]) (fun ⟨k7, i8⟩ w => SH w0 M BE w (hset [(1, .sr j4 va a), (2, .sr gu vb0 b.frames), (3, .sr (qV aL) vb1 b.cells), (4, .blk b1 [vb0, vb1, (.int .i64 (b.status)), (.int .i64 (b.aV))])]) ∧ i8 = (k7 : Int) ∧ eO (qf a b) sH i8 (b.frames.drop k7) () = some r) (fun ⟨k7, i8⟩ => b.frames.length - k7) ⟨0, 0⟩ ⟨rfl, trivial⟩ ?_ ?_))))))))))))
 exact ⟨h.cn _, rfl, hs⟩
 rintro ⟨k7, i8⟩ w dD ⟨h, hik, hs⟩
 refine ai (ag ?_)
 refine ae (dS rfl rfl) (ah (aa ?_))
 refine ai (iy rfl (fun e12 => ?_) (fun e12 => ?_))
 refine aG (aa ?_)
 obtain ⟨x9, e13a, e13b⟩ := gy (hik ▸ e12)
 rw [e13b, iG] at hs
 generalize Ze : eO (qf a b) sH (i8 + 1) (b.frames.drop (k7 + 1)) = Gb at hs
 have e13r := gD ((h.iw 2 rfl)).bZ hik e12
 refine ai (aT (ai (ag (ae (au (v := (.int .i64 (i8))) rfl) ?_))))
 obtain ⟨b15, o16, cs17, h, r18, i14⟩ := h.yE 2 5 rfl dw rfl (iQ hik) (gB hik e13a)
 obtain ⟨Kz, rfl, g20⟩ := ui r18
 replace h := h.cO 6 g20.up
 refine ae (i14 _ _ _ _ _ _ _ _ _ rfl rfl) (ae (ji (k := 0) (vs := [(.int .i64 (x9.proc)), (.int .i64 (x9.at_)), Kz, (.int .i64 (x9.l6))]) h 5 rfl iU rfl rfl rfl (Nat.le_of_ble_eq_true rfl)) (bW h 7 iU fun w He h => ae (aj (v := (.int .i64 (i8))) rfl) (dA (vs := [(.int .i64 (x9.proc)), (.int .i64 (x9.at_)), Kz, (.int .i64 (x9.l6))]) h 7 [(.int .i64 (x9.proc)), (.int .i64 (x9.at_)), Kz, (.int .i64 (x9.l6))] rfl iU rfl rfl rfl rfl rfl (ax rfl (ax rfl (ax (h.gF 6 rfl).one (ax rfl bu)))) fun w h => ah (aa (ai (ai (ag (ae (ak wS rfl) (ae (aF h 7 rfl bz rfl rfl) (ae (dS rfl rfl) (ae (au (v := (.bool (decide ((x9.proc : Int) < 0)))) rfl) (aD rfl rfl (fun q => ak wS rfl) (aD rfl rfl (fun q => aF h 7 rfl bz (dx q) rfl) (aD rfl rfl (fun q => au (v := va) rfl) (aD rfl rfl (fun q => bU jq (dx q) (h.iw 1 rfl)) (aD rfl rfl (fun q => oI (dx q) (dx q)) (ae (gK rfl rfl lQ) (ah (aa (aK hs rfl (fun Zf hs => ?_) (fun Zf hs => ?_)))))))))))))))))))))
 refine ai (ag (ae (aj (v := (.int .i64 (5))) rfl) (ah (aa (aI (aC (aH (aC (aC (aH (aC (bV (v := (.int .i64 (5))) Tryz.results64 rfl ?_))))))))))))
 obtain rfl := Option.some.inj hs
 exact ⟨h.grown, rfl⟩
 refine aG (aa (ai (ag (ae (au (v := va) rfl) (ae (ak wS rfl) (ae (aF h 7 rfl bz rfl rfl) ?_))))))
 obtain ⟨wT, e24, hs⟩ := aP hs
 obtain ⟨Wd, o27, Ui, h, WG, i25⟩ := h.yE 1 8 rfl jq rfl (aJ e24).1 (aJ e24).2
 obtain ⟨u30, rfl, Zg⟩ := nz WG
 replace h := h.cO 9 Zg.up
 refine ae (i25 _ _ _ _ _ _ _ _ _ rfl rfl) (ae (ji (k := 0) (vs := [(.int .i64 (wT.params)), (.int .i64 (wT.regs)), u30]) h 8 rfl uS rfl rfl rfl (Nat.le_of_ble_eq_true rfl)) (bW h 10 uS fun w b32 h => dA (vs := [(.int .i64 (wT.params)), (.int .i64 (wT.regs)), u30]) h 10 [(.int .i64 (wT.params)), (.int .i64 (wT.regs)), u30] rfl uS rfl rfl rfl rfl rfl (ax rfl (ax rfl (ax (h.gF 9 rfl).one bu))) fun w h => ah (aa (ai (bY (σ := Bool) (inl [81, 82, 83, 84, 85, 86, 87, 88, 89, 90, 91, 92, 93, 94, 95, 96, 97, 98, 99, 100, 101, 102, 103, 104, 105, 106, 107, 108, 109, 110, 111, 112, 113, 114, 115, 116, 117, 118, 119, 120, 121, 122]) (fun xN => [(98, (gv (((decide ((x9.at_ : Int) < 0) || decide (((wT.code.length : Int) : Int) ≤ x9.at_)) || decide ((x9.l6 : Int) < 0)) == false) (.int .i64 (i8)))), (100, (gv (((decide ((x9.at_ : Int) < 0) || decide (((wT.code.length : Int) : Int) ≤ x9.at_)) || decide ((x9.l6 : Int) < 0)) == false) (.bool (decide ((i8 : Int) = 0))))), (122, (.bool (xN)))]) (fun xN w => SH w0 M BE w (hset [(1, .sr j4 va a), (2, .sr gu vb0 b.frames), (3, .sr (qV aL) vb1 b.cells), (4, .blk b1 [vb0, vb1, (.int .i64 (b.status)), (.int .i64 (b.aV))]), (6, .rd aL Kz x9.regs), (7, .blk He [(.int .i64 (x9.proc)), (.int .i64 (x9.at_)), Kz, (.int .i64 (x9.l6))]), (9, .rd jk u30 wT.code), (10, .blk b32 [(.int .i64 (wT.params)), (.int .i64 (wT.regs)), u30])]) ∧ qd x9 wT b Gb xN = some r) ?_ ?_)))))
 rintro xN w dD ⟨h, hs⟩
 refine aK hs rfl (fun c34 hs => ?_) (fun c34 hs => ?_)
 refine ai (ag (ae (aj (v := (.int .i64 (3))) rfl) (ah (aa (aI (aC (aH (aC (aC (aH (aC (bV (v := (.int .i64 (3))) Tryz.results64 rfl ?_))))))))))))
 obtain rfl := Option.some.inj hs
 exact ⟨h.grown, rfl⟩
 refine aG (aa (ai (ai (ag (ae (ak l8 rfl) (ae (aF h 7 rfl mr rfl rfl) (ae (bU bR rfl (h.lY 6 rfl)) (ae (ak yP rfl) (ae (aF h 10 rfl bz rfl rfl) (ae (iA rfl rfl) (ah (aa (aK hs rfl (fun Wo hs => ?_) (fun Wo hs => ?_))))))))))))))
 refine ai (ag (ae (aj (v := (.int .i64 (4))) rfl) (ah (aa (aI (aC (aH (aC (aC (aH (aC (bV (v := (.int .i64 (4))) Tryz.results64 rfl ?_))))))))))))
 obtain rfl := Option.some.inj hs
 exact ⟨h.grown, rfl⟩
 refine aG (aa (ai (ag (ae (ak l8 rfl) (ae (aF h 7 rfl mr rfl rfl) (ae (bU bR rfl (h.lY 6 rfl)) (ae (au (v := (.int .i64 (0))) rfl) (ah (aa (aT (gL (σ := Nat × Int) (inl [4, 10, 11, 132, 133, 134, 135, 136, 137, 138, 139, 140, 141, 142, 143, 144]) (fun ⟨Ti, i37⟩ => [(132, (.int .i64 (i37)))]) (fun ⟨Ti, i37⟩ w => SH w0 M BE w (hset [(1, .sr j4 va a), (2, .sr gu vb0 b.frames), (3, .sr (qV aL) vb1 b.cells), (4, .blk b1 [vb0, vb1, (.int .i64 (b.status)), (.int .i64 (b.aV))]), (6, .rd aL Kz x9.regs)]) ∧ i37 = (Ti : Int) ∧ each (lV b) (lW Gb) (x9.regs.drop Ti) () = some r) (fun ⟨Ti, i37⟩ => x9.regs.length - Ti) ⟨0, 0⟩ ⟨rfl, trivial⟩ ?_ ?_)))))))))))
 exact ⟨h.cn _, rfl, hs⟩
 rintro ⟨Ti, i37⟩ w dD ⟨h, hik, hs⟩
 refine ai (ag ?_)
 refine ae (dS rfl rfl) (ah (aa ?_))
 refine ai (iy rfl (fun e41 => ?_) (fun e41 => ?_))
 refine aG (aa ?_)
 obtain ⟨x38, e42a, e42b⟩ := gy (hik ▸ e41)
 rw [e42b, dP] at hs
 generalize RG : each (lV b) (lW Gb) (x9.regs.drop (Ti + 1)) = RF at hs
 have e42r := gD ((h.lY 6 rfl)).bZ hik e41
 refine ai (aT (ai (ag ?_)))
 obtain ⟨O8, o45, cs46, h, r47, i43⟩ := h.Dl 6 11 rfl bR rfl (iQ hik) (gB hik e42a)
 obtain rfl := r47
 refine ae (i43 _ _ _ _ _ _ _ _ _ rfl rfl) (ae (ji (k := 0) (vs := [(.int .i64 (x38.kind)), (.int .i64 (x38.n))]) h 11 rfl bT rfl rfl rfl (Nat.le_of_ble_eq_true rfl)) (bW h 12 bT fun w b48 h => dA (vs := [(.int .i64 (x38.kind)), (.int .i64 (x38.n))]) h 12 [(.int .i64 (x38.kind)), (.int .i64 (x38.n))] rfl bT rfl rfl rfl rfl rfl (ax rfl (ax rfl bu)) fun w h => ah (aa (ai (ag (ae (dz (vs := [(.int .i64 (x38.kind)), (.int .i64 (x38.n))]) h 12 rfl bT rfl rfl rfl) (ae (ak jy rfl) (ae (aF h 4 rfl og rfl rfl) (ae (bU eY rfl (h.iw 3 rfl)) (bA L8 rfl rfl (yZ _ _ h.lt x38 (b.cells.length : Int) _ rfl) ?_))))))))))
 rintro _ w ⟨k49, rfl⟩
 refine ⟨_, rfl, ?_⟩
 replace h := h.grow k49
 refine ae (aj (v := (.int .i64 ((cK x38 (b.cells.length : Int))))) rfl) (ah (aa (ai (ag (ae (au (v := (.int .i64 ((cK x38 (b.cells.length : Int))))) rfl) (ae (iA rfl rfl) (ah (aa (aK hs rfl (fun c50 hs => ?_) (fun c50 hs => ?_))))))))))
 refine ai (ag (ae (au (v := (.int .i64 ((cK x38 (b.cells.length : Int))))) rfl) (ae (aj (v := (.int .i64 ((cK x38 (b.cells.length : Int))))) rfl) (ah (aa (aI (aH (aC (aC (aH (aH (aC (aC (aH (aC (bV (v := (.int .i64 ((cK x38 (b.cells.length : Int))))) Tryz.results64 rfl ?_))))))))))))))))
 obtain rfl := Option.some.inj hs
 exact ⟨h.grown, rfl⟩
 refine aG (aA (aa (ag (ae (dC rfl rfl e42r) (ae (au (v := (.int .i64 ((i37 + 1)))) rfl) (ah (az ?_)))))))
 subst RG
 exact jN ⟨Ti + 1, i37 + 1⟩ ⟨h.cn _, by omega, hs⟩ (by have := of_decide_eq_true e41; dsimp only; omega)
 rw [gz (hik ▸ e41), gU] at hs
 refine df (aO (aO (bF (aA (aa (ag (ae (dC rfl rfl e13r) (ae (au (v := (.int .i64 ((i8 + 1)))) rfl) (ah (az ?_))))))))))
 subst Ze
 exact jN ⟨k7 + 1, i8 + 1⟩ ⟨h.cn _, by omega, hs⟩ (by have := of_decide_eq_true e12; dsimp only; omega)
 refine zK mixed (by kernel_rfl) h fun w h => aN (ak tV rfl) (aN (aF h 7 rfl bz rfl rfl) (aN (dS rfl rfl) (aN (au (v := (.bool (decide ((x9.at_ : Int) < 0)))) rfl) (tq rfl rfl (fun q => ak tV rfl) (tq rfl rfl (fun q => aF h 7 rfl bz (dx q) rfl) (tq rfl rfl (fun q => ak qM rfl) (tq rfl rfl (fun q => aF h 10 rfl zq (dx q) rfl) (tq rfl rfl (fun q => bU jf (dx q) (h.lY 9 rfl)) (tq rfl rfl (fun q => oI (dx q) (dx q)) (aN (gK rfl rfl lQ) (aN (au (v := (.bool ((decide ((x9.at_ : Int) < 0) || decide (((wT.code.length : Int) : Int) ≤ x9.at_))))) rfl) (tq rfl rfl (fun q => ak AL rfl) (tq rfl rfl (fun q => aF h 7 rfl bz (dx q) rfl) (tq rfl rfl (fun q => dS (dx q) rfl) (aN (gK rfl rfl lQ) (aN (au (v := (.bool (((decide ((x9.at_ : Int) < 0) || decide (((wT.code.length : Int) : Int) ≤ x9.at_)) || decide ((x9.l6 : Int) < 0))))) rfl) (tq rfl rfl (fun q => au (v := (.int .i64 (i8))) rfl) (tq rfl rfl (fun q => bH (dx q) rfl) (tq rfl rfl (fun q => au (v := (.bool (decide ((i8 : Int) = 0)))) (dx q)) (Nn (((decide ((x9.at_ : Int) < 0) || decide (((wT.code.length : Int) : Int) ≤ x9.at_)) || decide ((x9.l6 : Int) < 0)) == false) rfl rfl (fun q => ak AL rfl) (Nn (((decide ((x9.at_ : Int) < 0) || decide (((wT.code.length : Int) : Int) ≤ x9.at_)) || decide ((x9.l6 : Int) < 0)) == false) rfl rfl (fun q => aF h 7 rfl bz (dx q) rfl) (Nn (((decide ((x9.at_ : Int) < 0) || decide (((wT.code.length : Int) : Int) ≤ x9.at_)) || decide ((x9.l6 : Int) < 0)) == false) rfl rfl (fun q => iA (dx q) rfl) ?_))))))))))))))))))))))
 refine tq rfl rfl (fun q => fT (dx q) (PZ q) lQ) (aN (gK rfl rfl lQ) (aN (au (v := (.bool ((((decide ((x9.at_ : Int) < 0) || decide (((wT.code.length : Int) : Int) ≤ x9.at_)) || decide ((x9.l6 : Int) < 0)) || (decide ((i8 : Int) = 0) && decide ((x9.l6 : Int) ≠ 0)))))) rfl) (jH (b := (((decide ((x9.at_ : Int) < 0) || decide (((wT.code.length : Int) : Int) ≤ x9.at_)) || decide ((x9.l6 : Int) < 0)) || (decide ((i8 : Int) = 0) && decide ((x9.l6 : Int) ≠ 0)))) hs (fun c51 hs => ?_) (fun c51 hs => ?_))))
 refine fU (b' := true) rfl (congrArg Value.bool c51) rfl (fU (b' := true) rfl (congrArg Value.bool c51) rfl (fU (b' := true) rfl (congrArg Value.bool c51) rfl (qH rfl rfl (qH rfl rfl (qH rfl rfl (qH rfl rfl (qH rfl rfl (qH rfl rfl (qH rfl rfl (qH rfl rfl (qH rfl rfl (qH rfl rfl (qH rfl rfl (fU (b' := true) rfl (congrArg Value.bool c51) rfl (aN (dL (b := true) (v := (.bool (true))) (congrArg Value.bool c51) rfl) (yH (az ?_)))))))))))))))))
 exact bS true ⟨h.cn _, hs⟩
 refine iK rfl (congrArg Value.bool c51) (aN (au (v := (.int .i64 (i8))) rfl) (iK rfl (congrArg Value.bool c51) (aN (jA rfl rfl) (iK rfl (congrArg Value.bool c51) (aN (au (v := (.bool (decide ((0 : Int) < i8)))) rfl) (jH (b := decide ((0 : Int) < i8)) hs (fun BB hs => ?_) (fun BB hs => ?_)))))))
 refine iK rfl (congrArg Value.bool BB) (aN (ak AL rfl) (iK rfl (congrArg Value.bool BB) (aN (aF h 7 rfl bz rfl rfl) (iK rfl (congrArg Value.bool BB) (aN (ak eH rfl) (iK rfl (congrArg Value.bool BB) (aN (aF h 4 rfl iR rfl rfl) (iK rfl (congrArg Value.bool BB) (aN (au (v := (.int .i64 (i8))) rfl) (iK rfl (congrArg Value.bool BB) ?_))))))))))
 obtain ⟨a53, hs⟩ := bI hs
 refine aN (nW rfl rfl a53) (iK rfl (congrArg Value.bool BB) ?_)
 obtain ⟨x54, e55, hs⟩ := aP hs
 obtain ⟨b57, o58, Za, h, Zb, i56⟩ := h.yE 2 13 rfl dw rfl (aJ e55).1 (aJ e55).2
 obtain ⟨u61, rfl, Zc⟩ := ui Zb
 replace h := h.cO 14 Zc.up
 refine aN (i56 _ _ _ _ _ _ _ _ _ rfl rfl) (iK rfl (congrArg Value.bool BB) (aN (ak l8 rfl) (iK rfl (congrArg Value.bool BB) (aN (ek (k := 2) h 13 rfl mr rfl rfl) (iK rfl (congrArg Value.bool BB) (aN (bU bR rfl (h.lY 14 rfl)) (iK rfl (congrArg Value.bool BB) (aN (oI rfl rfl) (iK rfl (congrArg Value.bool c51) (aN (dL (b := true) (v := (.bool (decide (((x54.regs.length : Int) : Int) ≤ x9.l6)))) (congrArg Value.bool BB) rfl) (aN (dL (b := false) (v := (.bool (decide (((x54.regs.length : Int) : Int) ≤ x9.l6)))) (congrArg Value.bool c51) rfl) (yH (az ?_)))))))))))))
 exact bS (decide (((x54.regs.length : Int) : Int) ≤ x9.l6)) ⟨h.cn _, hs⟩
 refine fU (b' := false) rfl (congrArg Value.bool BB) rfl (fU (b' := false) rfl (congrArg Value.bool BB) rfl (fU (b' := false) rfl (congrArg Value.bool BB) rfl (fU (b' := false) rfl (congrArg Value.bool BB) rfl (fU (b' := false) rfl (congrArg Value.bool BB) rfl (fU (b' := false) rfl (congrArg Value.bool BB) rfl (fU (b' := false) rfl (congrArg Value.bool BB) rfl (fU (b' := false) rfl (congrArg Value.bool BB) rfl (fU (b' := false) rfl (congrArg Value.bool BB) rfl (fU (b' := false) rfl (congrArg Value.bool BB) rfl (fU (b' := false) rfl (congrArg Value.bool BB) rfl (iK rfl (congrArg Value.bool c51) (aN (dL (b := false) (v := (.bool (false))) (congrArg Value.bool BB) rfl) (aN (dL (b := false) (v := (.bool (false))) (congrArg Value.bool c51) rfl) (yH (az ?_)))))))))))))))
 exact bS false ⟨h.cn _, hs⟩
 rw [gz (hik ▸ e12), mh] at hs
 refine df (aO (aO (bF (aa (ai (ag (ae (aj (v := (.int .i64 (0))) rfl) (ah (aa (aI (bV (v := (.int .i64 (0))) Tryz.results64 rfl ?_)))))))))))
 obtain rfl := Option.some.inj hs
 exact ⟨h.grown, rfl⟩
def wu (a : List cz) (b : LX.State) : Option Int :=
  (pE a).bind fun y2 => bif decide ((y2 : Int) ≠ 0) then some y2 else (wo a b).bind fun y6 => some y6
theorem za (w0 : World) (M : BS) (hM : ∀ b, M b → b < w0.heap.size) (va : Value) (a : List cz) (ha : gp j4 w0 BE M va a) (b : LX.State) (vb0 vb1 : Value) (hb0 : gp gu w0 BE M vb0 b.frames) (hb1 : gp (qV aL) w0 BE M vb1 b.cells) (r : Int) (hs : wu a b = some r) :
    Calls Tryz.prog 27 #[va, (.agg #[vb0, vb1, (.int .i64 (b.status)), (.int .i64 (b.aV))])] w0 (fun e w' => Grow w0 w' ∧ e = .returned (.int .i64 r)) := by
 refine aQ (args := [va, (.agg #[vb0, vb1, (.int .i64 (b.status)), (.int .i64 (b.aV))])]) Tryz.func27 rfl Tryz.ntmps27 (Nat.le_of_ble_eq_true rfl) ?_
 have h := SH.init hM
 replace h := h.fC 1 ha bJ
 replace h := h.fC 2 hb0 (di bJ)
 replace h := h.fC 3 hb1 (di (di bJ))
 have uu := ha.bZ
 refine ai (ag (nX (cs := [vb0, vb1, (.int .i64 (b.status)), (.int .i64 (b.aV))]) h 4 rfl rfl fun w b1 h => ae (aj (v := (.int .i64 (0))) rfl) (ah (aa (ai (ai (ag (ae (au (v := va) rfl) ?_))))))))
 obtain ⟨y2, e3, hs⟩ := aP hs
 refine bA QQ rfl rfl (CQ _ _ h.lt va a (h.iw 1 rfl) _ e3) ?_
 rintro _ w ⟨k4, rfl⟩
 refine ⟨_, rfl, ?_⟩
 replace h := h.grow k4
 refine ae (aj (v := (.int .i64 (y2))) rfl) (ah (aa (ai (ag (ae (au (v := (.int .i64 (y2))) rfl) (ae (iA rfl rfl) (ah (aa (aK hs rfl (fun c5 hs => ?_) (fun c5 hs => ?_))))))))))
 refine ai (ag (ae (au (v := (.int .i64 (y2))) rfl) (ae (aj (v := (.int .i64 (y2))) rfl) (ah (aa (aI (aC (bV (v := (.int .i64 (y2))) Tryz.results27 rfl ?_))))))))
 obtain rfl := Option.some.inj hs
 exact ⟨h.grown, rfl⟩
 refine aG (aa (ai (ag (ae (au (v := va) rfl) (ae (dz (vs := [vb0, vb1, (.int .i64 (b.status)), (.int .i64 (b.aV))]) h 4 rfl cZ rfl rfl rfl) ?_)))))
 obtain ⟨y6, e7, hs⟩ := aP hs
 refine bA V3 rfl rfl (ML _ _ h.lt va a (h.iw 1 rfl) b vb0 vb1 (h.iw 2 rfl) (h.iw 3 rfl) _ e7) ?_
 rintro _ w ⟨k8, rfl⟩
 refine ⟨_, rfl, ?_⟩
 replace h := h.grow k8
 refine ae (aj (v := (.int .i64 (y6))) rfl) (ah (aa (aI (bV (v := (.int .i64 (y6))) Tryz.results27 rfl ?_))))
 obtain rfl := Option.some.inj hs
 exact ⟨h.grown, rfl⟩
theorem pF (w0 : World) (M : BS) (hM : ∀ b, M b → b < w0.heap.size) (va : Value) (a : List LX.Frame) (ha : gp gu w0 BE M va a) (r : List LX.Frame) (hs : clone 48 a = some r) :
    Calls Tryz.prog 83 #[va] w0 (fun e w' => Grow w0 w' ∧ ∃ u0, e = .returned u0 ∧ dU gu 49 w' M u0 r ∧ (∀ b, ob u0 b → w0.heap.size ≤ b)) := by
  obtain ⟨hr, hs⟩ := bI hs
  cases hs
  refine aQ (args := [va]) Tryz.func83 rfl Tryz.ntmps83 (Nat.le_of_ble_eq_true rfl) ?_
  have h := (SH.init hM).fC 1 ha bJ
  refine ai (ag (ae (aj rfl) (ah (aa ?_))))
  refine ai (ai (ag (ae (au rfl) (ae (Jb dw rfl (h.iw 1 rfl) rfl) (ah (aa ?_))))))
  refine iy rfl (fun c => ?_) (fun c => ?_)
  · obtain ⟨c1, c2⟩ := yG (h.iw 1 rfl) c
    refine ai (ag (ae (aj rfl) (ah (aa (aI (aC ?_))))))
    refine bV (v := .slice none 0 0) Tryz.results83 rfl ?_
    rw [c2]
    exact ⟨h.grown, _, rfl, dU.nil, lM⟩
  · refine aG (aa ?_)
    refine ai (ag ?_)
    refine sZ (R := gu) (vs := []) (xs := []) h 2 oV rfl rfl rfl trivial rfl fun w u h => ?_
    refine ae (au rfl) ?_
    refine mf (R := gu) (m := a) h 2 rfl (h.iw 1 rfl) oV rfl rfl rfl hr.1 hr.2 fun w u h => ?_
    refine ae (aj rfl) (ah (aa (aI ?_)))
    refine bV (v := u) Tryz.results83 rfl ?_
    exact ⟨h.grown, _, rfl, (h.mg 2 rfl).1, (h.mg 2 rfl).2⟩
theorem zD (w0 : World) (M : BS) (hM : ∀ b, M b → b < w0.heap.size) (va : Value) (a : List (List Val)) (ha : gp (qV aL) w0 BE M va a) (r : List (List Val)) (hs : clone 24 a = some r) :
    Calls Tryz.prog 114 #[va] w0 (fun e w' => Grow w0 w' ∧ ∃ u0, e = .returned u0 ∧ dU (qV aL) 47 w' M u0 r ∧ (∀ b, ob u0 b → w0.heap.size ≤ b)) := by
  obtain ⟨hr, hs⟩ := bI hs
  cases hs
  refine aQ (args := [va]) Tryz.func114 rfl Tryz.ntmps114 (Nat.le_of_ble_eq_true rfl) ?_
  have h := (SH.init hM).fC 1 ha bJ
  refine ai (ag (ae (aj rfl) (ah (aa ?_))))
  refine ai (ai (ag (ae (au rfl) (ae (Jb eY rfl (h.iw 1 rfl) rfl) (ah (aa ?_))))))
  refine iy rfl (fun c => ?_) (fun c => ?_)
  · obtain ⟨c1, c2⟩ := yG (h.iw 1 rfl) c
    refine ai (ag (ae (aj rfl) (ah (aa (aI (aC ?_))))))
    refine bV (v := .slice none 0 0) Tryz.results114 rfl ?_
    rw [c2]
    exact ⟨h.grown, _, rfl, dU.nil, lM⟩
  · refine aG (aa ?_)
    refine ai (ag ?_)
    refine sZ (R := (qV aL)) (vs := []) (xs := []) h 2 qC rfl rfl rfl trivial rfl fun w u h => ?_
    refine ae (au rfl) ?_
    refine mf (R := (qV aL)) (m := a) h 2 rfl (h.iw 1 rfl) qC rfl rfl rfl hr.1 hr.2 fun w u h => ?_
    refine ae (aj rfl) (ah (aa (aI ?_)))
    refine bV (v := u) Tryz.results114 rfl ?_
    exact ⟨h.grown, _, rfl, (h.mg 2 rfl).1, (h.mg 2 rfl).2⟩
theorem uH (w0 : World) (M : BS) (hM : ∀ b, M b → b < w0.heap.size) (va : Value) (a : List Val) (ha : gp aL w0 BE M va a) (r : List Val) (hs : clone 16 a = some r) :
    Calls Tryz.prog 85 #[va] w0 (fun e w' => Grow w0 w' ∧ ∃ u0, e = .returned u0 ∧ dU aL 51 w' M u0 r ∧ (∀ b, ob u0 b → w0.heap.size ≤ b)) := by
  obtain ⟨hr, hs⟩ := bI hs
  cases hs
  refine aQ (args := [va]) Tryz.func85 rfl Tryz.ntmps85 (Nat.le_of_ble_eq_true rfl) ?_
  have h := (SH.init hM).fC 1 ha bJ
  refine ai (ag (ae (aj rfl) (ah (aa ?_))))
  refine ai (ai (ag (ae (au rfl) (ae (Jb bR rfl (h.iw 1 rfl) rfl) (ah (aa ?_))))))
  refine iy rfl (fun c => ?_) (fun c => ?_)
  · obtain ⟨c1, c2⟩ := yG (h.iw 1 rfl) c
    refine ai (ag (ae (aj rfl) (ah (aa (aI (aC ?_))))))
    refine bV (v := .slice none 0 0) Tryz.results85 rfl ?_
    rw [c2]
    exact ⟨h.grown, _, rfl, dU.nil, lM⟩
  · refine aG (aa ?_)
    refine ai (ag ?_)
    refine sZ (R := aL) (vs := []) (xs := []) h 2 uj rfl rfl rfl trivial rfl fun w u h => ?_
    refine ae (au rfl) ?_
    refine mf (R := aL) (m := a) h 2 rfl (h.iw 1 rfl) uj rfl rfl rfl hr.1 hr.2 fun w u h => ?_
    refine ae (aj rfl) (ah (aa (aI ?_)))
    refine bV (v := u) Tryz.results85 rfl ?_
    exact ⟨h.grown, _, rfl, (h.mg 2 rfl).1, (h.mg 2 rfl).2⟩
def vG (a : List (List Val)) (i14 : Int) (s : Unit) (JN : Unit → Option (List (List Val))) : Option (List (List Val)) :=
  (idx a i14).bind fun x20 => (clone 16 x20).bind fun y31 => JN ()
def vH (a : List (List Val)) (s : Unit) : Option (List (List Val)) :=
  some a
def AX (a : List (List Val)) : Option (List (List Val)) :=
  (clone 24 a).bind fun y1 => upto (vG a) (vH a) 0 ((a.length : Int)).toNat ()
theorem zX (w0 : World) (M : BS) (hM : ∀ b, M b → b < w0.heap.size) (va : Value) (a : List (List Val)) (ha : gp (qV aL) w0 BE M va a) (r : List (List Val)) (hs : AX a = some r) :
    Calls Tryz.prog 84 #[va] w0 (fun e w' => Grow w0 w' ∧ ∃ wm, ∃ xX, e = .returned (wm) ∧ Chunk.holds w' M (Chunk.own' ((.two (.own (aU Val).raw 47 wm (List.zip r xX)) (.bL (aR aL 51 hn xX (List.map (aU Val).sub r)))) : Chunk)) ((.two (.own (aU Val).raw 47 wm (List.zip r xX)) (.bL (aR aL 51 hn xX (List.map (aU Val).sub r)))) : Chunk) ∧ (∀ b, Chunk.own' ((.two (.own (aU Val).raw 47 wm (List.zip r xX)) (.bL (aR aL 51 hn xX (List.map (aU Val).sub r)))) : Chunk) b → w0.heap.size ≤ b)) := by
 refine aQ (args := [va]) Tryz.func84 rfl Tryz.ntmps84 (Nat.le_of_ble_eq_true rfl) ?_
 have h := SH.init hM
 replace h := h.fC 1 ha bJ
 have uu := ha.bZ
 refine ai (ag (ae (aj (v := (.slice none 0 0)) rfl) (ah (aa (ai (ag (ae (au (v := va) rfl) ?_)))))))
 obtain ⟨y1, e2, hs⟩ := aP hs
 have z3 := xD e2
 subst z3
 refine bA TS rfl rfl (zD _ _ h.lt va a (h.iw 1 rfl) _ e2) ?_
 rintro _ w ⟨k7, u4, rfl, g5, g6⟩
 refine ⟨_, rfl, ?_⟩
 replace h := h.jM 2 k7 g5 g6
 obtain ⟨U8, -, h⟩ := h.thaw (N := (aU Val)) (R := aL) (Es := 51) 2 3 4 rfl (by decide) (by decide) (by decide) rfl TI
 refine ae (aj (v := u4) rfl) (ah (aa (ai (ai (ag (ae (au (v := u4) rfl) (ae (qo (N := (aU Val)) eY rfl (h.ed 2 rfl) (h.iB 3 rfl)) (ae (au (v := (.int .i64 (0))) rfl) (ah (aa (aT ?_)))))))))))
 have Zh := (h.iw 1 rfl).bZ
 refine gL (σ := Nat × Int × List Value) (inl [3, 4, 9, 10, 11, 12, 13, 14, 15, 16, 17, 18, 19]) (fun ⟨k13, i14, CR⟩ => [(9, (.int .i64 (i14)))]) (fun ⟨k13, i14, CR⟩ w => SH w0 M BE w (hset [(2, .own (aU Val).raw 47 u4 (List.zip a CR)), (3, .bL (aR aL 51 (hge (k13)) CR (List.map (aU Val).sub a))), (4, .bL (Cx aL (k13) CR (List.map (aU Val).sub a)))]) ∧ i14 = (k13 : Int) ∧ upto (vG a) (vH a) i14 (((a.length : Int)).toNat - k13) () = some r) (fun ⟨k13, i14, CR⟩ => ((a.length : Int)).toNat - k13) ⟨0, 0, U8⟩ ⟨rfl, trivial⟩ ?_ ?_
 exact ⟨h.cn _, rfl, hs⟩
 rintro ⟨k13, i14, CR⟩ w dD ⟨h, hik, hs⟩
 refine ai (ag ?_)
 refine ae (dS rfl rfl) (ah (aa ?_))
 refine ai (iy rfl (fun e18 => ?_) (fun e18 => ?_))
 refine aG (aa ?_)
 rw [tO (by have := of_decide_eq_true e18; omega)] at hs
 generalize Zi : upto (vG a) (vH a) (i14 + 1) (((a.length : Int)).toNat - (k13 + 1)) = JN at hs
 have e19r : jB (i14 + 1) := (by have := of_decide_eq_true e18; have := Zh; exact jB.mk (by omega) (by omega))
 refine ai (aT (ai (ag (ae (au (v := (.int .i64 (i14))) rfl) ?_))))
 obtain ⟨x20, e21, hs⟩ := aP hs
 obtain ⟨u25, e260, r27⟩ := h.QI 4 x20 rfl (h.iB 3 rfl) (Ic hik (aJ e21).2) rfl
 have e26 := U2 hik e260
 replace h := h.cO 5 r27
 obtain ⟨Bt, q24, i22⟩ := h.vN 2 rfl eY rfl (aJ e21).1 (fB (aJ e21).2 e26)
 refine ae (i22 _ _ _ _ _ _ _ _ _ rfl rfl) ?_
 obtain ⟨Ui, m29, WR⟩ := h.yx 2 rfl q24 (fB (aJ e21).2 e26)
 obtain ⟨rfl, -⟩ := WR
 refine ae (oJ (k := 0) m29 mr rfl rfl) (ae (aj (v := (.int .i64 (i14))) rfl) (ae (aj (v := u25) rfl) (ah (aa (ag (ae (au (v := u4) rfl) (ae (au (v := (.int .i64 (i14))) rfl) (ae (au (v := u25) rfl) ?_))))))))
 obtain ⟨y31, e32, hs⟩ := aP hs
 have z33 := xD e32
 subst z33
 refine bA QT rfl rfl (uH _ _ h.lt u25 x20 (h.lY 5 rfl) _ e32) ?_
 rintro _ w ⟨k37, u34, rfl, g35, g36⟩
 refine ⟨_, rfl, ?_⟩
 replace h := h.jM 6 k37 g35 g36
 obtain ⟨b39, q40, i38⟩ := h.vN 2 rfl eY rfl (aJ e21).1 (fB (aJ e21).2 e26)
 refine ae (i38 _ _ _ _ _ _ _ _ _ rfl rfl) ?_
 have o41 : (Value.oneCell' u34) = true := (h.dG 6 rfl).one
 refine HZ (off := 0) (a' := (x20, u34)) h 2 rfl q40 rfl (fB (aJ e21).2 e26) mr rfl rfl o41 rfl (by rintro _ ⟨rfl, _⟩; exact ⟨rfl, o41⟩) fun w h => ?_
 rw [Kn (aJ e21).2, QF hik] at h
 replace h := h.Kr 3 4 6 rfl rfl rfl (by decide) (by decide) (by decide) (Ic hik (aJ e21).2) (Ic hik e26) rfl
 generalize List.set CR k13 u34 = RN at h
 refine ah (aA (aa (ag (ae (dC rfl rfl e19r) (ae (au (v := (.int .i64 ((i14 + 1)))) rfl) (ah (az ?_)))))))
 subst Zi
 exact jN ⟨k13 + 1, i14 + 1, RN⟩ ⟨h.cn _, by omega, hs⟩ (by have := of_decide_eq_true e18; dsimp only; omega)
 rw [tQ (by have := of_decide_eq_false e18; omega)] at hs
 replace h := h.QE 3 rfl (by have := of_decide_eq_false e18; omega)
 replace h := h.fA 4
 refine df (aO (aO (bF (aa (ai (ag (ae (au (v := u4) rfl) (ae (aj (v := u4) rfl) (ah (aa (aI (bV (v := u4) Tryz.results84 rfl ?_))))))))))))
 replace h := h.pair 2 3 (by decide)
 obtain rfl := Option.some.inj hs
 obtain ⟨o1, o2, o3⟩ := h.qp 2 (C := (.two (.own (aU Val).raw 47 u4 (List.zip a CR)) (.bL (aR aL 51 hn CR (List.map (aU Val).sub a))) : Chunk)) rfl ⟨trivial, trivial⟩
 exact ⟨o2, u4, CR, rfl, o1, Jl o3⟩
def zb (a : LX.State) (i13 : Int) (s : Unit) (Zj : Unit → Option LX.State) : Option LX.State :=
  (idx a.frames i13).bind fun y5 => (clone 16 y5.regs).bind fun RO => Zj ()
def ze (a : LX.State) (y7 : List (List Val)) (s : Unit) : Option LX.State :=
  some (⟨a.frames, y7, a.status, a.aV⟩ : LX.State)
def BO (a : LX.State) (y7 : List (List Val)) : Option LX.State :=
  upto (zb a) (ze a y7) 0 ((a.frames.length : Int)).toNat ()
def zf (a : LX.State) : Option LX.State :=
  (clone 48 a.frames).bind fun RP => (AX a.cells).bind fun pG => BO a pG
theorem AY (w0 : World) (M : BS) (hM : ∀ b, M b → b < w0.heap.size) (a : LX.State) (Ck CS : Value) (ha0 : gp gu w0 BE M Ck a.frames) (ha1 : gp (qV aL) w0 BE M CS a.cells) (r : LX.State) (hs : zf a = some r) :
    Calls Tryz.prog 49 #[(.agg #[Ck, CS, (.int .i64 (a.status)), (.int .i64 (a.aV))])] w0 (fun e w' => Grow w0 w' ∧ ∃ wm, ∃ zC, ∃ xX, ∃ DT, e = .returned (.agg #[wm, zC, .int .i64 r.status, .int .i64 r.aV]) ∧ Chunk.holds w' M (Chunk.own' ((.two (.two (.two (.own aB.raw 49 wm (List.zip r.frames xX)) (.bL (aR aL 51 hn xX (List.map aB.sub r.frames)))) (.own (aU Val).raw 47 zC (List.zip r.cells DT))) (.bL (aR aL 51 hn DT (List.map (aU Val).sub r.cells)))) : Chunk)) ((.two (.two (.two (.own aB.raw 49 wm (List.zip r.frames xX)) (.bL (aR aL 51 hn xX (List.map aB.sub r.frames)))) (.own (aU Val).raw 47 zC (List.zip r.cells DT))) (.bL (aR aL 51 hn DT (List.map (aU Val).sub r.cells)))) : Chunk) ∧ (∀ b, Chunk.own' ((.two (.two (.two (.own aB.raw 49 wm (List.zip r.frames xX)) (.bL (aR aL 51 hn xX (List.map aB.sub r.frames)))) (.own (aU Val).raw 47 zC (List.zip r.cells DT))) (.bL (aR aL 51 hn DT (List.map (aU Val).sub r.cells)))) : Chunk) b → w0.heap.size ≤ b)) := by
 refine aQ (args := [(.agg #[Ck, CS, (.int .i64 (a.status)), (.int .i64 (a.aV))])]) Tryz.func49 rfl Tryz.ntmps49 (Nat.le_of_ble_eq_true rfl) ?_
 have h := SH.init hM
 replace h := h.fC 1 ha0 bJ
 replace h := h.fC 2 ha1 (di bJ)
 refine ai (ag (nX (cs := [Ck, CS, (.int .i64 (a.status)), (.int .i64 (a.aV))]) h 3 rfl rfl fun w b1 h => bW h 4 cZ fun w b2 h => ah (aa (bY (σ := Value × List Value × Value × List Value × List (List Val)) (inl [5, 6, 7, 8, 9, 10, 11, 12]) (fun ⟨v3, XQ, v5, Io, y7⟩ => []) (fun ⟨v3, XQ, v5, Io, y7⟩ w => SH w0 M BE w (hset [(3, .blk b1 [v3, v5, (.int .i64 (a.status)), (.int .i64 (a.aV))]), (4, .blk b2 [(.slice none 0 0), (.slice none 0 0), (.int .i64 (0)), (.int .i64 (0))]), (29, .own aB.raw 49 v3 (List.zip a.frames XQ)), (30, .bL (aR aL 51 (hge (0)) XQ (List.map aB.sub a.frames))), (31, .bL (Cx aL (0) XQ (List.map aB.sub a.frames))), (65, .own (aU Val).raw 47 v5 (List.zip y7 Io)), (66, .bL (aR aL 51 hn Io (List.map (aU Val).sub y7)))]) ∧ BO a y7 = some r) ?_ ?_))))
 rintro ⟨v3, XQ, v5, Io, y7⟩ w dD ⟨h, hs⟩
 refine ai (ai (ag (ae (ak eH rfl) (ae (aF h 3 rfl iR rfl rfl) (ae (qo (N := aB) dw rfl (h.ed 29 rfl) (h.iB 30 rfl)) (ae (au (v := (.int .i64 (0))) rfl) (ah (aa (aT ?_)))))))))
 have Zk := LZ (h.ed 29 rfl) (h.iB 30 rfl)
 refine gL (σ := Nat × Int × List Value) (inl [3, 4, 16, 17, 18, 19, 20, 21, 22, 23, 24, 25, 26, 27, 28, 29]) (fun ⟨k12, i13, DU⟩ => [(16, (.int .i64 (i13)))]) (fun ⟨k12, i13, DU⟩ w => SH w0 M BE w (hset [(3, .blk b1 [v3, v5, (.int .i64 (a.status)), (.int .i64 (a.aV))]), (4, .blk b2 [(.slice none 0 0), (.slice none 0 0), (.int .i64 (0)), (.int .i64 (0))]), (29, .own aB.raw 49 v3 (List.zip a.frames DU)), (30, .bL (aR aL 51 (hge (k12)) DU (List.map aB.sub a.frames))), (31, .bL (Cx aL (k12) DU (List.map aB.sub a.frames))), (65, .own (aU Val).raw 47 v5 (List.zip y7 Io)), (66, .bL (aR aL 51 hn Io (List.map (aU Val).sub y7)))]) ∧ i13 = (k12 : Int) ∧ upto (zb a) (ze a y7) i13 (((a.frames.length : Int)).toNat - k12) () = some r) (fun ⟨k12, i13, DU⟩ => ((a.frames.length : Int)).toNat - k12) ⟨0, 0, XQ⟩ ⟨rfl, trivial⟩ ?_ ?_
 exact ⟨h.cn _, rfl, hs⟩
 rintro ⟨k12, i13, DU⟩ w dD ⟨h, hik, hs⟩
 refine ai (ag ?_)
 refine ae (dS rfl rfl) (ah (aa ?_))
 refine ai (iy rfl (fun e17 => ?_) (fun e17 => ?_))
 refine aG (aa ?_)
 rw [tO (by have := of_decide_eq_true e17; omega)] at hs
 generalize Zl : upto (zb a) (ze a y7) (i13 + 1) (((a.frames.length : Int)).toNat - (k12 + 1)) = Zj at hs
 have e18r : jB (i13 + 1) := (by have := of_decide_eq_true e17; have := Zk; exact jB.mk (by omega) (by omega))
 refine ai (aT (ai (ag (ae (au (v := (.int .i64 (i13))) rfl) ?_))))
 obtain ⟨y5, e20, hs⟩ := aP hs
 obtain ⟨u24, e250, r26⟩ := h.QI 31 y5.regs rfl (h.iB 30 rfl) (Ic hik (aJ e20).2) rfl
 have e25 := U2 hik e250
 replace h := h.cO 67 r26
 obtain ⟨b22, q23, i21⟩ := h.vN 29 rfl dw rfl (aJ e20).1 (fB (aJ e20).2 e25)
 refine ae (i21 _ _ _ _ _ _ _ _ _ rfl rfl) ?_
 obtain ⟨cs27, m28, WG⟩ := h.yx 29 rfl q23 (fB (aJ e20).2 e25)
 obtain ⟨rfl, -⟩ := WG
 refine ae (ou (k := 0) (vs := [(.int .i64 (y5.proc)), (.int .i64 (y5.at_)), u24, (.int .i64 (y5.l6))]) m28 iU rfl rfl rfl (Nat.le_of_ble_eq_true rfl)) (bW h 68 iU fun w b30 h => ae (aj (v := (.int .i64 (i13))) rfl) (dA (vs := [(.int .i64 (y5.proc)), (.int .i64 (y5.at_)), u24, (.int .i64 (y5.l6))]) h 68 [(.int .i64 (y5.proc)), (.int .i64 (y5.at_)), u24, (.int .i64 (y5.l6))] rfl iU rfl rfl rfl rfl rfl (ax rfl (ax rfl (ax (h.gF 67 rfl).one (ax rfl bu)))) fun w h => ah (aa (lS (L := (ob v3)) mixed h fun w h => aZ 0 (aS.refl _ _) rfl ay (by kernel_rfl) (by kernel_rfl) (by kernel_rfl) (fun w hk => ak eH rfl) (aZ 1 (aS.refl _ _) rfl ay (by kernel_rfl) (by kernel_rfl) (by kernel_rfl) (fun w hk => have h := h.qB 29 rfl hk; aF h 3 rfl iR rfl rfl) (aZ 2 (aS.refl _ _) rfl ay (by kernel_rfl) (by kernel_rfl) (by kernel_rfl) (fun w hk => au (v := (.int .i64 (i13))) rfl) (aZ 3 (aS.refl _ _) rfl ay (by kernel_rfl) (by kernel_rfl) (by kernel_rfl) (fun w hk => ak l8 rfl) (aZ 4 (aS.refl _ _) rfl ay (by kernel_rfl) (by kernel_rfl) (by kernel_rfl) (fun w hk => have h := h.qB 29 rfl hk; aF h 68 rfl mr rfl rfl) ?_))))))))
 obtain ⟨Zm, U9⟩ : ∃ x, x = w := ⟨_, rfl⟩
 have JO : aS (ob v3) Zm w := U9 ▸ aS.refl (ob v3) w
 refine rP U9.symm (bP 5 (by kernel_rfl) rfl ay ?_)
 obtain ⟨RO, KT, hs⟩ := aP hs
 have RQ := xD KT
 subst RQ
 refine bA QT rfl rfl (uH _ _ h.lt u24 y5.regs (h.lY 67 rfl) _ KT) ?_
 rintro _ w ⟨KU, CU, rfl, RS, KV⟩
 refine ⟨_, rfl, ?_⟩
 replace h := h.jM 129 KU RS KV
 have XR : ∀ b, ob CU b → Zm.heap.size ≤ b := fun b hb => Nat.le_trans JO.size (KV b hb)
 replace JO := JO.grow KU
 refine ah (aX JO ?_)
 obtain ⟨Zn, RU, RV⟩ := h.vN 29 rfl dw rfl (aJ e20).1 (fB (aJ e20).2 e25)
 refine aZ 6 JO rfl ay (by kernel_rfl) (by kernel_rfl) (by kernel_rfl) (fun w hk => RV _ _ _ _ _ _ _ _ _ rfl rfl) (aZ 7 JO rfl ay (by kernel_rfl) (by kernel_rfl) (by kernel_rfl) (fun w hk => ak l8 rfl) (bP 8 (by kernel_rfl) rfl ay ?_))
 have KW : (Value.oneCell' CU) = true := (h.dG 129 rfl).one
 refine Qo (a' := (y5, CU)) h 29 rfl RU rfl (fB (aJ e20).2 e25) mr rfl rfl KW rfl (by rintro _ ⟨rfl, _⟩; exact ⟨rfl, KW⟩) fun w h RX => ?_
 replace JO := JO.same RX
 rw [Kn (aJ e20).2, QF hik] at h
 replace h := h.Kr 30 31 129 rfl rfl rfl (by decide) (by decide) (by decide) (Ic hik (aJ e20).2) (Ic hik e25) rfl
 generalize List.set DU k12 CU = O9 at h
 refine ah (aX JO (fZ (by kernel_rfl) (aA (aa (ag (ae (dC rfl rfl e18r) (ae (au (v := (.int .i64 ((i13 + 1)))) rfl) (ah (az ?_)))))))))
 subst Zl
 exact jN ⟨k12 + 1, i13 + 1, O9⟩ ⟨h.cn _, by omega, hs⟩ (by have := of_decide_eq_true e17; dsimp only; omega)
 rw [tQ (by have := of_decide_eq_false e17; omega)] at hs
 replace h := h.QE 30 rfl (by have := of_decide_eq_false e17; omega)
 replace h := h.fA 31
 refine df (aO (aO (bF (aa (ai (ag (ae (dz (vs := [v3, v5, (.int .i64 (a.status)), (.int .i64 (a.aV))]) h 3 rfl cZ rfl rfl rfl) (dA (vs := [v3, v5, (.int .i64 (a.status)), (.int .i64 (a.aV))]) h 4 [v3, v5, (.int .i64 (a.status)), (.int .i64 (a.aV))] rfl cZ rfl rfl rfl rfl rfl (ax (h.dG 29 rfl).one (ax (h.dG 65 rfl).one (ax rfl (ax rfl bu)))) fun w h => ah (aa (aI (U1 (vs := [v3, v5, (.int .i64 (a.status)), (.int .i64 (a.aV))]) Tryz.results49 rfl h 4 rfl cZ rfl ?_)))))))))))
 replace h := h.pair 29 30 (by decide)
 replace h := h.pair 29 65 (by decide)
 replace h := h.pair 29 66 (by decide)
 obtain rfl := Option.some.inj hs
 obtain ⟨o1, o2, o3⟩ := h.qp 29 (C := (.two (.two (.two (.own aB.raw 49 v3 (List.zip a.frames DU)) (.bL (aR aL 51 hn DU (List.map aB.sub a.frames)))) (.own (aU Val).raw 47 v5 (List.zip y7 Io))) (.bL (aR aL 51 hn Io (List.map (aU Val).sub y7))) : Chunk)) rfl ⟨⟨⟨trivial, trivial⟩, trivial⟩, trivial⟩
 exact ⟨o2, v3, v5, DU, Io, rfl, o1, Jl o3⟩
 refine lS (L := (fun x => x = b1)) mixed h fun w h => aZ 0 (aS.refl _ _) rfl ay (by kernel_rfl) (by kernel_rfl) (by kernel_rfl) (fun w hk => ak eH rfl) (aZ 3 (aS.refl _ _) rfl ay (by kernel_rfl) (by kernel_rfl) (by kernel_rfl) (fun w hk => ak jy rfl) ?_)
 obtain ⟨RP, xY, hs⟩ := aP hs
 obtain ⟨pG, Gc, hs⟩ := aP hs
 obtain ⟨Uk, Va⟩ : ∃ x, x = w := ⟨_, rfl⟩
 have jT : aS (fun x => x = b1) Uk w := Va ▸ aS.refl (fun x => x = b1) w
 refine rP Va.symm (nY 1 4 (by kernel_rfl) rfl ay rfl ay ?_ ?_)
 refine ae (aF h 3 rfl iR rfl rfl) (ah (aX jT (nY 2 4 (by kernel_rfl) rfl ay rfl ay ?_ ?_)))
 have zY := xD xY
 subst zY
 refine bA L9 rfl rfl (pF _ _ h.lt Ck a.frames (h.iw 1 rfl) _ xY) ?_
 rintro _ w ⟨uI, lX, rfl, zZ, uJ⟩
 refine ⟨_, rfl, ?_⟩
 replace h := h.jM 213 uI zZ uJ
 have Ip : ∀ b, ob lX b → Uk.heap.size ≤ b := fun b hb => Nat.le_trans jT.size (uJ b hb)
 replace jT := jT.grow uI
 obtain ⟨xZ, -, h⟩ := h.thaw (N := aB) (R := aL) (Es := 51) 213 214 215 rfl (by decide) (by decide) (by decide) rfl Dw
 refine ah (aX jT (bP 4 (by kernel_rfl) rfl ay (ae (aF h 3 rfl og rfl rfl) (ah (aX jT (aZ 6 jT rfl ay (by kernel_rfl) (by kernel_rfl) (by kernel_rfl) (fun w hk => ak eH rfl) (bP 5 (by kernel_rfl) rfl ay (bA Ma rfl rfl (zX _ _ h.lt CS a.cells (h.iw 2 rfl) _ Gc) ?_))))))))
 rintro _ w ⟨uK, pI, mH, rfl, z8, Aa⟩
 refine ⟨_, rfl, ?_⟩
 replace h := h.LY 249 (C := (.two (.own (aU Val).raw 47 pI (List.zip pG mH)) (.bL (aR aL 51 hn mH (List.map (aU Val).sub pG))) : Chunk)) uK ⟨trivial, trivial⟩ z8 Aa
 replace h := h.bX 249 250 (by decide) rfl rfl
 replace jT := jT.grow uK
 refine ah (aX jT (bP 7 (by kernel_rfl) rfl ay (qO h 3 [lX, CS, (.int .i64 (a.status)), (.int .i64 (a.aV))] rfl iR rfl rfl rfl rfl (h.dG 213 rfl).one fun w h Ab => ?_)))
 replace jT := jT.same Ab
 refine ah (aX jT (aZ 8 jT rfl ay (by kernel_rfl) (by kernel_rfl) (by kernel_rfl) (fun w hk => ak jy rfl) (bP 9 (by kernel_rfl) rfl ay (qO h 3 [lX, pI, (.int .i64 (a.status)), (.int .i64 (a.aV))] rfl og rfl rfl rfl rfl (h.dG 249 rfl).one fun w h Ac => ?_))))
 replace jT := jT.same Ac
 refine ah (aX jT (fZ (by kernel_rfl) (az ?_)))
 replace h := (h.fA 29).moveC 213 29 rfl rfl (by decide)
 replace h := (h.fA 30).moveC 214 30 rfl rfl (by decide)
 replace h := (h.fA 31).moveC 215 31 rfl rfl (by decide)
 replace h := (h.fA 65).moveC 249 65 rfl rfl (by decide)
 replace h := (h.fA 66).moveC 250 66 rfl rfl (by decide)
 exact bS (lX, xZ, pI, mH, pG) ⟨h.cn _, hs⟩
 refine ae (aF h 3 rfl og rfl rfl) (ah (aX jT (bP 2 (by kernel_rfl) rfl ay ?_)))
 have zY := xD xY
 subst zY
 refine bA L9 rfl rfl (pF _ _ h.lt Ck a.frames (h.iw 1 rfl) _ xY) ?_
 rintro _ w ⟨uI, lX, rfl, zZ, uJ⟩
 refine ⟨_, rfl, ?_⟩
 replace h := h.jM 213 uI zZ uJ
 have Ip : ∀ b, ob lX b → Uk.heap.size ≤ b := fun b hb => Nat.le_trans jT.size (uJ b hb)
 replace jT := jT.grow uI
 obtain ⟨xZ, -, h⟩ := h.thaw (N := aB) (R := aL) (Es := 51) 213 214 215 rfl (by decide) (by decide) (by decide) rfl Dw
 refine ah (aX jT (aZ 6 jT rfl ay (by kernel_rfl) (by kernel_rfl) (by kernel_rfl) (fun w hk => ak eH rfl) (bP 5 (by kernel_rfl) rfl ay (bA Ma rfl rfl (zX _ _ h.lt CS a.cells (h.iw 2 rfl) _ Gc) ?_))))
 rintro _ w ⟨uK, pI, mH, rfl, z8, Aa⟩
 refine ⟨_, rfl, ?_⟩
 replace h := h.LY 249 (C := (.two (.own (aU Val).raw 47 pI (List.zip pG mH)) (.bL (aR aL 51 hn mH (List.map (aU Val).sub pG))) : Chunk)) uK ⟨trivial, trivial⟩ z8 Aa
 replace h := h.bX 249 250 (by decide) rfl rfl
 replace jT := jT.grow uK
 refine ah (aX jT (bP 7 (by kernel_rfl) rfl ay (qO h 3 [lX, CS, (.int .i64 (a.status)), (.int .i64 (a.aV))] rfl iR rfl rfl rfl rfl (h.dG 213 rfl).one fun w h Ab => ?_)))
 replace jT := jT.same Ab
 refine ah (aX jT (aZ 8 jT rfl ay (by kernel_rfl) (by kernel_rfl) (by kernel_rfl) (fun w hk => ak jy rfl) (bP 9 (by kernel_rfl) rfl ay (qO h 3 [lX, pI, (.int .i64 (a.status)), (.int .i64 (a.aV))] rfl og rfl rfl rfl rfl (h.dG 249 rfl).one fun w h Ac => ?_))))
 replace jT := jT.same Ac
 refine ah (aX jT (fZ (by kernel_rfl) (az ?_)))
 replace h := (h.fA 29).moveC 213 29 rfl rfl (by decide)
 replace h := (h.fA 30).moveC 214 30 rfl rfl (by decide)
 replace h := (h.fA 31).moveC 215 31 rfl rfl (by decide)
 replace h := (h.fA 65).moveC 249 65 rfl rfl (by decide)
 replace h := (h.fA 66).moveC 250 66 rfl rfl (by decide)
 exact bS (lX, xZ, pI, mH, pG) ⟨h.cn _, hs⟩
 refine ae (aF h 3 rfl og rfl rfl) (ah (aX jT (bP 1 (by kernel_rfl) rfl ay (ae (aF h 3 rfl iR rfl rfl) (ah (aX jT (bP 2 (by kernel_rfl) rfl ay ?_)))))))
 have zY := xD xY
 subst zY
 refine bA L9 rfl rfl (pF _ _ h.lt Ck a.frames (h.iw 1 rfl) _ xY) ?_
 rintro _ w ⟨uI, lX, rfl, zZ, uJ⟩
 refine ⟨_, rfl, ?_⟩
 replace h := h.jM 213 uI zZ uJ
 have Ip : ∀ b, ob lX b → Uk.heap.size ≤ b := fun b hb => Nat.le_trans jT.size (uJ b hb)
 replace jT := jT.grow uI
 obtain ⟨xZ, -, h⟩ := h.thaw (N := aB) (R := aL) (Es := 51) 213 214 215 rfl (by decide) (by decide) (by decide) rfl Dw
 refine ah (aX jT (aZ 6 jT rfl ay (by kernel_rfl) (by kernel_rfl) (by kernel_rfl) (fun w hk => ak eH rfl) (bP 5 (by kernel_rfl) rfl ay (bA Ma rfl rfl (zX _ _ h.lt CS a.cells (h.iw 2 rfl) _ Gc) ?_))))
 rintro _ w ⟨uK, pI, mH, rfl, z8, Aa⟩
 refine ⟨_, rfl, ?_⟩
 replace h := h.LY 249 (C := (.two (.own (aU Val).raw 47 pI (List.zip pG mH)) (.bL (aR aL 51 hn mH (List.map (aU Val).sub pG))) : Chunk)) uK ⟨trivial, trivial⟩ z8 Aa
 replace h := h.bX 249 250 (by decide) rfl rfl
 replace jT := jT.grow uK
 refine ah (aX jT (bP 7 (by kernel_rfl) rfl ay (qO h 3 [lX, CS, (.int .i64 (a.status)), (.int .i64 (a.aV))] rfl iR rfl rfl rfl rfl (h.dG 213 rfl).one fun w h Ab => ?_)))
 replace jT := jT.same Ab
 refine ah (aX jT (aZ 8 jT rfl ay (by kernel_rfl) (by kernel_rfl) (by kernel_rfl) (fun w hk => ak jy rfl) (bP 9 (by kernel_rfl) rfl ay (qO h 3 [lX, pI, (.int .i64 (a.status)), (.int .i64 (a.aV))] rfl og rfl rfl rfl rfl (h.dG 249 rfl).one fun w h Ac => ?_))))
 replace jT := jT.same Ac
 refine ah (aX jT (fZ (by kernel_rfl) (az ?_)))
 replace h := (h.fA 29).moveC 213 29 rfl rfl (by decide)
 replace h := (h.fA 30).moveC 214 30 rfl rfl (by decide)
 replace h := (h.fA 31).moveC 215 31 rfl rfl (by decide)
 replace h := (h.fA 65).moveC 249 65 rfl rfl (by decide)
 replace h := (h.fA 66).moveC 250 66 rfl rfl (by decide)
 exact bS (lX, xZ, pI, mH, pG) ⟨h.cn _, hs⟩
def yc (x8 : Int) : Option (Val × Bool) :=
  some ((⟨1, x8⟩ : Val), (decide ((-1000000000 : Int) ≤ x8) && decide ((x8 : Int) ≤ 1000000000)))
def KX (a : Int) (b : Val) (c : Val) : Option (Val × Bool) :=
  bif decide ((a : Int) = 5) then bif (decide (b.kind = c.kind) && decide (b.n = c.n)) then some ((⟨1, 1⟩ : Val), true) else some ((⟨1, 0⟩ : Val), true) else bif (decide ((b.kind : Int) ≠ 1) || decide ((c.kind : Int) ≠ 1)) then some ((⟨0, 0⟩ : Val), false) else bif decide ((a : Int) = 1) then gQ (jB (b.n + c.n)) (yc (b.n + c.n)) else bif decide ((a : Int) = 2) then gQ (jB (b.n - c.n)) (yc (b.n - c.n)) else bif decide ((a : Int) = 3) then gQ (jB (b.n * c.n)) (yc (b.n * c.n)) else bif decide ((a : Int) = 4) then bif decide ((b.n : Int) < c.n) then some ((⟨1, 1⟩ : Val), true) else some ((⟨1, 0⟩ : Val), true) else yc 0
end
end Go.Proofs.YtfclkapelkhlpaaGreatDoor
