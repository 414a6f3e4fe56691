/-
  What the law SnapTorn needs of our own library and of the walks, no more.
-/
import Derived.Test.YtfclkapelkhlpaaGreatDoorProg
import Derived.Test.YtfclkapelkhlpaaGreatDoorSnapTornTc
set_option linter.unusedSimpArgs false
set_option linter.unusedVariables false
set_option maxRecDepth 10000
namespace Go.Proofs.YtfclkapelkhlpaaGreatDoor
open Go Go.Proofs Go.LX
noncomputable section
theorem vM (N : Nat) (w0 : World) (M : BS) (hM : ∀ b, M b → b < w0.heap.size) (hT : rY Tryz.prog 4 w0) (a : Str) (r : List dQ × Int) (hs : jq N a = some r) :
    Calls Tryz.prog 77 #[(aP a)] w0 (fun e w' => Grow w0 w' ∧ ∃ u0, e = .returned (.tuple #[u0, .int .i64 r.2]) ∧ dH gQ 113 w' M u0 r.1 ∧ (∀ b, ob u0 b → w0.heap.size ≤ b)) := by
 refine aK (args := [(aP a)]) Tryz.func77 rfl Tryz.ntmps77 (Nat.le_of_ble_eq_true rfl) ?_
 have h := SH.init hM
 refine ai (ag (ae (aj (v := (.slice none 0 0)) rfl) (ae (aj (v := (.int .i64 (0))) rfl) (ah (aa (ai (ag (ae (ak (v := (aP a)) rfl) ?_))))))))
 obtain ⟨y1, e2, hs⟩ := aM hs
 refine aO QU rfl rfl (Dc _ _ h.lt (hT.go h.keep) a [32] _ e2) ?_
 rintro _ w ⟨k5, u3, rfl, g4⟩
 refine ⟨_, rfl, ?_⟩
 replace h := h.AJ 1 k5 g4
 refine nM h 2 ll fun w b6 h => dX h 2 [u3] rfl ll rfl rfl rfl rfl (h.fu 1 rfl).one fun w h => ah (aa (ai (ag (nM h 3 wo fun w b7 h => ah (aa (ai (ai (ag (ae (aF h 2 rfl ll rfl rfl) (ae (bF dN rfl (h.mU 1 rfl)) (ae (ak (v := (.int .i64 (0))) rfl) (ah (aa (aL ?_))))))))))))))
 replace h := h.vG (R := gQ) (E := 113) 7
 refine fq (σ := Nat × Int × Value × List dQ) (inl [6, 7, 8, 9, 10, 11, 24, 25, 26, 27, 28, 29, 30, 31, 32, 33, 34, 35, 36, 37, 38, 39, 40, 41, 42, 43, 44, 45, 46, 47, 48, 49, 50, 51, 52, 53, 54, 55, 56, 57, 58, 59, 60, 61, 62]) (fun ⟨k16, i17, v14, uq⟩ => [(24, (.int .i64 (i17)))]) (fun ⟨k16, i17, v14, uq⟩ w => SH w0 M BE w (hset [(1, .rd lY u3 y1), (2, .blk b6 [u3]), (3, .blk b7 [v14]), (7, .own gQ 113 v14 uq)]) ∧ i17 = (k16 : Int) ∧ eX (iw y1) (gB N y1 a) i17 (y1.drop k16) uq = some r) (fun ⟨k16, i17, v14, uq⟩ => y1.length - k16) ⟨0, 0, (.slice none 0 0), []⟩ ⟨rfl, trivial⟩ ?_ ?_
 exact ⟨h.cn _, rfl, hs⟩
 rintro ⟨k16, i17, v14, uq⟩ w dm ⟨h, hik, hs⟩
 refine ai (ag ?_)
 refine ae (dA rfl rfl) (ah (aa ?_))
 refine ai (gH rfl (fun e21 => ?_) (fun e21 => ?_))
 refine aD (aa ?_)
 obtain ⟨wV, ZM, ZN⟩ := fJ (hik ▸ e21)
 rw [ZN, jc] at hs
 generalize V9 : eX (iw y1) (gB N y1 a) (i17 + 1) (y1.drop (k16 + 1)) = Fp at hs
 have Wd := fO ((h.mU 1 rfl)).bL hik e21
 refine bU (σ := Value × List dQ) (inl [6, 7, 8, 9, 10, 11, 26, 27, 28, 29, 30, 31, 32, 33, 34, 35, 36, 37, 38, 39, 40, 41, 42, 43, 44, 45, 46, 47, 48, 49, 50, 51, 52, 53, 54, 55, 56, 57, 58, 59, 60, 61]) (fun ⟨v23, y24⟩ => []) (fun ⟨v23, y24⟩ w => SH w0 M BE w (hset [(1, .rd lY u3 y1), (2, .blk b6 [u3]), (3, .blk b7 [v23]), (7, .own gQ 113 v23 y24)]) ∧ j3 Fp y24 = some r) ?_ ?_
 rintro ⟨v23, y24⟩ w dm ⟨h, hs⟩
 refine ag (ae (bY rfl rfl Wd) (ae (ak (v := (.int .i64 ((i17 + 1)))) rfl) (ah (ay ?_))))
 subst V9
 exact iQ ⟨k16 + 1, i17 + 1, v23, y24⟩ ⟨h.cn _, by omega, hs⟩ (by have := of_decide_eq_true e21; dsimp only; omega)
 refine aL (ai (ag (ae (ak (v := (.int .i64 (i17))) rfl) ?_)))
 obtain ⟨U5, o27, Uj, h, Uk, i25⟩ := h.FD 1 8 rfl dN rfl (gZ hik) (fM hik ZM)
 obtain rfl := Uk
 refine ae (i25 _ _ _ _ _ _ _ _ _ rfl rfl) (ae (ed (k := 0) h 8 rfl wu rfl rfl) (ae (aj (v := (.int .i64 (i17))) rfl) (ae (aj (v := (aP wV)) rfl) (ah (aa (bU (σ := Bool) (inl [29, 30, 31, 32, 33, 34, 35, 36, 37]) (fun x30 => [(37, (.bool (x30)))]) (fun x30 w => SH w0 M BE w (hset [(1, .rd lY u3 y1), (2, .blk b6 [u3]), (3, .blk b7 [v14]), (7, .own gQ 113 v14 uq)]) ∧ j4 y1 i17 uq Fp x30 = some r) ?_ ?_))))))
 rintro x30 w dm ⟨h, hs⟩
 refine aJ hs rfl (fun c31 hs => ?_) (fun c31 hs => ?_)
 refine ai (ag (ae (aF h 2 rfl ll rfl rfl) (ae (ak (v := (.int .i64 (i17))) rfl) (ae (bY rfl rfl Wd) ?_))))
 obtain ⟨x32, e33, hs⟩ := aM hs
 obtain ⟨b35, o36, Yx, h, Yy, i34⟩ := h.FD 1 9 rfl dN rfl (aX e33).1 (aX e33).2
 obtain rfl := Yy
 refine ae (i34 _ _ _ _ _ _ _ _ _ rfl rfl) (ae (ed (k := 0) h 9 rfl wu rfl rfl) ?_)
 obtain ⟨y39, e40, hs⟩ := aM hs
 refine aO Ba rfl rfl (nP _ _ h.lt (hT.go h.keep) x32 _ e40) ?_
 rintro _ w ⟨ZO, XU, rfl, g42⟩
 refine ⟨_, rfl, ?_⟩
 replace h := h.grow ZO
 refine ae (ak (v := (.tuple #[(.int .i64 (y39.1)), XU])) rfl) (ae (bC rfl rfl) (ae (bC rfl rfl) (ae (aj (v := (.int .i64 (y39.1))) rfl) (ae (aj (v := XU) rfl) (ah (aa (ai (ag (ae (aF h 2 rfl ll rfl rfl) (ae (ak (v := (.int .i64 (i17))) rfl) ?_))))))))))
 obtain ⟨a44, hs⟩ := aZ hs
 refine ae (bY rfl rfl a44) ?_
 obtain ⟨ZL, e46, hs⟩ := aM hs
 obtain ⟨ZP, o49, cs50, h, r51, i47⟩ := h.FD 1 10 rfl dN rfl (aX e46).1 (aX e46).2
 obtain rfl := r51
 refine ae (i47 _ _ _ _ _ _ _ _ _ rfl rfl) (ae (ed (k := 0) h 10 rfl wu rfl rfl) ?_)
 obtain ⟨qZ, e53, hs⟩ := aM hs
 refine aO Ba rfl rfl (nP _ _ h.lt (hT.go h.keep) ZL _ e53) ?_
 rintro _ w ⟨ZQ, Vh, rfl, g55⟩
 refine ⟨_, rfl, ?_⟩
 replace h := h.grow ZQ
 refine ae (ak (v := (.tuple #[(.int .i64 (qZ.1)), Vh])) rfl) (ae (bC rfl rfl) (ae (bC rfl rfl) (ae (aj (v := (.int .i64 (qZ.1))) rfl) (ae (aj (v := Vh) rfl) (ah (aa (ag (ae (aF h 3 rfl wo rfl rfl) (ae (ak (v := (.int .i64 (y39.1))) rfl) (ae (ak (v := (.int .i64 (qZ.1))) rfl) (ae (eD (pv := [(0, (.int .i64 (y39.1))), (1, (.int .i64 (qZ.1)))]) (out := [(.int .i64 (y39.1)), (.int .i64 (qZ.1)), (.slice none 0 0)]) Ms rfl ⟨0, 1, [(.int .i64 (y39.1))], rfl, rfl, rfl, Nat.le_of_ble_eq_true rfl, ⟨1, 1, [(.int .i64 (qZ.1))], rfl, rfl, rfl, Nat.le_of_ble_eq_true rfl, rfl⟩⟩) (oV (R := gQ) (vs := [(.agg #[(.int .i64 (y39.1)), (.int .i64 (qZ.1)), (.slice none 0 0)])]) (xs := [(⟨y39.1, qZ.1, []⟩ : dQ)]) h 11 IU rfl rfl rfl ⟨⟨_, rfl, eZ.nil⟩, trivial⟩ rfl fun w ZR h => ?_))))))))))))
 obtain ⟨a58, hs⟩ := aZ hs
 refine jg (R := gQ) (m := [(⟨y39.1, qZ.1, []⟩ : dQ)]) h 7 rfl (h.dJ 11 rfl) IU rfl rfl rfl a58.1 a58.2 fun w u59 h => dX h 3 [u59] rfl wo rfl rfl rfl rfl (h.fF 7 rfl).one fun w h => ah (az (ay ?_))
 exact bR (u59, (uq ++ [(⟨y39.1, qZ.1, []⟩ : dQ)])) ⟨h.cn _, hs⟩
 refine aD (az (ay ?_))
 exact bR (v14, uq) ⟨h.cn _, hs⟩
 refine ag (ae (ak (v := (aP wV)) rfl) (ae (BO rfl rfl) (ae (ak (v := (.bool (decide ((wV : Str) = [102, 117, 110])))) rfl) (ma (b := decide ((wV : Str) = [102, 117, 110])) hs (fun KE hs => ?_) (fun KE hs => ?_)))))
 refine dG rfl (congrArg Value.bool KE) (ae (ak (v := (.int .i64 (i17))) rfl) (dG rfl (congrArg Value.bool KE) ?_))
 obtain ⟨a61, hs⟩ := aZ hs
 refine ae (bY rfl rfl a61) (dG rfl (congrArg Value.bool KE) (ae (aF h 2 rfl ll rfl rfl) (dG rfl (congrArg Value.bool KE) (ae (bF dN rfl (h.mU 1 rfl)) (dG rfl (congrArg Value.bool KE) (ae (dA rfl rfl) (ae (fw (b := true) (v := (.bool (decide (((i17 + 2) : Int) < (y1.length : Int))))) (congrArg Value.bool KE) rfl) (ah (ay ?_)))))))))
 exact bR (decide (((i17 + 2) : Int) < (y1.length : Int))) ⟨h.cn _, hs⟩
 refine bH (b' := false) rfl (congrArg Value.bool KE) rfl (bH (b' := false) rfl (congrArg Value.bool KE) rfl (bH (b' := false) rfl (congrArg Value.bool KE) rfl (bH (b' := false) rfl (congrArg Value.bool KE) rfl (bH (b' := false) rfl (congrArg Value.bool KE) rfl (ae (fw (b := false) (v := (.bool (false))) (congrArg Value.bool KE) rfl) (ah (ay ?_)))))))
 exact bR false ⟨h.cn _, hs⟩
 rw [fK (hik ▸ e21), ow] at hs
 refine bT (aH (aH (aT (aa (ai (ai (ag (ae (aF h 3 rfl wo rfl rfl) (ae (bF gK rfl (h.dJ 7 rfl)) (ae (bM rfl rfl) (ae (ak (v := (.bool (decide (((uq.length : Int) : Int) = 0)))) rfl) (aC rfl rfl (fun q => aF h 3 rfl wo rfl rfl) (aC rfl rfl (fun q => bF gK (cO q) (h.dJ 7 rfl)) (aC rfl rfl (fun q => iR (cO q) rfl) (ae (gM rfl rfl mR) (ah (aa (aJ hs rfl (fun c62 hs => ?_) (fun c62 hs => ?_)))))))))))))))))))
 refine ai (ag (ae (aj (v := (.slice none 0 0)) rfl) (ae (aj (v := (.int .i64 (1))) rfl) (ah (aa (aI (aB (zD (v1 := (.slice none 0 0)) (v2 := (.int .i64 (1))) Tryz.results77 rfl rfl ?_))))))))
 obtain rfl := Option.some.inj hs
 exact ⟨h.grown, _, rfl, dH.nil, kU⟩
 refine aD (aa (ai (ai (ag (ae (aF h 3 rfl wo rfl rfl) (ae (bF gK rfl (h.dJ 7 rfl)) (ae (ak (v := (.int .i64 (0))) rfl) (ah (aa (aL ?_))))))))))
 have We := (h.dJ 7 rfl).bL
 refine fq (σ := Nat × Int) (inl [2, 3, 13, 73, 74, 75, 76, 77, 78, 79, 80, 81]) (fun ⟨Sb, i64⟩ => [(73, (.int .i64 (i64)))]) (fun ⟨Sb, i64⟩ w => SH w0 M BE w (hset [(1, .rd lY u3 y1), (2, .blk b6 [u3]), (3, .blk b7 [v14]), (7, .own gQ 113 v14 uq)]) ∧ i64 = (Sb : Int) ∧ upto (iq uq) (gz N y1 a uq) i64 (((uq.length : Int)).toNat - Sb) () = some r) (fun ⟨Sb, i64⟩ => ((uq.length : Int)).toNat - Sb) ⟨0, 0⟩ ⟨rfl, trivial⟩ ?_ ?_
 exact ⟨h.cn _, rfl, hs⟩
 rintro ⟨Sb, i64⟩ w dm ⟨h, hik, hs⟩
 refine ai (ag ?_)
 refine ae (dA rfl rfl) (ah (aa ?_))
 refine ai (gH rfl (fun Q9 => ?_) (fun Q9 => ?_))
 refine aD (aa ?_)
 rw [pz (by have := of_decide_eq_true Q9; omega)] at hs
 generalize Wh : upto (iq uq) (gz N y1 a uq) (i64 + 1) (((uq.length : Int)).toNat - (Sb + 1)) = V8 at hs
 have ZT : jb (i64 + 1) := (by have := of_decide_eq_true Q9; have := We; exact jb.mk (by omega) (by omega))
 refine ai (aL (ai (ag ?_)))
 obtain ⟨Rk, Rl, hs⟩ := aM hs
 obtain ⟨b73, q74, i72⟩ := h.Ir 7 rfl gK rfl (aX Rl).1 (aX Rl).2
 refine ae (i72 _ _ _ _ _ _ _ _ _ rfl rfl) ?_
 obtain ⟨cs75, m76, ZU⟩ := h.Ns 7 rfl q74 (aX Rl).2
 obtain ⟨E5, rfl, g79⟩ := p8 ZU
 replace h := h.bG 12 g79
 refine ae (BL (k := 0) (vs := [(.int .i64 (Rk.params)), (.int .i64 (Rk.locals)), E5]) m76 kF rfl rfl rfl (Nat.le_of_ble_eq_true rfl)) (bP h 13 kF fun w b80 h => dV (vs := [(.int .i64 (Rk.params)), (.int .i64 (Rk.locals)), E5]) h 13 [(.int .i64 (Rk.params)), (.int .i64 (Rk.locals)), E5] rfl kF rfl rfl rfl rfl rfl (ax rfl (ax rfl (ax (h.fu 12 rfl).one bA))) fun w h => ah (aa (ai (ag (ae (au r9 rfl) (ae (aF h 13 rfl aV rfl rfl) (aO vH rfl rfl (fE _ _ h.lt Rk.params 0 3 _ rfl) ?_)))))))
 rintro _ w ⟨Zp, rfl⟩
 refine ⟨_, rfl, ?_⟩
 replace h := h.grow Zp
 refine ae (fZ rfl) (ah (aa (aJ hs rfl (fun c82 hs => ?_) (fun c82 hs => ?_))))
 refine ai (ag (ae (aj (v := (.slice none 0 0)) rfl) (ae (aj (v := (.int .i64 (1))) rfl) (ah (aa (aI (aG (aB (aB (aG (aB (zD (v1 := (.slice none 0 0)) (v2 := (.int .i64 (1))) Tryz.results77 rfl rfl ?_))))))))))))
 obtain rfl := Option.some.inj hs
 exact ⟨h.grown, _, rfl, dH.nil, kU⟩
 refine aD (az (aa (ag (ae (bY rfl rfl ZT) (ae (ak (v := (.int .i64 ((i64 + 1)))) rfl) (ah (ay ?_)))))))
 subst Wh
 exact iQ ⟨Sb + 1, i64 + 1⟩ ⟨h.cn _, by omega, hs⟩ (by have := of_decide_eq_true Q9; dsimp only; omega)
 rw [pE (by have := of_decide_eq_false Q9; omega)] at hs
 refine bT (aH (aH (aT (aa (ai (ag (nM h 14 aV fun w CS h => dX h 14 [(.int .i64 (0))] rfl aV rfl rfl rfl rfl rfl fun w h => ah (aa (ai (ag (nM h 15 vI fun w wW h => dX h 15 [(.bool (true))] rfl vI rfl rfl rfl rfl rfl fun w h => ah (aa (ai (ag (ae (pM (c1 := []) (c2 := [(.pointer (some ⟨CS, 0, none⟩)), (.pointer (some ⟨b6, 0, none⟩)), (.pointer (some ⟨wW, 0, none⟩))]) rfl rfl) (nM h 16 xx fun w Ff h => dX h 16 [(.func (.func 103) #[] #[(.pointer (some ⟨CS, 0, none⟩)), (.pointer (some ⟨b6, 0, none⟩)), (.pointer (some ⟨wW, 0, none⟩))])] rfl xx rfl rfl rfl rfl rfl fun w h => ah (aa ?_)))))))))))))))))
 refine ai (ag (ae (pM (c1 := []) (c2 := [(.pointer (some ⟨wW, 0, none⟩)), (.pointer (some ⟨Ff, 0, none⟩)), (.pointer (some ⟨b7, 0, none⟩))]) rfl rfl) (nM h 17 G8 fun w MK h => dX h 17 [(.func (.func 104) #[] #[(.pointer (some ⟨wW, 0, none⟩)), (.pointer (some ⟨Ff, 0, none⟩)), (.pointer (some ⟨b7, 0, none⟩))])] rfl G8 rfl rfl rfl rfl rfl fun w h => ah (aa (ai (ag (nM h 18 D5 fun w ML h => ah (aa (ai (ag (ae (pM (c1 := []) (c2 := [(.pointer (some ⟨Ff, 0, none⟩)), (.pointer (some ⟨wW, 0, none⟩)), (.pointer (some ⟨MK, 0, none⟩)), (.pointer (some ⟨ML, 0, none⟩))]) rfl rfl) (dX h 18 [(.func (.func 109) #[] #[(.pointer (some ⟨Ff, 0, none⟩)), (.pointer (some ⟨wW, 0, none⟩)), (.pointer (some ⟨MK, 0, none⟩)), (.pointer (some ⟨ML, 0, none⟩))])] rfl D5 rfl rfl rfl rfl rfl fun w h => ah (aa (ai (ai (ag (ae (aF h 3 rfl wo rfl rfl) (ae (bF gK rfl (h.dJ 7 rfl)) (ae (ak (v := (.int .i64 (0))) rfl) ?_)))))))))))))))))))
 refine ah (aa (aL ?_))
 have Ul := (h.dJ 7 rfl).bL
 refine fq (σ := Nat × Int × List dQ × Int × Bool) (inl [19, 87, 88, 89, 90, 91, 92, 93, 94, 95, 96, 97, 98, 99, 100, 101, 102, 103]) (fun ⟨Jf, i101, oQ, y98, y99⟩ => [(87, (.int .i64 (i101)))]) (fun ⟨Jf, i101, oQ, y98, y99⟩ w => SH w0 M BE w (hset [(1, .rd lY u3 y1), (2, .blk b6 [u3]), (3, .blk b7 [v14]), (7, .own gQ 113 v14 oQ), (14, .blk CS [(.int .i64 (y98))]), (15, .blk wW [(.bool (y99))]), (16, .blk Ff [(.func (.func 103) #[] #[(.pointer (some ⟨CS, 0, none⟩)), (.pointer (some ⟨b6, 0, none⟩)), (.pointer (some ⟨wW, 0, none⟩))])]), (17, .blk MK [(.func (.func 104) #[] #[(.pointer (some ⟨wW, 0, none⟩)), (.pointer (some ⟨Ff, 0, none⟩)), (.pointer (some ⟨b7, 0, none⟩))])]), (18, .blk ML [(.func (.func 109) #[] #[(.pointer (some ⟨Ff, 0, none⟩)), (.pointer (some ⟨wW, 0, none⟩)), (.pointer (some ⟨MK, 0, none⟩)), (.pointer (some ⟨ML, 0, none⟩))])])]) ∧ i101 = (Jf : Int) ∧ upto (gy N y1) (il N y1 a) i101 (((uq.length : Int)).toNat - Jf) (oQ, y98, y99) = some r) (fun ⟨Jf, i101, oQ, y98, y99⟩ => ((uq.length : Int)).toNat - Jf) ⟨0, 0, uq, 0, true⟩ ⟨rfl, trivial⟩ ?_ ?_
 exact ⟨h.cn _, rfl, hs⟩
 rintro ⟨Jf, i101, oQ, y98, y99⟩ w dm ⟨h, hik, hs⟩
 refine ai (ag ?_)
 refine ae (dA rfl rfl) (ah (aa ?_))
 refine ai (gH rfl (fun Hl => ?_) (fun Hl => ?_))
 refine aD (aa ?_)
 rw [pz (by have := of_decide_eq_true Hl; omega)] at hs
 generalize Um : upto (gy N y1) (il N y1 a) (i101 + 1) (((uq.length : Int)).toNat - (Jf + 1)) = jB at hs
 have Wi : jb (i101 + 1) := (by have := of_decide_eq_true Hl; have := Ul; exact jb.mk (by omega) (by omega))
 refine ai (aL (ai (ag (ae (ak (v := (.int .i64 (i101))) rfl) (ae (aj (v := (.int .i64 (i101))) rfl) (ah (aa (bU (σ := Int × Bool) (inl [90, 91, 92]) (fun ⟨mZ, Ho⟩ => []) (fun ⟨mZ, Ho⟩ w => SH w0 M BE w (hset [(1, .rd lY u3 y1), (2, .blk b6 [u3]), (3, .blk b7 [v14]), (7, .own gQ 113 v14 oQ), (14, .blk CS [(.int .i64 (mZ))]), (15, .blk wW [(.bool (Ho))]), (16, .blk Ff [(.func (.func 103) #[] #[(.pointer (some ⟨CS, 0, none⟩)), (.pointer (some ⟨b6, 0, none⟩)), (.pointer (some ⟨wW, 0, none⟩))])]), (17, .blk MK [(.func (.func 104) #[] #[(.pointer (some ⟨wW, 0, none⟩)), (.pointer (some ⟨Ff, 0, none⟩)), (.pointer (some ⟨b7, 0, none⟩))])]), (18, .blk ML [(.func (.func 109) #[] #[(.pointer (some ⟨Ff, 0, none⟩)), (.pointer (some ⟨wW, 0, none⟩)), (.pointer (some ⟨MK, 0, none⟩)), (.pointer (some ⟨ML, 0, none⟩))])])]) ∧ gq N y1 oQ i101 jB mZ Ho = some r) ?_ ?_))))))))
 rintro ⟨mZ, Ho⟩ w dm ⟨h, hs⟩
 refine bU (σ := Int × Bool) (inl [93, 94]) (fun ⟨mY, Hm⟩ => []) (fun ⟨mY, Hm⟩ w => SH w0 M BE w (hset [(1, .rd lY u3 y1), (2, .blk b6 [u3]), (3, .blk b7 [v14]), (7, .own gQ 113 v14 oQ), (14, .blk CS [(.int .i64 (mY))]), (15, .blk wW [(.bool (Hm))]), (16, .blk Ff [(.func (.func 103) #[] #[(.pointer (some ⟨CS, 0, none⟩)), (.pointer (some ⟨b6, 0, none⟩)), (.pointer (some ⟨wW, 0, none⟩))])]), (17, .blk MK [(.func (.func 104) #[] #[(.pointer (some ⟨wW, 0, none⟩)), (.pointer (some ⟨Ff, 0, none⟩)), (.pointer (some ⟨b7, 0, none⟩))])]), (18, .blk ML [(.func (.func 109) #[] #[(.pointer (some ⟨Ff, 0, none⟩)), (.pointer (some ⟨wW, 0, none⟩)), (.pointer (some ⟨MK, 0, none⟩)), (.pointer (some ⟨ML, 0, none⟩))])])]) ∧ gp N y1 oQ i101 jB mY Hm = some r) ?_ ?_
 rintro ⟨mY, Hm⟩ w dm ⟨h, hs⟩
 refine bU (σ := Int × Bool) (inl [95, 96]) (fun ⟨Dj, y112⟩ => []) (fun ⟨Dj, y112⟩ w => SH w0 M BE w (hset [(1, .rd lY u3 y1), (2, .blk b6 [u3]), (3, .blk b7 [v14]), (7, .own gQ 113 v14 oQ), (14, .blk CS [(.int .i64 (Dj))]), (15, .blk wW [(.bool (y112))]), (16, .blk Ff [(.func (.func 103) #[] #[(.pointer (some ⟨CS, 0, none⟩)), (.pointer (some ⟨b6, 0, none⟩)), (.pointer (some ⟨wW, 0, none⟩))])]), (17, .blk MK [(.func (.func 104) #[] #[(.pointer (some ⟨wW, 0, none⟩)), (.pointer (some ⟨Ff, 0, none⟩)), (.pointer (some ⟨b7, 0, none⟩))])]), (18, .blk ML [(.func (.func 109) #[] #[(.pointer (some ⟨Ff, 0, none⟩)), (.pointer (some ⟨wW, 0, none⟩)), (.pointer (some ⟨MK, 0, none⟩)), (.pointer (some ⟨ML, 0, none⟩))])])]) ∧ gm N y1 oQ i101 jB Dj y112 = some r) ?_ ?_
 rintro ⟨Dj, y112⟩ w dm ⟨h, hs⟩
 refine rW (L := (fun b => b = CS ∨ b = wW ∨ ob v14 b)) mixed h fun w h => bJ 0 (aQ.refl _ _) rfl aA (by kernel_rfl) (by kernel_rfl) (by kernel_rfl) (fun w hk => have h := h.Od 14 15 7 (by decide) (by decide) (by decide) rfl rfl rfl hk; aF h 3 rfl wo rfl rfl) (bJ 1 (aQ.refl _ _) rfl aA (by kernel_rfl) (by kernel_rfl) (by kernel_rfl) (fun w hk => ak (v := (.int .i64 (i101))) rfl) (bJ 2 (aQ.refl _ _) rfl aA (by kernel_rfl) (by kernel_rfl) (by kernel_rfl) (fun w hk => have h := h.Od 14 15 7 (by decide) (by decide) (by decide) rfl rfl rfl hk; aF h 18 rfl D5 rfl rfl) ?_))
 obtain ⟨Wj, Pb⟩ : ∃ x, x = w := ⟨_, rfl⟩
 have CU : aQ (fun b => b = CS ∨ b = wW ∨ ob v14 b) Wj w := Pb ▸ aQ.refl (fun b => b = CS ∨ b = wW ∨ ob v14 b) w
 refine yj Pb.symm (bW 3 (by kernel_rfl) rfl aA ?_)
 replace h := h.pair 14 15 (by decide)
 obtain ⟨KF, KG, KH⟩ := h.l7 14 (C := (.two (.blk CS [(.int .i64 (Dj))]) (.blk wW [(.bool (y112))]) : Chunk)) rfl ⟨trivial, trivial⟩
 obtain ⟨ja, MM, hs⟩ := aM hs
 refine aO GY rfl rfl (KD N _ _ KH (hT.go h.keep) CS wW b6 Ff b7 MK ML (⟨Dj, y112⟩ : dh) KF KG u3 y1 (h.EY 14 1 rfl rfl) v14 oQ (h.R6 14 7 (by decide) rfl rfl) (h.oU 2 rfl) (fun hb => h.apart 14 2 (by decide) _ hb rfl) (h.oU 16 rfl) (fun hb => h.apart 14 16 (by decide) _ hb rfl) (h.oU 3 rfl) (fun hb => h.apart 14 3 (by decide) _ hb rfl) (h.oU 17 rfl) (fun hb => h.apart 14 17 (by decide) _ hb rfl) (h.oU 18 rfl) (fun hb => h.apart 14 18 (by decide) _ hb rfl) 1 (h.DU hT (fun _ h => h.elim) 14 (C := (.two (.blk CS [(.int .i64 (Dj))]) (.blk wW [(.bool (y112))]) : Chunk)) rfl) _ MM) ?_
 rintro _ w ⟨FY, Vi, rfl, MN, MO, MP⟩
 refine ⟨_, rfl, ?_⟩
 replace h := h.back 14 (C := (.two (.blk CS [(.int .i64 (Dj))]) (.blk wW [(.bool (y112))]) : Chunk)) (C' := (.two (.blk CS [(.int .i64 (ja.2.at_))]) (.blk wW [(.bool (ja.2.ok))]) : Chunk)) rfl ⟨trivial, trivial⟩ MN FY MO
 replace h := h.bG 55 (iU MP)
 replace h := h.iT 14 15 (by decide) rfl rfl
 replace CU := aQ.step CU FY (fun _ hx _ => hx.elim (fun hx => .inl (hx)) (fun hx => .inr (.inl (hx))))
 refine ah (aY CU ?_)
 obtain ⟨uF, Cc, hs⟩ := aM hs
 obtain ⟨Vj, MQ, MR⟩ := h.Ir 7 rfl gK rfl (aX Cc).1 (aX Cc).2
 refine bJ 4 CU rfl aA (by kernel_rfl) (by kernel_rfl) (by kernel_rfl) (fun w hk => MR _ _ _ _ _ _ _ _ _ rfl rfl) (bJ 5 CU rfl aA (by kernel_rfl) (by kernel_rfl) (by kernel_rfl) (fun w hk => au yx rfl) (bW 6 (by kernel_rfl) rfl aA (NT (a' := { uF with body := ja.1 }) h 7 rfl MQ rfl (aX Cc).2 nu rfl rfl (h.fu 55 rfl).one rfl (by rintro _ hq; obtain ⟨p2, rfl, q2⟩ := p8 hq; exact ⟨_, rfl, (h.fu 55 rfl)⟩) fun w h MS => ?_)))
 replace CU := aQ.step CU MS (fun _ hx _ => .inr (.inr (hx)))
 refine ah (aY CU (jE (by kernel_rfl) (az (aa (ag (ae (bY rfl rfl Wi) (ae (ak (v := (.int .i64 ((i101 + 1)))) rfl) (ah (ay ?_)))))))))
 subst Um
 exact iQ ⟨Jf + 1, i101 + 1, (oQ.set (i101).toNat { uF with body := ja.1 }), ja.2.at_, ja.2.ok⟩ ⟨h.cn _, by omega, hs⟩ (by have := of_decide_eq_true Hl; dsimp only; omega)
 refine ag (ae (aF h 16 rfl xx rfl rfl) (jh (args := [(.pointer (some ⟨CS, 0, none⟩)), (.pointer (some ⟨b6, 0, none⟩)), (.pointer (some ⟨wW, 0, none⟩))]) xu rfl rfl (aK (args := [(.pointer (some ⟨CS, 0, none⟩)), (.pointer (some ⟨b6, 0, none⟩)), (.pointer (some ⟨wW, 0, none⟩))]) Tryz.func103 rfl Tryz.ntmps103 (Nat.le_of_ble_eq_true rfl) (ai (ag (ae (aj (v := (aP [])) rfl) (ah (aa (ai (ai (ag (ae (aF h 14 rfl aV rfl rfl) (ae (aF h 2 rfl ll rfl rfl) (ae (bF dN rfl (h.mU 1 rfl)) (ae (oL rfl rfl) (ah (aa (aJ hs rfl (fun Un hs => ?_) (fun Un hs => ?_)))))))))))))))))))
 refine ai (ag (dX h 15 [(.bool (false))] rfl vI rfl rfl rfl rfl rfl fun w h => ah (aa (ai (ag (ae (aj (v := (aP [])) rfl) (ah (aa (aI (aB (bI (v := (aP [])) Tryz.results103 rfl (⟨_, rfl, ?_⟩))))))))))))
 refine ah (ay ?_)
 exact bR (mY, false) ⟨h.cn _, hs⟩
 refine aD (aa (ai (ag (ae (aF h 14 rfl aV rfl rfl) ?_))))
 obtain ⟨ZV, hs⟩ := aZ hs
 refine ae (bY rfl rfl ZV) (dX h 14 [(.int .i64 ((mY + 1)))] rfl aV rfl rfl rfl rfl rfl fun w h => ah (aa (ai (ag (ae (aF h 2 rfl ll rfl rfl) (ae (aF h 14 rfl aV rfl rfl) ?_))))))
 obtain ⟨a127, hs⟩ := aZ hs
 refine ae (rT rfl rfl a127) ?_
 obtain ⟨Rh, e129, hs⟩ := aM hs
 obtain ⟨b131, o132, cs133, h, ZW, i130⟩ := h.FD 1 115 rfl dN rfl (aX e129).1 (aX e129).2
 obtain rfl := ZW
 refine ae (i130 _ _ _ _ _ _ _ _ _ rfl rfl) (ae (ed (k := 0) h 115 rfl wu rfl rfl) (ae (aj (v := (aP Rh)) rfl) (ah (aa (aI (bI (v := (aP Rh)) Tryz.results103 rfl (⟨_, rfl, ?_⟩)))))))
 refine ah (ay ?_)
 exact bR ((mY + 1), Hm) ⟨h.cn _, hs⟩
 refine ag (ae (aF h 16 rfl xx rfl rfl) (jh (args := [(.pointer (some ⟨CS, 0, none⟩)), (.pointer (some ⟨b6, 0, none⟩)), (.pointer (some ⟨wW, 0, none⟩))]) xu rfl rfl (aK (args := [(.pointer (some ⟨CS, 0, none⟩)), (.pointer (some ⟨b6, 0, none⟩)), (.pointer (some ⟨wW, 0, none⟩))]) Tryz.func103 rfl Tryz.ntmps103 (Nat.le_of_ble_eq_true rfl) (ai (ag (ae (aj (v := (aP [])) rfl) (ah (aa (ai (ai (ag (ae (aF h 14 rfl aV rfl rfl) (ae (aF h 2 rfl ll rfl rfl) (ae (bF dN rfl (h.mU 1 rfl)) (ae (oL rfl rfl) (ah (aa (aJ hs rfl (fun ZX hs => ?_) (fun ZX hs => ?_)))))))))))))))))))
 refine ai (ag (dX h 15 [(.bool (false))] rfl vI rfl rfl rfl rfl rfl fun w h => ah (aa (ai (ag (ae (aj (v := (aP [])) rfl) (ah (aa (aI (aB (bI (v := (aP [])) Tryz.results103 rfl (⟨_, rfl, ?_⟩))))))))))))
 refine ah (ay ?_)
 exact bR (mZ, false) ⟨h.cn _, hs⟩
 refine aD (aa (ai (ag (ae (aF h 14 rfl aV rfl rfl) ?_))))
 obtain ⟨ZY, hs⟩ := aZ hs
 refine ae (bY rfl rfl ZY) (dX h 14 [(.int .i64 ((mZ + 1)))] rfl aV rfl rfl rfl rfl rfl fun w h => ah (aa (ai (ag (ae (aF h 2 rfl ll rfl rfl) (ae (aF h 14 rfl aV rfl rfl) ?_))))))
 obtain ⟨ZZ, hs⟩ := aZ hs
 refine ae (rT rfl rfl ZZ) ?_
 obtain ⟨Ri, MU, hs⟩ := aM hs
 obtain ⟨b141, o142, cs143, h, Z0, i140⟩ := h.FD 1 116 rfl dN rfl (aX MU).1 (aX MU).2
 obtain rfl := Z0
 refine ae (i140 _ _ _ _ _ _ _ _ _ rfl rfl) (ae (ed (k := 0) h 116 rfl wu rfl rfl) (ae (aj (v := (aP Ri)) rfl) (ah (aa (aI (bI (v := (aP Ri)) Tryz.results103 rfl (⟨_, rfl, ?_⟩)))))))
 refine ah (ay ?_)
 exact bR ((mZ + 1), Ho) ⟨h.cn _, hs⟩
 refine bU (σ := Bool × Int × Bool) (inl [90, 91, 92]) (fun ⟨Je, Dk, Hq⟩ => [(92, (.bool (Je)))]) (fun ⟨Je, Dk, Hq⟩ w => SH w0 M BE w (hset [(1, .rd lY u3 y1), (2, .blk b6 [u3]), (3, .blk b7 [v14]), (7, .own gQ 113 v14 oQ), (14, .blk CS [(.int .i64 (Dk))]), (15, .blk wW [(.bool (Hq))]), (16, .blk Ff [(.func (.func 103) #[] #[(.pointer (some ⟨CS, 0, none⟩)), (.pointer (some ⟨b6, 0, none⟩)), (.pointer (some ⟨wW, 0, none⟩))])]), (17, .blk MK [(.func (.func 104) #[] #[(.pointer (some ⟨wW, 0, none⟩)), (.pointer (some ⟨Ff, 0, none⟩)), (.pointer (some ⟨b7, 0, none⟩))])]), (18, .blk ML [(.func (.func 109) #[] #[(.pointer (some ⟨Ff, 0, none⟩)), (.pointer (some ⟨wW, 0, none⟩)), (.pointer (some ⟨MK, 0, none⟩)), (.pointer (some ⟨ML, 0, none⟩))])])]) ∧ gu N y1 oQ i101 jB Je Dk Hq = some r) ?_ ?_
 rintro ⟨Je, Dk, Hq⟩ w dm ⟨h, hs⟩
 refine aJ hs rfl (fun c148 hs => ?_) (fun c148 hs => ?_)
 refine ag (dX h 15 [(.bool (false))] rfl vI rfl rfl rfl rfl rfl fun w h => ah (ay ?_))
 exact bR (Dk, false) ⟨h.cn _, hs⟩
 refine aD (ay ?_)
 exact bR (Dk, Hq) ⟨h.cn _, hs⟩
 refine ag (ae (aF h 16 rfl xx rfl rfl) (jh (args := [(.pointer (some ⟨CS, 0, none⟩)), (.pointer (some ⟨b6, 0, none⟩)), (.pointer (some ⟨wW, 0, none⟩))]) xu rfl rfl (aK (args := [(.pointer (some ⟨CS, 0, none⟩)), (.pointer (some ⟨b6, 0, none⟩)), (.pointer (some ⟨wW, 0, none⟩))]) Tryz.func103 rfl Tryz.ntmps103 (Nat.le_of_ble_eq_true rfl) (ai (ag (ae (aj (v := (aP [])) rfl) (ah (aa (ai (ai (ag (ae (aF h 14 rfl aV rfl rfl) (ae (aF h 2 rfl ll rfl rfl) (ae (bF dN rfl (h.mU 1 rfl)) (ae (oL rfl rfl) (ah (aa (aJ hs rfl (fun Z4 hs => ?_) (fun Z4 hs => ?_)))))))))))))))))))
 refine ai (ag (dX h 15 [(.bool (false))] rfl vI rfl rfl rfl rfl rfl fun w h => ah (aa (ai (ag (ae (aj (v := (aP [])) rfl) (ah (aa (aI (aB (bI (v := (aP [])) Tryz.results103 rfl (⟨_, rfl, ?_⟩))))))))))))
 refine ae (DR rfl rfl) (ah (ay ?_))
 exact bR (true, y98, false) ⟨h.cn _, hs⟩
 refine aD (aa (ai (ag (ae (aF h 14 rfl aV rfl rfl) ?_))))
 obtain ⟨Z5, hs⟩ := aZ hs
 refine ae (bY rfl rfl Z5) (dX h 14 [(.int .i64 ((y98 + 1)))] rfl aV rfl rfl rfl rfl rfl fun w h => ah (aa (ai (ag (ae (aF h 2 rfl ll rfl rfl) (ae (aF h 14 rfl aV rfl rfl) ?_))))))
 obtain ⟨Z6, hs⟩ := aZ hs
 refine ae (rT rfl rfl Z6) ?_
 obtain ⟨x152, e153, hs⟩ := aM hs
 obtain ⟨b155, o156, cs157, h, Z7, i154⟩ := h.FD 1 117 rfl dN rfl (aX e153).1 (aX e153).2
 obtain rfl := Z7
 refine ae (i154 _ _ _ _ _ _ _ _ _ rfl rfl) (ae (ed (k := 0) h 117 rfl wu rfl rfl) (ae (aj (v := (aP x152)) rfl) (ah (aa (aI (bI (v := (aP x152)) Tryz.results103 rfl (⟨_, rfl, ?_⟩)))))))
 refine ae (DR rfl rfl) (ah (ay ?_))
 exact bR (decide ((x152 : Str) ≠ [102, 117, 110]), (y98 + 1), y99) ⟨h.cn _, hs⟩
 rw [pE (by have := of_decide_eq_false Hl; omega)] at hs
 refine bT (aH (aH (aT (aa (ai (bU (σ := Bool) (inl [104, 105, 106, 107, 108, 109, 110, 111, 112, 113, 114, 115, 116, 117, 118, 119, 120, 121, 122]) (fun x159 => [(122, (.bool (x159)))]) (fun x159 w => SH w0 M BE w (hset [(3, .blk b7 [v14]), (7, .own gQ 113 v14 oQ)]) ∧ ik oQ x159 = some r) ?_ ?_))))))
 rintro x159 w dm ⟨h, hs⟩
 refine aJ hs rfl (fun c160 hs => ?_) (fun c160 hs => ?_)
 refine ai (ag (ae (aj (v := (.slice none 0 0)) rfl) (ae (aj (v := (.int .i64 (1))) rfl) (ah (aa (aI (aB (zD (v1 := (.slice none 0 0)) (v2 := (.int .i64 (1))) Tryz.results77 rfl rfl ?_))))))))
 obtain rfl := Option.some.inj hs
 exact ⟨h.grown, _, rfl, dH.nil, kU⟩
 refine aD (aa (ai (ag (ae (aF h 3 rfl wo rfl rfl) (ae (aj (v := v14) rfl) (ae (aj (v := (.int .i64 (0))) rfl) (ah (aa (aI (zD (v1 := v14) (v2 := (.int .i64 (0))) Tryz.results77 rfl rfl ?_))))))))))
 obtain rfl := Option.some.inj hs
 exact ⟨h.grown, _, rfl, (h.kJ 7 rfl).1, (h.kJ 7 rfl).2⟩
 refine ag (ae (aF h 15 rfl vI rfl rfl) (ae (fZ rfl) (ae (ak (v := (.bool ((!y99)))) rfl) (aC rfl rfl (fun q => aF h 14 rfl aV rfl rfl) (aC rfl rfl (fun q => aF h 2 rfl ll rfl rfl) (aC rfl rfl (fun q => bF dN (cO q) (h.mU 1 rfl)) (aC rfl rfl (fun q => dA (cO q) (cO q)) (ae (gM rfl rfl mR) (ae (ak (v := (.bool (((!y99) || decide ((y98 : Int) < (y1.length : Int)))))) rfl) (ma (b := ((!y99) || decide ((y98 : Int) < (y1.length : Int)))) hs (fun Hr hs => ?_) (fun Hr hs => ?_)))))))))))
 refine bH (b' := true) rfl (congrArg Value.bool Hr) rfl (bH (b' := true) rfl (congrArg Value.bool Hr) rfl (bH (b' := true) rfl (congrArg Value.bool Hr) rfl (ae (fw (b := true) (v := (.bool (true))) (congrArg Value.bool Hr) rfl) (ae (ak (v := (.bool (true))) rfl) (bH (b' := true) rfl rfl rfl (bH (b' := true) rfl rfl rfl (bH (b' := true) rfl rfl rfl (bH (b' := true) rfl rfl rfl (ae (fw (b := true) (v := (.bool (true))) rfl rfl) (ah (ay ?_)))))))))))
 exact bR true ⟨h.cn _, hs⟩
 refine dG rfl (congrArg Value.bool Hr) (ae (aF h 3 rfl wo rfl rfl) (dG rfl (congrArg Value.bool Hr) ?_))
 obtain ⟨O9, Z8, hs⟩ := aM hs
 refine aO QX rfl rfl (u7 N _ _ h.lt v14 oQ (h.dJ 7 rfl) _ Z8) ?_
 rintro _ w ⟨Z9, rfl⟩
 refine ⟨_, rfl, ?_⟩
 replace h := h.grow Z9
 refine dG rfl (congrArg Value.bool Hr) (ae (iH rfl rfl) (ae (fw (b := false) (v := (.bool (decide ((O9 : Int) ≠ 0)))) (congrArg Value.bool Hr) rfl) (ae (ak (v := (.bool (decide ((O9 : Int) ≠ 0)))) rfl) (ma (b := decide ((O9 : Int) ≠ 0)) hs (fun Ed hs => ?_) (fun Ed hs => ?_)))))
 refine bH (b' := true) rfl (congrArg Value.bool Ed) rfl (bH (b' := true) rfl (congrArg Value.bool Ed) rfl (bH (b' := true) rfl (congrArg Value.bool Ed) rfl (bH (b' := true) rfl (congrArg Value.bool Ed) rfl (ae (fw (b := true) (v := (.bool (true))) (congrArg Value.bool Ed) rfl) (ah (ay ?_))))))
 exact bR true ⟨h.cn _, hs⟩
 refine dG rfl (congrArg Value.bool Ed) (ae (aF h 3 rfl wo rfl rfl) (dG rfl (congrArg Value.bool Ed) ?_))
 obtain ⟨Rj, e167, hs⟩ := aM hs
 refine aO QY rfl rfl (vK N _ _ h.lt (hT.go h.keep) v14 oQ (h.dJ 7 rfl) _ e167) ?_
 rintro _ w ⟨aaa, rfl⟩
 refine ⟨_, rfl, ?_⟩
 replace h := h.grow aaa
 refine dG rfl (congrArg Value.bool Ed) (ae (ak (v := (aP a)) rfl) (dG rfl (congrArg Value.bool Ed) (ae (DR rfl rfl) (ae (fw (b := false) (v := (.bool (decide ((Rj : Str) ≠ a)))) (congrArg Value.bool Ed) rfl) (ah (ay ?_))))))
 exact bR (decide ((Rj : Str) ≠ a)) ⟨h.cn _, hs⟩
def ji (N : Nat) : Option (List dQ) :=
  (jq N [102, 117, 110, 32, 48, 32, 49, 32, 123, 32, 115, 101, 116, 32, 48, 32, 51, 32, 119, 104, 105, 108, 101, 32, 118, 48, 32, 123, 32, 115, 97, 121, 32, 102, 49, 32, 118, 48, 32, 118, 48, 32, 103, 111, 32, 118, 48, 32, 112, 97, 117, 115, 101, 32, 115, 101, 116, 32, 48, 32, 45, 32, 118, 48, 32, 49, 32, 125, 32, 125, 32, 102, 117, 110, 32, 50, 32, 50, 32, 123, 32, 114, 101, 116, 117, 114, 110, 32, 42, 32, 118, 48, 32, 118, 49, 32, 125]).bind fun y1 => some y1.1
theorem xV (N : Nat) (w0 : World) (M : BS) (hM : ∀ b, M b → b < w0.heap.size) (hT : rY Tryz.prog 4 w0)  (r : List dQ) (hs : ji N = some r) :
    Calls Tryz.prog 40 #[] w0 (fun e w' => Grow w0 w' ∧ ∃ u0, e = .returned (u0) ∧ dH gQ 113 w' M u0 r ∧ (∀ b, ob u0 b → w0.heap.size ≤ b)) := by
 refine aK (args := []) Tryz.func40 rfl Tryz.ntmps40 (Nat.le_of_ble_eq_true rfl) ?_
 have h := SH.init hM
 refine ai (ag (ae (aj (v := (.slice none 0 0)) rfl) (ah (aa (ai (ag ?_))))))
 obtain ⟨y1, e2, hs⟩ := aM hs
 refine aO TJ rfl rfl (vM N _ _ h.lt (hT.go h.keep) [102, 117, 110, 32, 48, 32, 49, 32, 123, 32, 115, 101, 116, 32, 48, 32, 51, 32, 119, 104, 105, 108, 101, 32, 118, 48, 32, 123, 32, 115, 97, 121, 32, 102, 49, 32, 118, 48, 32, 118, 48, 32, 103, 111, 32, 118, 48, 32, 112, 97, 117, 115, 101, 32, 115, 101, 116, 32, 48, 32, 45, 32, 118, 48, 32, 49, 32, 125, 32, 125, 32, 102, 117, 110, 32, 50, 32, 50, 32, 123, 32, 114, 101, 116, 117, 114, 110, 32, 42, 32, 118, 48, 32, 118, 49, 32, 125] _ e2) ?_
 rintro _ w ⟨k6, u3, rfl, g4, g5⟩
 refine ⟨_, rfl, ?_⟩
 replace h := h.jm 1 k6 g4 g5
 refine ae (ak (v := (.tuple #[u3, (.int .i64 (y1.2))])) rfl) (ae (bC rfl rfl) (ae (bC rfl rfl) (ae (aj (v := u3) rfl) (ae (aj (v := (.int .i64 (y1.2))) rfl) (ah (aa (ai (ag (ae (ak (v := u3) rfl) (ae (aj (v := u3) rfl) (ah (aa (aI (bI (v := u3) Tryz.results40 rfl ?_))))))))))))))
 obtain rfl := Option.some.inj hs
 exact ⟨h.grown, _, rfl, (h.kJ 1 rfl).1, (h.kJ 1 rfl).2⟩
def eu (x31 : List Ins) (c : Int) (x34 : Int) (wX : Int) (Pf : Int) (Be : Int) (zm : List Int) : Option (List Ins × Int) :=
  gG (Room 56 x31 [(⟨wX, c, Pf, Be, zm⟩ : Ins)]) (some ((x31 ++ [(⟨wX, c, Pf, Be, zm⟩ : Ins)]), x34))
def nC (F0 : List Tok → List dQ → Int → Option (List Ins × Int)) (y9 : Int) (a : List Tok) (c : Int) (b : List dQ) (x1 : Tok) (s : List Ins × List Int × Int × Int) (Pg : List Ins × List Int × Int × Int → Option (List Ins × Int)) : Option (List Ins × Int) :=
  match s with | (x31, Aw, x34, wT) => bif decide ((wT : Int) < y9) then (sub? a x34 (a.length : Int)).bind fun Vk => gG (jb (c + wT)) ((F0 Vk b (c + wT)).bind fun p9 => gG (Room 56 x31 p9.1) (gG (jb (x34 + p9.2)) (gG (jb (c + wT)) (gG (Room 8 Aw [(c + wT)]) (gG (jb (wT + 1)) (Pg ((x31 ++ p9.1), (Aw ++ [(c + wT)]), (x34 + p9.2), (wT + 1)))))))) else bif decide ((x1.kind : Int) = 1) then eu x31 c x34 1 x1.n 0 [] else bif decide ((x1.kind : Int) = 2) then eu x31 c x34 2 x1.n 0 [] else bif decide ((x1.kind : Int) = 5) then eu x31 c x34 5 x1.n 0 [] else bif decide ((x1.kind : Int) = 3) then gG (jb (c + 1)) (eu x31 c x34 3 c (c + 1) [x1.n]) else bif decide ((x1.kind : Int) = 4) then eu x31 c x34 4 c x1.n [] else bif decide ((x1.kind : Int) = 6) then eu x31 c x34 7 x1.n 0 Aw else eu x31 c x34 0 x1.n 0 []
def sI (N : Nat) (F0 : List Tok → List dQ → Int → Option (List Ins × Int)) (a : List Tok) (b : List dQ) (c : Int) : Option (List Ins × Int) :=
  (idx a 0).bind fun x1 => (oD x1 b).bind fun y9 => again (nC F0 y9 a c b x1) N ([], [], 1, 0)
def iL : Nat → List Tok → List dQ → Int → Option (List Ins × Int)
  | 0 => fun _ _ _ => none
  | N + 1 => sI N (iL N)
theorem sJ : ∀ (N : Nat) (w0 : World) (M : BS) (hM : ∀ b, M b → b < w0.heap.size) (va : Value) (a : List Tok) (ha : eZ jo w0 BE M va a) (vb : Value) (b : List dQ) (hb : eZ gQ w0 BE M vb b) (c : Int) (r : List Ins × Int) (hs : iL N a b c = some r),
    Calls Tryz.prog 100 #[va, vb, (.int .i64 (c))] w0 (fun e w' => Grow w0 w' ∧ ∃ u0, e = .returned (.tuple #[u0, .int .i64 r.2]) ∧ dH iG 93 w' M u0 r.1 ∧ (∀ b, ob u0 b → w0.heap.size ≤ b)) := by
 intro N
 induction N with
 | zero => intro w0 M hM va a ha vb b hb c r hs; cases hs
 | succ N ih =>
 intro w0 M hM va a ha vb b hb c r hs
 replace hs : sI N (iL N) a b c = some r := hs
 generalize iL N = F0 at hs ih
 refine aK (args := [va, vb, (.int .i64 (c))]) Tryz.func100 rfl Tryz.ntmps100 (Nat.le_of_ble_eq_true rfl) ?_
 have h := SH.init hM
 replace h := h.dU 1 ha aW
 replace h := h.dU 2 hb (bD aW)
 have tC := ha.bL
 have Fe := hb.bL
 refine ai (ag (ae (aj (v := (.slice none 0 0)) rfl) (ae (aj (v := (.int .i64 (0))) rfl) (ah (aa (ai (ag (ae (ak (v := va) rfl) ?_))))))))
 obtain ⟨x1, e2, hs⟩ := aM hs
 obtain ⟨b4, o5, cs6, h, r7, i3⟩ := h.wZ 1 3 rfl jd rfl (aX e2).1 (aX e2).2
 obtain rfl := r7
 refine ae (i3 _ _ _ _ _ _ _ _ _ rfl rfl) (ae (iF (k := 0) (vs := [(.int .i64 (x1.kind)), (.int .i64 (x1.n))]) h 3 rfl iZ rfl rfl rfl (Nat.le_of_ble_eq_true rfl)) (bP h 4 iZ fun w b8 h => dV (vs := [(.int .i64 (x1.kind)), (.int .i64 (x1.n))]) h 4 [(.int .i64 (x1.kind)), (.int .i64 (x1.n))] rfl iZ rfl rfl rfl rfl rfl (ax rfl (ax rfl bA)) fun w h => ah (aa (ai (ag (ae (aj (v := (.slice none 0 0)) rfl) (ah (aa (ai (ag (ae (aj (v := (.slice none 0 0)) rfl) (ah (aa (ai (ag (ae (aj (v := (.int .i64 (1))) rfl) (ah (aa (ai (ai (ag ?_)))))))))))))))))))))
 refine ae (fA (vs := [(.int .i64 (x1.kind)), (.int .i64 (x1.n))]) h 4 rfl iZ rfl rfl rfl) (ae (ak (v := vb) rfl) ?_)
 obtain ⟨y9, e10, hs⟩ := aM hs
 refine aO GX rfl rfl (pO _ _ h.lt x1 vb b (h.fV 2 rfl) _ e10) ?_
 rintro _ w ⟨k11, rfl⟩
 refine ⟨_, rfl, ?_⟩
 replace h := h.grow k11
 refine ae (ak (v := (.int .i64 (0))) rfl) (ah (aa (aL ?_)))
 replace h := h.vG (R := iG) (E := 93) 11
 replace h := h.vG (R := cZ) (E := 3) 12
 refine fq (σ := Nat × Value × List Ins × Value × List Int × Int × Int) (inl [9, 10, 11, 12, 13, 14, 22, 23, 24, 25, 26, 27, 28, 29, 30, 31, 32, 33, 34, 35, 36, 37, 38, 39, 40, 41, 42, 43, 44, 45, 46, 47, 48]) (fun ⟨Uo, v30, x31, v32, Aw, x34, wT⟩ => [(9, v30), (10, v32), (11, (.int .i64 (x34))), (22, (.int .i64 (wT)))]) (fun ⟨Uo, v30, x31, v32, Aw, x34, wT⟩ w => SH w0 M BE w (hset [(1, .sr jo va a), (2, .sr gQ vb b), (4, .blk b8 [(.int .i64 (x1.kind)), (.int .i64 (x1.n))]), (11, .own iG 93 v30 x31), (12, .own cZ 3 v32 Aw)]) ∧ again (nC F0 y9 a c b x1) Uo (x31, Aw, x34, wT) = some r) (fun ⟨Uo, v30, x31, v32, Aw, x34, wT⟩ => Uo) ⟨N, (.slice none 0 0), [], (.slice none 0 0), [], 1, 0⟩ ⟨rfl, rfl, rfl, rfl, trivial⟩ ?_ ?_
 exact ⟨h.cn _, hs⟩
 rintro ⟨Uo, v30, x31, v32, Aw, x34, wT⟩ w dm ⟨h, hs⟩
 obtain ⟨Wl, aab, aac⟩ := nk hs
 subst aab
 replace hs := aac
 generalize Ph : again (nC F0 y9 a c b x1) Wl = Pg at hs
 refine ai (ag (ae (dA rfl rfl) (ah (aa (ai (aJ hs rfl (fun YY hs => ?_) (fun YY hs => ?_)))))))
 refine aD (aa (ai (aL (ai (ag (ae (ak (v := (.int .i64 (wT))) rfl) (ae (aj (v := (.int .i64 (wT))) rfl) (ah (aa (ai (ag (ae (ak (v := va) rfl) (ae (ak (v := (.int .i64 (x34))) rfl) ?_)))))))))))))
 obtain ⟨Vk, e45, hs⟩ := aM hs
 obtain ⟨e48, aad, aae, aaf⟩ := Io e45
 obtain ⟨u46, h, i47⟩ := h.slS 1 13 rfl jd rfl aad aae aaf
 rw [← e48] at h
 refine ae (i47 _ _ _ _ _ _ _ _ _ _ rfl (.inr (congrArg some rfl)) (.inl ⟨rfl, rfl⟩)) (ae (ak (v := vb) rfl) (ae (ak (v := (.int .i64 (c))) rfl) (ae (ak (v := (.int .i64 (wT))) rfl) ?_)))
 obtain ⟨a49, hs⟩ := aZ hs
 refine ae (bY rfl rfl a49) ?_
 obtain ⟨p9, e51, hs⟩ := aM hs
 refine aO GU rfl rfl (ih _ _ h.lt u46 Vk (h.fV 13 rfl) vb b (h.fV 2 rfl) (c + wT) _ e51) ?_
 rintro _ w ⟨YQ, XV, rfl, g53, g54⟩
 refine ⟨_, rfl, ?_⟩
 replace h := h.jm 14 YQ g53 g54
 refine ae (ak (v := (.tuple #[XV, (.int .i64 (p9.2))])) rfl) (ae (bC rfl rfl) (ae (bC rfl rfl) (ae (aj (v := XV) rfl) (ae (aj (v := (.int .i64 (p9.2))) rfl) (ah (aa (ag (ae (ak (v := v30) rfl) (ae (ak (v := XV) rfl) ?_)))))))))
 obtain ⟨a56, hs⟩ := aZ hs
 refine jg (R := iG) (m := p9.1) h 11 rfl (h.dJ 14 rfl) dP rfl rfl rfl a56.1 a56.2 fun w ZR h => ae (ak (v := (.int .i64 (x34))) rfl) (ae (ak (v := (.int .i64 (p9.2))) rfl) ?_)
 obtain ⟨a58, hs⟩ := aZ hs
 refine ae (bY rfl rfl a58) (ae (ak (v := v32) rfl) (ae (ak (v := (.int .i64 (c))) rfl) (ae (ak (v := (.int .i64 (wT))) rfl) ?_)))
 obtain ⟨a59, hs⟩ := aZ hs
 refine ae (bY rfl rfl a59) (oV (R := cZ) (vs := [(.int .i64 ((c + wT)))]) (xs := [(c + wT)]) h 15 fP rfl rfl rfl ⟨rfl, trivial⟩ rfl fun w u60 h => ?_)
 obtain ⟨a61, hs⟩ := aZ hs
 refine jg (R := cZ) (m := [(c + wT)]) h 12 rfl (h.dJ 15 rfl) fP rfl rfl rfl a61.1 a61.2 fun w U7 h => ae (aj (v := ZR) rfl) (ae (aj (v := (.int .i64 ((x34 + p9.2)))) rfl) (ae (aj (v := U7) rfl) (ah (az (aa (ag ?_))))))
 obtain ⟨a63, hs⟩ := aZ hs
 refine ae (bY rfl rfl a63) (ae (ak (v := (.int .i64 ((wT + 1)))) rfl) (ah (ay ?_)))
 subst Ph
 exact iQ ⟨Wl, ZR, (x31 ++ p9.1), U7, (Aw ++ [(c + wT)]), (x34 + p9.2), (wT + 1)⟩ ⟨h.cn _, hs⟩
 refine bT (aH (aH (aT (aa (ai (ag (ae (ak (v := (.int .i64 (c))) rfl) (ae (au lJ rfl) (ae (aF h 4 rfl aV rfl rfl) (ae (eD (pv := [(1, (.int .i64 (c))), (2, (.int .i64 (x1.n)))]) (out := [(.int .i64 (0)), (.int .i64 (c)), (.int .i64 (x1.n)), (.int .i64 (0)), (.slice none 0 0)]) kW rfl ⟨1, 1, [(.int .i64 (c))], rfl, rfl, rfl, Nat.le_of_ble_eq_true rfl, ⟨2, 1, [(.int .i64 (x1.n))], rfl, rfl, rfl, Nat.le_of_ble_eq_true rfl, rfl⟩⟩) (bP h 16 uL fun w b64 h => dV (vs := [(.int .i64 (0)), (.int .i64 (c)), (.int .i64 (x1.n)), (.int .i64 (0)), (.slice none 0 0)]) h 16 [(.int .i64 (0)), (.int .i64 (c)), (.int .i64 (x1.n)), (.int .i64 (0)), (.slice none 0 0)] rfl uL rfl rfl rfl rfl rfl (ax rfl (ax rfl (ax rfl (ax rfl (ax rfl bA))))) fun w h => ah (aa (bU (σ := Int × Int × Int × Value × List Int) (inl [53, 54, 55, 56, 57, 58, 59, 60, 61, 62, 63, 64, 65, 66, 67, 68, 69, 70, 71, 72, 73, 74, 75, 76, 77, 78, 79, 80, 81, 82, 83, 84, 85]) (fun ⟨wX, Pf, Be, v68, zm⟩ => []) (fun ⟨wX, Pf, Be, v68, zm⟩ w => SH w0 M BE w (hset [(11, .own iG 93 v30 x31), (16, .blk b64 [(.int .i64 (wX)), (.int .i64 (c)), (.int .i64 (Pf)), (.int .i64 (Be)), v68]), (17, .own cZ 3 v68 zm)]) ∧ eu x31 c x34 wX Pf Be zm = some r) ?_ ?_)))))))))))))
 rintro ⟨wX, Pf, Be, v68, zm⟩ w dm ⟨h, hs⟩
 refine ai (ag (ae (ak (v := v30) rfl) (ae (fA (vs := [(.int .i64 (wX)), (.int .i64 (c)), (.int .i64 (Pf)), (.int .i64 (Be)), v68]) h 16 rfl uL rfl rfl rfl) ?_)))
 replace h := h.freeze 17 rfl
 refine oV (R := iG) (vs := [(.agg #[(.int .i64 (wX)), (.int .i64 (c)), (.int .i64 (Pf)), (.int .i64 (Be)), v68])]) (xs := [(⟨wX, c, Pf, Be, zm⟩ : Ins)]) h 18 dP rfl rfl rfl ⟨⟨_, rfl, (h.fu 17 rfl)⟩, trivial⟩ rfl fun w u70 h => ?_
 obtain ⟨a71, hs⟩ := aZ hs
 refine jg (R := iG) (m := [(⟨wX, c, Pf, Be, zm⟩ : Ins)]) h 11 rfl (h.dJ 18 rfl) dP rfl rfl rfl a71.1 a71.2 fun w u72 h => ae (ak (v := (.int .i64 (x34))) rfl) (ae (aj (v := u72) rfl) (ae (aj (v := (.int .i64 (x34))) rfl) (ah (aa (aI (zD (v1 := u72) (v2 := (.int .i64 (x34))) Tryz.results100 rfl rfl ?_))))))
 obtain rfl := Option.some.inj hs
 exact ⟨h.grown, _, rfl, (h.kJ 11 rfl).1, (h.kJ 11 rfl).2⟩
 refine ai (ag (ae (au A7 rfl) (ae (aF h 4 rfl aV rfl rfl) (ah (aa (aL (ai (ag (ae (bM rfl rfl) (ae (aj (v := (.bool (decide ((x1.kind : Int) = 1)))) rfl) (ah (aa (aJ hs rfl (fun YD hs => ?_) (fun YD hs => ?_))))))))))))))
 refine ag (ae (au rH rfl) (dX h 16 [(.int .i64 (1)), (.int .i64 (c)), (.int .i64 (x1.n)), (.int .i64 (0)), (.slice none 0 0)] rfl aV rfl rfl rfl rfl rfl fun w h => ah (az (ay ?_))))
 replace h := h.vG (R := cZ) (E := 3) 17
 exact bR (1, x1.n, 0, (.slice none 0 0), []) ⟨h.cn _, hs⟩
 refine ai (ag (ae (bM rfl rfl) (ae (aj (v := (.bool (decide ((x1.kind : Int) = 2)))) rfl) (ah (aa (aJ hs rfl (fun Zl hs => ?_) (fun Zl hs => ?_)))))))
 refine ag (ae (au rH rfl) (dX h 16 [(.int .i64 (2)), (.int .i64 (c)), (.int .i64 (x1.n)), (.int .i64 (0)), (.slice none 0 0)] rfl aV rfl rfl rfl rfl rfl fun w h => ah (az (ay ?_))))
 replace h := h.vG (R := cZ) (E := 3) 17
 exact bR (2, x1.n, 0, (.slice none 0 0), []) ⟨h.cn _, hs⟩
 refine ai (ag (ae (bM rfl rfl) (ae (aj (v := (.bool (decide ((x1.kind : Int) = 5)))) rfl) (ah (aa (aJ hs rfl (fun c75 hs => ?_) (fun c75 hs => ?_)))))))
 refine ag (ae (au rH rfl) (dX h 16 [(.int .i64 (5)), (.int .i64 (c)), (.int .i64 (x1.n)), (.int .i64 (0)), (.slice none 0 0)] rfl aV rfl rfl rfl rfl rfl fun w h => ah (az (ay ?_))))
 replace h := h.vG (R := cZ) (E := 3) 17
 exact bR (5, x1.n, 0, (.slice none 0 0), []) ⟨h.cn _, hs⟩
 refine ai (ag (ae (bM rfl rfl) (ae (aj (v := (.bool (decide ((x1.kind : Int) = 3)))) rfl) (ah (aa (aJ hs rfl (fun c76 hs => ?_) (fun c76 hs => ?_)))))))
 refine ag (ae (ak (v := (.int .i64 (c))) rfl) (ae (ak (v := (.int .i64 (c))) rfl) (ae (ak (v := (.int .i64 (c))) rfl) ?_)))
 obtain ⟨a77, hs⟩ := aZ hs
 refine ae (bY rfl rfl a77) (ae (au lJ rfl) (ae (aF h 4 rfl aV rfl rfl) (oV (R := cZ) (vs := [(.int .i64 (x1.n))]) (xs := [x1.n]) h 19 fP rfl rfl rfl ⟨rfl, trivial⟩ rfl fun w E5 h => ae (eD (pv := [(0, (.int .i64 (3))), (1, (.int .i64 (c))), (2, (.int .i64 (c))), (3, (.int .i64 ((c + 1)))), (4, E5)]) (out := [(.int .i64 (3)), (.int .i64 (c)), (.int .i64 (c)), (.int .i64 ((c + 1))), E5]) kW rfl ⟨0, 1, [(.int .i64 (3))], rfl, rfl, rfl, Nat.le_of_ble_eq_true rfl, ⟨1, 1, [(.int .i64 (c))], rfl, rfl, rfl, Nat.le_of_ble_eq_true rfl, ⟨2, 1, [(.int .i64 (c))], rfl, rfl, rfl, Nat.le_of_ble_eq_true rfl, ⟨3, 1, [(.int .i64 ((c + 1)))], rfl, rfl, rfl, Nat.le_of_ble_eq_true rfl, ⟨4, 1, [E5], rfl, (ni (h.fF 19 rfl).one), rfl, Nat.le_of_ble_eq_true rfl, rfl⟩⟩⟩⟩⟩) (dV (vs := [(.int .i64 (3)), (.int .i64 (c)), (.int .i64 (c)), (.int .i64 ((c + 1))), E5]) h 16 [(.int .i64 (3)), (.int .i64 (c)), (.int .i64 (c)), (.int .i64 ((c + 1))), E5] rfl uL rfl rfl rfl rfl rfl (ax rfl (ax rfl (ax rfl (ax rfl (ax (h.fF 19 rfl).one bA))))) fun w h => ah (az (ay ?_))))))
 replace h := h.Iw 19 17 rfl rfl (by decide)
 exact bR (3, c, (c + 1), E5, [x1.n]) ⟨h.cn _, hs⟩
 refine ai (ag (ae (bM rfl rfl) (ae (aj (v := (.bool (decide ((x1.kind : Int) = 4)))) rfl) (ah (aa (aJ hs rfl (fun c79 hs => ?_) (fun c79 hs => ?_)))))))
 refine ag (ae (ak (v := (.int .i64 (c))) rfl) (ae (ak (v := (.int .i64 (c))) rfl) (ae (au lJ rfl) (ae (aF h 4 rfl aV rfl rfl) (ae (eD (pv := [(0, (.int .i64 (4))), (1, (.int .i64 (c))), (2, (.int .i64 (c))), (3, (.int .i64 (x1.n)))]) (out := [(.int .i64 (4)), (.int .i64 (c)), (.int .i64 (c)), (.int .i64 (x1.n)), (.slice none 0 0)]) kW rfl ⟨0, 1, [(.int .i64 (4))], rfl, rfl, rfl, Nat.le_of_ble_eq_true rfl, ⟨1, 1, [(.int .i64 (c))], rfl, rfl, rfl, Nat.le_of_ble_eq_true rfl, ⟨2, 1, [(.int .i64 (c))], rfl, rfl, rfl, Nat.le_of_ble_eq_true rfl, ⟨3, 1, [(.int .i64 (x1.n))], rfl, rfl, rfl, Nat.le_of_ble_eq_true rfl, rfl⟩⟩⟩⟩) (dV (vs := [(.int .i64 (4)), (.int .i64 (c)), (.int .i64 (c)), (.int .i64 (x1.n)), (.slice none 0 0)]) h 16 [(.int .i64 (4)), (.int .i64 (c)), (.int .i64 (c)), (.int .i64 (x1.n)), (.slice none 0 0)] rfl uL rfl rfl rfl rfl rfl (ax rfl (ax rfl (ax rfl (ax rfl (ax rfl bA))))) fun w h => ah (az (ay ?_))))))))
 replace h := h.vG (R := cZ) (E := 3) 17
 exact bR (4, c, x1.n, (.slice none 0 0), []) ⟨h.cn _, hs⟩
 refine ai (ag (ae (bM rfl rfl) (ae (aj (v := (.bool (decide ((x1.kind : Int) = 6)))) rfl) (ah (aa (aJ hs rfl (fun c80 hs => ?_) (fun c80 hs => ?_)))))))
 refine ag (ae (ak (v := v32) rfl) (ae (au rH rfl) (dX h 16 [(.int .i64 (7)), (.int .i64 (c)), (.int .i64 (x1.n)), (.int .i64 (0)), (.slice none 0 0)] rfl aV rfl rfl rfl rfl rfl fun w h => ae (au zi rfl) (dX h 16 [(.int .i64 (7)), (.int .i64 (c)), (.int .i64 (x1.n)), (.int .i64 (0)), v32] rfl qx rfl rfl rfl rfl (h.fF 12 rfl).one fun w h => ah (az (ay ?_))))))
 replace h := h.Iw 12 17 rfl rfl (by decide)
 exact bR (7, x1.n, 0, v32, Aw) ⟨h.cn _, hs⟩
 refine aD (az (ay ?_))
 replace h := h.vG (R := cZ) (E := 3) 17
 exact bR (0, x1.n, 0, (.slice none 0 0), []) ⟨h.cn _, hs⟩
def dI (x8 : List Ins) (lq : List Ins → Option (List Ins)) (x34 : List Ins) : Option (List Ins) :=
  gG (Room 56 x8 x34) (lq (x8 ++ x34))
def mH (x32 : List Ins) (c : Int) (d : Int) (x8 : List Ins) (yc : List Ins) (LH : List Ins) (lq : List Ins → Option (List Ins)) (x90 : Int) : Option (List Ins) :=
  gG (Room 56 x32 [(⟨13, c, (((((d + (x8.length : Int)) + (x32.length : Int)) + 1) + (yc.length : Int)) + 1), 0, []⟩ : Ins)]) (gG (Room 56 (x32 ++ [(⟨13, c, (((((d + (x8.length : Int)) + (x32.length : Int)) + 1) + (yc.length : Int)) + 1), 0, []⟩ : Ins)]) yc) (gG (Room 56 ((x32 ++ [(⟨13, c, (((((d + (x8.length : Int)) + (x32.length : Int)) + 1) + (yc.length : Int)) + 1), 0, []⟩ : Ins)]) ++ yc) [(⟨12, 0, x90, 0, []⟩ : Ins)]) (gG (Room 56 (((x32 ++ [(⟨13, c, (((((d + (x8.length : Int)) + (x32.length : Int)) + 1) + (yc.length : Int)) + 1), 0, []⟩ : Ins)]) ++ yc) ++ [(⟨12, 0, x90, 0, []⟩ : Ins)]) LH) (dI x8 lq ((((x32 ++ [(⟨13, c, (((((d + (x8.length : Int)) + (x32.length : Int)) + 1) + (yc.length : Int)) + 1), 0, []⟩ : Ins)]) ++ yc) ++ [(⟨12, 0, x90, 0, []⟩ : Ins)]) ++ LH)))))
def mI (F0 : List aU → List dQ → Int → Int → Option (List Ins)) (d : Int) (x8 : List Ins) (x32 : List Ins) (dC : aU) (a : List aU) (b : List dQ) (c : Int) (lq : List Ins → Option (List Ins)) (x69 : Bool) : Option (List Ins) :=
  bif x69 then gG (jb ((d + (x8.length : Int)) + (x32.length : Int))) (gG (jb (((d + (x8.length : Int)) + (x32.length : Int)) + 1)) ((F0 dC.a b c (((d + (x8.length : Int)) + (x32.length : Int)) + 1)).bind fun yc => gG (jb ((d + (x8.length : Int)) + (x32.length : Int))) (gG (jb (((d + (x8.length : Int)) + (x32.length : Int)) + 1)) (gG (jb ((((d + (x8.length : Int)) + (x32.length : Int)) + 1) + (yc.length : Int))) (gG (jb (((((d + (x8.length : Int)) + (x32.length : Int)) + 1) + (yc.length : Int)) + 1)) ((F0 dC.b b c (((((d + (x8.length : Int)) + (x32.length : Int)) + 1) + (yc.length : Int)) + 1)).bind fun LH => gG (jb ((((((d + (x8.length : Int)) + (x32.length : Int)) + 1) + (yc.length : Int)) + 1) + (LH.length : Int))) (bif decide ((dC.kind : Int) = 7) then mH x32 c d x8 yc LH lq (d + (x8.length : Int)) else mH x32 c d x8 yc LH lq ((((((d + (x8.length : Int)) + (x32.length : Int)) + 1) + (yc.length : Int)) + 1) + (LH.length : Int))))))))) else dI x8 lq x32
def mJ (N : Nat) (F0 : List aU → List dQ → Int → Int → Option (List Ins)) (dC : aU) (c : Int) (x8 : List Ins) (lq : List Ins → Option (List Ins)) (b : List dQ) (d : Int) (a : List aU) (x32 : List Ins) : Option (List Ins) :=
  bif decide ((dC.kind : Int) = 1) then gG (Room 56 x32 [(⟨2, dC.n, c, 0, []⟩ : Ins)]) (dI x8 lq (x32 ++ [(⟨2, dC.n, c, 0, []⟩ : Ins)])) else bif decide ((dC.kind : Int) = 2) then gG (jb (c + 1)) ((iL N dC.f b (c + 1)).bind fun xy => gG (jb (c + 1)) (gG (Room 56 x32 xy.1) (gG (Room 56 (x32 ++ xy.1) [(⟨6, c, (c + 1), dC.n, []⟩ : Ins)]) (dI x8 lq ((x32 ++ xy.1) ++ [(⟨6, c, (c + 1), dC.n, []⟩ : Ins)]))))) else bif decide ((dC.kind : Int) = 3) then gG (Room 56 x32 [(⟨9, c, 0, 0, []⟩ : Ins)]) (dI x8 lq (x32 ++ [(⟨9, c, 0, 0, []⟩ : Ins)])) else bif decide ((dC.kind : Int) = 4) then gG (Room 56 x32 [(⟨10, 0, 0, 0, []⟩ : Ins)]) (dI x8 lq (x32 ++ [(⟨10, 0, 0, 0, []⟩ : Ins)])) else bif decide ((dC.kind : Int) = 5) then gG (Room 56 x32 [(⟨11, c, 0, 0, []⟩ : Ins)]) (dI x8 lq (x32 ++ [(⟨11, c, 0, 0, []⟩ : Ins)])) else bif decide ((dC.kind : Int) = 8) then gG (Room 56 x32 [(⟨8, c, 0, 0, []⟩ : Ins)]) (dI x8 lq (x32 ++ [(⟨8, c, 0, 0, []⟩ : Ins)])) else bif decide ((dC.kind : Int) = 6) then mI F0 d x8 x32 dC a b c lq (decide ((dC.kind : Int) = 6)) else mI F0 d x8 x32 dC a b c lq (decide ((dC.kind : Int) = 7))
def mK (N : Nat) (F0 : List aU → List dQ → Int → Int → Option (List Ins)) (d : Int) (b : List dQ) (c : Int) (a : List aU) (dC : aU) (x8 : List Ins) (lq : List Ins → Option (List Ins)) : Option (List Ins) :=
  gG (jb (d + (x8.length : Int))) (bif decide ((0 : Int) < (dC.e.length : Int)) then (iL N dC.e b c).bind fun y104 => mJ N F0 dC c x8 lq b d a y104.1 else mJ N F0 dC c x8 lq b d a [])
def mM (x8 : List Ins) : Option (List Ins) :=
  some x8
def sK (N : Nat) (F0 : List aU → List dQ → Int → Int → Option (List Ins)) (a : List aU) (b : List dQ) (c : Int) (d : Int) : Option (List Ins) :=
  each (mK N F0 d b c a) mM a []
def j5 : Nat → List aU → List dQ → Int → Int → Option (List Ins)
  | 0 => fun _ _ _ _ => none
  | N + 1 => sK N (j5 N)
theorem sM : ∀ (N : Nat) (w0 : World) (M : BS) (hM : ∀ b, M b → b < w0.heap.size) (va : Value) (a : List aU) (ha : eZ dM w0 BE M va a) (vb : Value) (b : List dQ) (hb : eZ gQ w0 BE M vb b) (c : Int) (d : Int) (r : List Ins) (hs : j5 N a b c d = some r),
    Calls Tryz.prog 76 #[va, vb, (.int .i64 (c)), (.int .i64 (d))] w0 (fun e w' => Grow w0 w' ∧ ∃ u0, e = .returned (u0) ∧ dH iG 93 w' M u0 r ∧ (∀ b, ob u0 b → w0.heap.size ≤ b)) := by
 intro N
 induction N with
 | zero => intro w0 M hM va a ha vb b hb c d r hs; cases hs
 | succ N ih =>
 intro w0 M hM va a ha vb b hb c d r hs
 replace hs : sK N (j5 N) a b c d = some r := hs
 generalize j5 N = F0 at hs ih
 refine aK (args := [va, vb, (.int .i64 (c)), (.int .i64 (d))]) Tryz.func76 rfl Tryz.ntmps76 (Nat.le_of_ble_eq_true rfl) ?_
 have h := SH.init hM
 replace h := h.dU 1 ha aW
 replace h := h.dU 2 hb (bD aW)
 have tC := ha.bL
 have Fe := hb.bL
 refine ai (ag (ae (aj (v := (.slice none 0 0)) rfl) (ah (aa (ai (ag (ae (aj (v := (.slice none 0 0)) rfl) (ah (aa (ai (ai (ag (ae (ak (v := va) rfl) (ae (bF jG rfl (h.fV 1 rfl)) (ae (ak (v := (.int .i64 (0))) rfl) (ah (aa (aL ?_))))))))))))))))))
 replace h := h.vG (R := iG) (E := 93) 6
 refine fq (σ := Nat × Int × Value × List Ins) (inl [9, 11, 12, 13, 14, 15, 16, 17, 18, 19, 22, 23, 24, 25, 26, 27, 28, 29, 30, 31, 32, 33, 34, 35, 36, 37, 38, 39, 40, 41, 42, 43, 44, 45, 46, 47, 48, 49, 50, 51, 52, 53, 54, 55, 56, 57, 58, 59, 60, 61, 62, 63, 64, 65, 66, 67, 68, 69, 70, 71, 72, 73, 74, 75, 76, 77, 78, 79, 80, 81, 82, 83, 84, 85, 86, 87, 88, 89, 90, 91, 92, 93, 94, 95, 96, 97, 98, 99, 100, 101, 102, 103, 104, 105, 106, 107, 108, 109, 110, 111, 112, 113, 114, 115, 116, 117, 118, 119, 120, 121, 122, 123, 124, 125, 126, 127, 128, 129, 130, 131, 132, 133, 134, 135, 136, 137, 138, 139, 140, 141, 142, 143, 144, 145, 146, 147, 148, 149, 150, 151, 152, 153, 154, 155]) (fun ⟨k9, i10, v7, x8⟩ => [(9, v7), (22, (.int .i64 (i10)))]) (fun ⟨k9, i10, v7, x8⟩ w => SH w0 M BE w (hset [(1, .sr dM va a), (2, .sr gQ vb b), (6, .own iG 93 v7 x8)]) ∧ i10 = (k9 : Int) ∧ each (mK N F0 d b c a) mM (a.drop k9) x8 = some r) (fun ⟨k9, i10, v7, x8⟩ => a.length - k9) ⟨0, 0, (.slice none 0 0), []⟩ ⟨rfl, rfl, trivial⟩ ?_ ?_
 exact ⟨h.cn _, rfl, hs⟩
 rintro ⟨k9, i10, v7, x8⟩ w dm ⟨h, hik, hs⟩
 refine ai (ag ?_)
 refine ae (dA rfl rfl) (ah (aa ?_))
 refine ai (gH rfl (fun e14 => ?_) (fun e14 => ?_))
 refine aD (aa ?_)
 obtain ⟨dC, G9, Ha⟩ := fJ (hik ▸ e14)
 rw [Ha, df] at hs
 generalize Bf : each (mK N F0 d b c a) mM (a.drop (k9 + 1)) = lq at hs
 have Hd := fO ((h.fV 1 rfl)).bL hik e14
 refine ai (aL (ai (ag ?_)))
 obtain ⟨b17, XR, Re, h, O0, i16⟩ := h.wZ 1 7 rfl jG rfl (gZ hik) (fM hik G9)
 obtain ⟨u21, u23, u25, u27, rfl, g22, g24, g26, g28⟩ := xc O0
 replace h := h.bG 8 g22.up
 replace h := h.bG 9 g24.up.up
 replace h := h.bG 10 g26.up.up.up
 replace h := h.bG 11 g28.up.up.up.up
 refine ae (i16 _ _ _ _ _ _ _ _ _ rfl rfl) (ae (iF (k := 0) (vs := [(.int .i64 (dC.kind)), (.int .i64 (dC.n)), u21, u23, u25, u27]) h 7 rfl mh rfl rfl rfl (Nat.le_of_ble_eq_true rfl)) (bP h 12 mh fun w XQ h => dV (vs := [(.int .i64 (dC.kind)), (.int .i64 (dC.n)), u21, u23, u25, u27]) h 12 [(.int .i64 (dC.kind)), (.int .i64 (dC.n)), u21, u23, u25, u27] rfl mh rfl rfl rfl rfl rfl (ax rfl (ax rfl (ax (h.fu 8 rfl).one (ax (h.fu 9 rfl).one (ax (h.fu 10 rfl).one (ax (h.fu 11 rfl).one bA)))))) fun w h => ah (aa (ai (ag (ae (ak (v := (.int .i64 (d))) rfl) (ae (ak (v := v7) rfl) (ae (bF jD rfl (h.dJ 6 rfl)) ?_))))))))
 obtain ⟨a30, hs⟩ := aZ hs
 refine ae (bY rfl rfl a30) (ae (aj (v := (.int .i64 ((d + (x8.length : Int))))) rfl) (ah (aa (ai (ag (ae (aj (v := (.slice none 0 0)) rfl) (ah (aa (bU (σ := Value × List Ins) (inl [13, 30, 31, 32, 33, 34, 35, 36, 37, 38, 39, 40, 41]) (fun ⟨v31, x32⟩ => [(13, v31)]) (fun ⟨v31, x32⟩ w => SH w0 M BE w (hset [(1, .sr dM va a), (2, .sr gQ vb b), (6, .own iG 93 v7 x8), (8, .rd jo u21 dC.e), (9, .rd jo u23 dC.f), (10, .rd dM u25 dC.a), (11, .rd dM u27 dC.b), (12, .blk XQ [(.int .i64 (dC.kind)), (.int .i64 (dC.n)), u21, u23, u25, u27]), (13, .own iG 93 v31 x32)]) ∧ mJ N F0 dC c x8 lq b d a x32 = some r) ?_ ?_)))))))))
 rintro ⟨v31, x32⟩ w dm ⟨h, hs⟩
 refine bU (σ := Value × List Ins) (inl [13, 14, 15, 16, 17, 18, 19, 42, 43, 44, 45, 46, 47, 48, 49, 50, 51, 52, 53, 54, 55, 56, 57, 58, 59, 60, 61, 62, 63, 64, 65, 66, 67, 68, 69, 70, 71, 72, 73, 74, 75, 76, 77, 78, 79, 80, 81, 82, 83, 84, 85, 86, 87, 88, 89, 90, 91, 92, 93, 94, 95, 96, 97, 98, 99, 100, 101, 102, 103, 104, 105, 106, 107, 108, 109, 110, 111, 112, 113, 114, 115, 116, 117, 118, 119, 120, 121, 122, 123, 124, 125, 126, 127, 128, 129, 130, 131, 132, 133, 134, 135, 136, 137, 138, 139, 140, 141, 142, 143, 144, 145, 146, 147, 148, 149, 150, 151]) (fun ⟨v33, x34⟩ => [(13, v33)]) (fun ⟨v33, x34⟩ w => SH w0 M BE w (hset [(1, .sr dM va a), (2, .sr gQ vb b), (6, .own iG 93 v7 x8), (13, .own iG 93 v33 x34)]) ∧ dI x8 lq x34 = some r) ?_ ?_
 rintro ⟨v33, x34⟩ w dm ⟨h, hs⟩
 refine ag (ae (ak (v := v7) rfl) (ae (ak (v := v33) rfl) ?_))
 obtain ⟨a35, hs⟩ := aZ hs
 refine jg (R := iG) (m := x34) h 6 rfl (h.dJ 13 rfl) dP rfl rfl rfl a35.1 a35.2 fun w u36 h => ae (aj (v := u36) rfl) (ah (az (aa (ag (ae (bY rfl rfl Hd) (ae (ak (v := (.int .i64 ((i10 + 1)))) rfl) (ah (ay ?_))))))))
 subst Bf
 exact iQ ⟨k9 + 1, i10 + 1, u36, (x8 ++ x34)⟩ ⟨h.cn _, by omega, hs⟩ (by have := of_decide_eq_true e14; dsimp only; omega)
 refine ai (ag (ae (au iV rfl) (ae (aF h 12 rfl aV rfl rfl) (ah (aa (aL (ai (ag (ae (bM rfl rfl) (ae (aj (v := (.bool (decide ((dC.kind : Int) = 1)))) rfl) (ah (aa (aJ hs rfl (fun c37 hs => ?_) (fun c37 hs => ?_))))))))))))))
 refine ag (ae (ak (v := v31) rfl) (ae (au si rfl) (ae (aF h 12 rfl aV rfl rfl) (ae (ak (v := (.int .i64 (c))) rfl) (ae (eD (pv := [(0, (.int .i64 (2))), (1, (.int .i64 (dC.n))), (2, (.int .i64 (c)))]) (out := [(.int .i64 (2)), (.int .i64 (dC.n)), (.int .i64 (c)), (.int .i64 (0)), (.slice none 0 0)]) kW rfl ⟨0, 1, [(.int .i64 (2))], rfl, rfl, rfl, Nat.le_of_ble_eq_true rfl, ⟨1, 1, [(.int .i64 (dC.n))], rfl, rfl, rfl, Nat.le_of_ble_eq_true rfl, ⟨2, 1, [(.int .i64 (c))], rfl, rfl, rfl, Nat.le_of_ble_eq_true rfl, rfl⟩⟩⟩) (oV (R := iG) (vs := [(.agg #[(.int .i64 (2)), (.int .i64 (dC.n)), (.int .i64 (c)), (.int .i64 (0)), (.slice none 0 0)])]) (xs := [(⟨2, dC.n, c, 0, []⟩ : Ins)]) h 14 dP rfl rfl rfl ⟨⟨_, rfl, eZ.nil⟩, trivial⟩ rfl fun w u38 h => ?_))))))
 obtain ⟨a39, hs⟩ := aZ hs
 refine jg (R := iG) (m := [(⟨2, dC.n, c, 0, []⟩ : Ins)]) h 13 rfl (h.dJ 14 rfl) dP rfl rfl rfl a39.1 a39.2 fun w u40 h => ae (aj (v := u40) rfl) (ah (az (ay ?_)))
 exact bR (u40, (x32 ++ [(⟨2, dC.n, c, 0, []⟩ : Ins)])) ⟨h.cn _, hs⟩
 refine ai (ag (ae (bM rfl rfl) (ae (aj (v := (.bool (decide ((dC.kind : Int) = 2)))) rfl) (ah (aa (aJ hs rfl (fun TT hs => ?_) (fun TT hs => ?_)))))))
 refine ai (ag (ae (au yz rfl) (ae (aF h 12 rfl uM rfl rfl) (ae (ak (v := vb) rfl) (ae (ak (v := (.int .i64 (c))) rfl) ?_)))))
 obtain ⟨a42, hs⟩ := aZ hs
 refine ae (bY rfl rfl a42) ?_
 obtain ⟨xy, e44, hs⟩ := aM hs
 refine aO GU rfl rfl (sJ N _ _ h.lt u23 dC.f (h.mU 9 rfl) vb b (h.fV 2 rfl) (c + 1) _ e44) ?_
 rintro _ w ⟨k48, u45, rfl, g46, g47⟩
 refine ⟨_, rfl, ?_⟩
 replace h := h.jm 15 k48 g46 g47
 refine ae (ak (v := (.tuple #[u45, (.int .i64 (xy.2))])) rfl) (ae (bC rfl rfl) (ae (bC rfl rfl) (ae (aj (v := u45) rfl) (ae (aj (v := (.int .i64 (xy.2))) rfl) (ah (aa (rW (L := (ob v31)) mixed h fun w h => bJ 0 (aQ.refl _ _) rfl aA (by kernel_rfl) (by kernel_rfl) (by kernel_rfl) (fun w hk => ak (v := v31) rfl) (bJ 1 (aQ.refl _ _) rfl aA (by kernel_rfl) (by kernel_rfl) (by kernel_rfl) (fun w hk => ak (v := u45) rfl) (bJ 3 (aQ.refl _ _) rfl aA (by kernel_rfl) (by kernel_rfl) (by kernel_rfl) (fun w hk => ak (v := (.int .i64 (c))) rfl) (bJ 4 (aQ.refl _ _) rfl aA (by kernel_rfl) (by kernel_rfl) (by kernel_rfl) (fun w hk => ak (v := (.int .i64 (c))) rfl) ?_))))))))))
 obtain ⟨Pj, hs⟩ := aZ hs
 refine bJ 5 (aQ.refl _ _) rfl aA (by kernel_rfl) (by kernel_rfl) (by kernel_rfl) (fun w hk => bY rfl rfl Pj) (bJ 6 (aQ.refl _ _) rfl aA (by kernel_rfl) (by kernel_rfl) (by kernel_rfl) (fun w hk => au si rfl) (bJ 7 (aQ.refl _ _) rfl aA (by kernel_rfl) (by kernel_rfl) (by kernel_rfl) (fun w hk => have h := h.tX 13 rfl hk; aF h 12 rfl aV rfl rfl) (bJ 8 (aQ.refl _ _) rfl aA (by kernel_rfl) (by kernel_rfl) (by kernel_rfl) (fun w hk => eD (pv := [(0, (.int .i64 (6))), (1, (.int .i64 (c))), (2, (.int .i64 ((c + 1)))), (3, (.int .i64 (dC.n)))]) (out := [(.int .i64 (6)), (.int .i64 (c)), (.int .i64 ((c + 1))), (.int .i64 (dC.n)), (.slice none 0 0)]) kW rfl ⟨0, 1, [(.int .i64 (6))], rfl, rfl, rfl, Nat.le_of_ble_eq_true rfl, ⟨1, 1, [(.int .i64 (c))], rfl, rfl, rfl, Nat.le_of_ble_eq_true rfl, ⟨2, 1, [(.int .i64 ((c + 1)))], rfl, rfl, rfl, Nat.le_of_ble_eq_true rfl, ⟨3, 1, [(.int .i64 (dC.n))], rfl, rfl, rfl, Nat.le_of_ble_eq_true rfl, rfl⟩⟩⟩⟩) ?_)))
 obtain ⟨Bj, hs⟩ := aZ hs
 obtain ⟨zn, hs⟩ := aZ hs
 obtain ⟨KI, Sc⟩ : ∃ x, x = w := ⟨_, rfl⟩
 have ql : aQ (ob v31) KI w := Sc ▸ aQ.refl (ob v31) w
 refine yj Sc.symm (uJ 2 9 (by kernel_rfl) rfl aA rfl aA ?_ ?_)
 have MV := ql.size
 refine pF (R := iG) (m := xy.1) h 13 rfl (h.dJ 15 rfl) dP rfl rfl rfl Bj.1 Bj.2 fun w Ee h Ce Cf => ?_
 have wE : ∀ b, ob Ee b → b < KI.heap.size → ob v31 b := fun b hb hl => Cf b hb (Nat.lt_of_lt_of_le hl (ql).size)
 replace ql := ql.same Ce
 refine ah (aY ql (bW 9 (by kernel_rfl) rfl aA (zM (R := iG) (vs := [(.agg #[(.int .i64 (6)), (.int .i64 (c)), (.int .i64 ((c + 1))), (.int .i64 (dC.n)), (.slice none 0 0)])]) (xs := [(⟨6, c, (c + 1), dC.n, []⟩ : Ins)]) h 124 dP rfl rfl rfl ⟨⟨_, rfl, eZ.nil⟩, trivial⟩ rfl fun w Ef h Cg Ch => ?_)))
 have MW : ∀ b, ob Ef b → KI.heap.size ≤ b := fun b hb => Nat.le_trans ql.size (Ch b hb)
 replace ql := ql.grow Cg
 refine ah (aY ql (bW 10 (by kernel_rfl) rfl aA ?_))
 have KJ := ql.size
 refine pF (R := iG) (m := [(⟨6, c, (c + 1), dC.n, []⟩ : Ins)]) h 13 rfl (h.dJ 124 rfl) dP rfl rfl rfl zn.1 zn.2 fun w rz h zZ z8 => ?_
 have KL : ∀ b, ob rz b → b < KI.heap.size → ob v31 b := fun b hb hl => wE b (z8 b hb (Nat.lt_of_lt_of_le hl (ql).size)) hl
 replace ql := aQ.step ql zZ (fun x hx hl => wE x hx hl)
 refine ah (aY ql (bJ 11 ql rfl aA (by kernel_rfl) (by kernel_rfl) (by kernel_rfl) (fun w hk => aj (v := rz) rfl) (jE (by kernel_rfl) (az (ay ?_)))))
 exact bR (rz, ((x32 ++ xy.1) ++ [(⟨6, c, (c + 1), dC.n, []⟩ : Ins)])) ⟨h.cn _, hs⟩
 refine zM (R := iG) (vs := [(.agg #[(.int .i64 (6)), (.int .i64 (c)), (.int .i64 ((c + 1))), (.int .i64 (dC.n)), (.slice none 0 0)])]) (xs := [(⟨6, c, (c + 1), dC.n, []⟩ : Ins)]) h 124 dP rfl rfl rfl ⟨⟨_, rfl, eZ.nil⟩, trivial⟩ rfl fun w Ef h Cg Ch => ?_
 have MW : ∀ b, ob Ef b → KI.heap.size ≤ b := fun b hb => Nat.le_trans ql.size (Ch b hb)
 replace ql := ql.grow Cg
 refine ah (aY ql (bW 2 (by kernel_rfl) rfl aA ?_))
 have MV := ql.size
 refine pF (R := iG) (m := xy.1) h 13 rfl (h.dJ 15 rfl) dP rfl rfl rfl Bj.1 Bj.2 fun w Ee h Ce Cf => ?_
 have wE : ∀ b, ob Ee b → b < KI.heap.size → ob v31 b := fun b hb hl => Cf b hb (Nat.lt_of_lt_of_le hl (ql).size)
 replace ql := ql.same Ce
 refine ah (aY ql (bW 10 (by kernel_rfl) rfl aA ?_))
 have KJ := ql.size
 refine pF (R := iG) (m := [(⟨6, c, (c + 1), dC.n, []⟩ : Ins)]) h 13 rfl (h.dJ 124 rfl) dP rfl rfl rfl zn.1 zn.2 fun w rz h zZ z8 => ?_
 have KL : ∀ b, ob rz b → b < KI.heap.size → ob v31 b := fun b hb hl => wE b (z8 b hb (Nat.lt_of_lt_of_le hl (ql).size)) hl
 replace ql := aQ.step ql zZ (fun x hx hl => wE x hx hl)
 refine ah (aY ql (bJ 11 ql rfl aA (by kernel_rfl) (by kernel_rfl) (by kernel_rfl) (fun w hk => aj (v := rz) rfl) (jE (by kernel_rfl) (az (ay ?_)))))
 exact bR (rz, ((x32 ++ xy.1) ++ [(⟨6, c, (c + 1), dC.n, []⟩ : Ins)])) ⟨h.cn _, hs⟩
 refine ai (ag (ae (bM rfl rfl) (ae (aj (v := (.bool (decide ((dC.kind : Int) = 3)))) rfl) (ah (aa (aJ hs rfl (fun c53 hs => ?_) (fun c53 hs => ?_)))))))
 refine ag (ae (ak (v := v31) rfl) (ae (ak (v := (.int .i64 (c))) rfl) (ae (eD (pv := [(0, (.int .i64 (9))), (1, (.int .i64 (c)))]) (out := [(.int .i64 (9)), (.int .i64 (c)), (.int .i64 (0)), (.int .i64 (0)), (.slice none 0 0)]) kW rfl ⟨0, 1, [(.int .i64 (9))], rfl, rfl, rfl, Nat.le_of_ble_eq_true rfl, ⟨1, 1, [(.int .i64 (c))], rfl, rfl, rfl, Nat.le_of_ble_eq_true rfl, rfl⟩⟩) (oV (R := iG) (vs := [(.agg #[(.int .i64 (9)), (.int .i64 (c)), (.int .i64 (0)), (.int .i64 (0)), (.slice none 0 0)])]) (xs := [(⟨9, c, 0, 0, []⟩ : Ins)]) h 172 dP rfl rfl rfl ⟨⟨_, rfl, eZ.nil⟩, trivial⟩ rfl fun w Vh h => ?_))))
 obtain ⟨a55, hs⟩ := aZ hs
 refine jg (R := iG) (m := [(⟨9, c, 0, 0, []⟩ : Ins)]) h 13 rfl (h.dJ 172 rfl) dP rfl rfl rfl a55.1 a55.2 fun w u56 h => ae (aj (v := u56) rfl) (ah (az (ay ?_)))
 exact bR (u56, (x32 ++ [(⟨9, c, 0, 0, []⟩ : Ins)])) ⟨h.cn _, hs⟩
 refine ai (ag (ae (bM rfl rfl) (ae (aj (v := (.bool (decide ((dC.kind : Int) = 4)))) rfl) (ah (aa (aJ hs rfl (fun c57 hs => ?_) (fun c57 hs => ?_)))))))
 refine ag (ae (ak (v := v31) rfl) (ae (eD (pv := [(0, (.int .i64 (10)))]) (out := [(.int .i64 (10)), (.int .i64 (0)), (.int .i64 (0)), (.int .i64 (0)), (.slice none 0 0)]) kW rfl ⟨0, 1, [(.int .i64 (10))], rfl, rfl, rfl, Nat.le_of_ble_eq_true rfl, rfl⟩) (oV (R := iG) (vs := [(.agg #[(.int .i64 (10)), (.int .i64 (0)), (.int .i64 (0)), (.int .i64 (0)), (.slice none 0 0)])]) (xs := [(⟨10, 0, 0, 0, []⟩ : Ins)]) h 173 dP rfl rfl rfl ⟨⟨_, rfl, eZ.nil⟩, trivial⟩ rfl fun w u58 h => ?_)))
 obtain ⟨a59, hs⟩ := aZ hs
 refine jg (R := iG) (m := [(⟨10, 0, 0, 0, []⟩ : Ins)]) h 13 rfl (h.dJ 173 rfl) dP rfl rfl rfl a59.1 a59.2 fun w u60 h => ae (aj (v := u60) rfl) (ah (az (ay ?_)))
 exact bR (u60, (x32 ++ [(⟨10, 0, 0, 0, []⟩ : Ins)])) ⟨h.cn _, hs⟩
 refine ai (ag (ae (bM rfl rfl) (ae (aj (v := (.bool (decide ((dC.kind : Int) = 5)))) rfl) (ah (aa (aJ hs rfl (fun c61 hs => ?_) (fun c61 hs => ?_)))))))
 refine ag (ae (ak (v := v31) rfl) (ae (ak (v := (.int .i64 (c))) rfl) (ae (eD (pv := [(0, (.int .i64 (11))), (1, (.int .i64 (c)))]) (out := [(.int .i64 (11)), (.int .i64 (c)), (.int .i64 (0)), (.int .i64 (0)), (.slice none 0 0)]) kW rfl ⟨0, 1, [(.int .i64 (11))], rfl, rfl, rfl, Nat.le_of_ble_eq_true rfl, ⟨1, 1, [(.int .i64 (c))], rfl, rfl, rfl, Nat.le_of_ble_eq_true rfl, rfl⟩⟩) (oV (R := iG) (vs := [(.agg #[(.int .i64 (11)), (.int .i64 (c)), (.int .i64 (0)), (.int .i64 (0)), (.slice none 0 0)])]) (xs := [(⟨11, c, 0, 0, []⟩ : Ins)]) h 174 dP rfl rfl rfl ⟨⟨_, rfl, eZ.nil⟩, trivial⟩ rfl fun w U7 h => ?_))))
 obtain ⟨a63, hs⟩ := aZ hs
 refine jg (R := iG) (m := [(⟨11, c, 0, 0, []⟩ : Ins)]) h 13 rfl (h.dJ 174 rfl) dP rfl rfl rfl a63.1 a63.2 fun w u64 h => ae (aj (v := u64) rfl) (ah (az (ay ?_)))
 exact bR (u64, (x32 ++ [(⟨11, c, 0, 0, []⟩ : Ins)])) ⟨h.cn _, hs⟩
 refine ai (ag (ae (bM rfl rfl) (ae (aj (v := (.bool (decide ((dC.kind : Int) = 8)))) rfl) (ah (aa (aJ hs rfl (fun VP hs => ?_) (fun VP hs => ?_)))))))
 refine ag (ae (ak (v := v31) rfl) (ae (ak (v := (.int .i64 (c))) rfl) (ae (eD (pv := [(0, (.int .i64 (8))), (1, (.int .i64 (c)))]) (out := [(.int .i64 (8)), (.int .i64 (c)), (.int .i64 (0)), (.int .i64 (0)), (.slice none 0 0)]) kW rfl ⟨0, 1, [(.int .i64 (8))], rfl, rfl, rfl, Nat.le_of_ble_eq_true rfl, ⟨1, 1, [(.int .i64 (c))], rfl, rfl, rfl, Nat.le_of_ble_eq_true rfl, rfl⟩⟩) (oV (R := iG) (vs := [(.agg #[(.int .i64 (8)), (.int .i64 (c)), (.int .i64 (0)), (.int .i64 (0)), (.slice none 0 0)])]) (xs := [(⟨8, c, 0, 0, []⟩ : Ins)]) h 175 dP rfl rfl rfl ⟨⟨_, rfl, eZ.nil⟩, trivial⟩ rfl fun w u66 h => ?_))))
 obtain ⟨a67, hs⟩ := aZ hs
 refine jg (R := iG) (m := [(⟨8, c, 0, 0, []⟩ : Ins)]) h 13 rfl (h.dJ 175 rfl) dP rfl rfl rfl a67.1 a67.2 fun w u68 h => ae (aj (v := u68) rfl) (ah (az (ay ?_)))
 exact bR (u68, (x32 ++ [(⟨8, c, 0, 0, []⟩ : Ins)])) ⟨h.cn _, hs⟩
 refine bU (σ := Bool) (inl [102, 103, 104]) (fun x69 => [(102, (.bool (x69)))]) (fun x69 w => SH w0 M BE w (hset [(1, .sr dM va a), (2, .sr gQ vb b), (6, .own iG 93 v7 x8), (8, .rd jo u21 dC.e), (9, .rd jo u23 dC.f), (10, .rd dM u25 dC.a), (11, .rd dM u27 dC.b), (12, .blk XQ [(.int .i64 (dC.kind)), (.int .i64 (dC.n)), u21, u23, u25, u27]), (13, .own iG 93 v31 x32)]) ∧ mI F0 d x8 x32 dC a b c lq x69 = some r) ?_ ?_
 rintro x69 w dm ⟨h, hs⟩
 refine aJ hs rfl (fun c70 hs => ?_) (fun c70 hs => ?_)
 refine ai (ag (ae (au vZ rfl) (ae (aF h 12 rfl nu rfl rfl) (ae (ak (v := vb) rfl) (ae (ak (v := (.int .i64 (c))) rfl) (ae (ak (v := (.int .i64 ((d + (x8.length : Int))))) rfl) (ae (ak (v := v31) rfl) (ae (bF jD rfl (h.dJ 13 rfl)) ?_))))))))
 obtain ⟨a71, hs⟩ := aZ hs
 refine ae (bY rfl rfl a71) ?_
 obtain ⟨a72, hs⟩ := aZ hs
 refine ae (bY rfl rfl a72) ?_
 obtain ⟨yc, e74, hs⟩ := aM hs
 refine aO G7 rfl rfl (ih _ _ h.lt u25 dC.a (h.mU 10 rfl) vb b (h.fV 2 rfl) c (((d + (x8.length : Int)) + (x32.length : Int)) + 1) _ e74) ?_
 rintro _ w ⟨k78, u75, rfl, g76, g77⟩
 refine ⟨_, rfl, ?_⟩
 replace h := h.jm 176 k78 g76 g77
 refine ae (aj (v := u75) rfl) (ah (aa (ai (ag (ae (ak (v := (.int .i64 ((d + (x8.length : Int))))) rfl) (ae (ak (v := v31) rfl) (ae (bF jD rfl (h.dJ 13 rfl)) ?_)))))))
 obtain ⟨a79, hs⟩ := aZ hs
 refine ae (bY rfl rfl a79) ?_
 obtain ⟨a80, hs⟩ := aZ hs
 refine ae (bY rfl rfl a80) (ae (ak (v := u75) rfl) (ae (bF jD rfl (h.dJ 176 rfl)) ?_))
 obtain ⟨a81, hs⟩ := aZ hs
 refine ae (bY rfl rfl a81) ?_
 obtain ⟨a82, hs⟩ := aZ hs
 refine ae (bY rfl rfl a82) (ae (aj (v := (.int .i64 ((((((d + (x8.length : Int)) + (x32.length : Int)) + 1) + (yc.length : Int)) + 1)))) rfl) (ah (aa (ai (ag (ae (au wm rfl) (ae (aF h 12 rfl nu rfl rfl) (ae (ak (v := vb) rfl) (ae (ak (v := (.int .i64 (c))) rfl) (ae (ak (v := (.int .i64 ((((((d + (x8.length : Int)) + (x32.length : Int)) + 1) + (yc.length : Int)) + 1)))) rfl) ?_))))))))))
 obtain ⟨LH, e84, hs⟩ := aM hs
 refine aO G7 rfl rfl (ih _ _ h.lt u27 dC.b (h.mU 11 rfl) vb b (h.fV 2 rfl) c (((((d + (x8.length : Int)) + (x32.length : Int)) + 1) + (yc.length : Int)) + 1) _ e84) ?_
 rintro _ w ⟨Y9, Sd, rfl, g86, g87⟩
 refine ⟨_, rfl, ?_⟩
 replace h := h.jm 177 Y9 g86 g87
 refine ae (aj (v := Sd) rfl) (ah (aa (ai (ag (ae (ak (v := (.int .i64 ((((((d + (x8.length : Int)) + (x32.length : Int)) + 1) + (yc.length : Int)) + 1)))) rfl) (ae (ak (v := Sd) rfl) (ae (bF jD rfl (h.dJ 177 rfl)) ?_)))))))
 obtain ⟨a89, hs⟩ := aZ hs
 refine ae (bY rfl rfl a89) (ae (aj (v := (.int .i64 (((((((d + (x8.length : Int)) + (x32.length : Int)) + 1) + (yc.length : Int)) + 1) + (LH.length : Int))))) rfl) (ah (aa (bU (σ := Int) (inl [19, 134, 135, 136, 137]) (fun x90 => [(19, (.int .i64 (x90)))]) (fun x90 w => SH w0 M BE w (hset [(1, .sr dM va a), (2, .sr gQ vb b), (6, .own iG 93 v7 x8), (13, .own iG 93 v31 x32), (176, .own iG 93 u75 yc), (177, .own iG 93 Sd LH)]) ∧ mH x32 c d x8 yc LH lq x90 = some r) ?_ ?_))))
 rintro x90 w dm ⟨h, hs⟩
 refine ag (ae (ak (v := v31) rfl) (ae (ak (v := (.int .i64 (c))) rfl) (ae (ak (v := (.int .i64 ((((((d + (x8.length : Int)) + (x32.length : Int)) + 1) + (yc.length : Int)) + 1)))) rfl) (ae (eD (pv := [(0, (.int .i64 (13))), (1, (.int .i64 (c))), (2, (.int .i64 ((((((d + (x8.length : Int)) + (x32.length : Int)) + 1) + (yc.length : Int)) + 1))))]) (out := [(.int .i64 (13)), (.int .i64 (c)), (.int .i64 ((((((d + (x8.length : Int)) + (x32.length : Int)) + 1) + (yc.length : Int)) + 1))), (.int .i64 (0)), (.slice none 0 0)]) kW rfl ⟨0, 1, [(.int .i64 (13))], rfl, rfl, rfl, Nat.le_of_ble_eq_true rfl, ⟨1, 1, [(.int .i64 (c))], rfl, rfl, rfl, Nat.le_of_ble_eq_true rfl, ⟨2, 1, [(.int .i64 ((((((d + (x8.length : Int)) + (x32.length : Int)) + 1) + (yc.length : Int)) + 1)))], rfl, rfl, rfl, Nat.le_of_ble_eq_true rfl, rfl⟩⟩⟩) (oV (R := iG) (vs := [(.agg #[(.int .i64 (13)), (.int .i64 (c)), (.int .i64 ((((((d + (x8.length : Int)) + (x32.length : Int)) + 1) + (yc.length : Int)) + 1))), (.int .i64 (0)), (.slice none 0 0)])]) (xs := [(⟨13, c, (((((d + (x8.length : Int)) + (x32.length : Int)) + 1) + (yc.length : Int)) + 1), 0, []⟩ : Ins)]) h 178 dP rfl rfl rfl ⟨⟨_, rfl, eZ.nil⟩, trivial⟩ rfl fun w Ub h => ?_)))))
 obtain ⟨a92, hs⟩ := aZ hs
 refine jg (R := iG) (m := [(⟨13, c, (((((d + (x8.length : Int)) + (x32.length : Int)) + 1) + (yc.length : Int)) + 1), 0, []⟩ : Ins)]) h 13 rfl (h.dJ 178 rfl) dP rfl rfl rfl a92.1 a92.2 fun w u93 h => ae (ak (v := u75) rfl) ?_
 obtain ⟨a94, hs⟩ := aZ hs
 refine jg (R := iG) (m := yc) h 13 rfl (h.dJ 176 rfl) dP rfl rfl rfl a94.1 a94.2 fun w u95 h => ae (ak (v := (.int .i64 (x90))) rfl) (ae (eD (pv := [(0, (.int .i64 (12))), (2, (.int .i64 (x90)))]) (out := [(.int .i64 (12)), (.int .i64 (0)), (.int .i64 (x90)), (.int .i64 (0)), (.slice none 0 0)]) kW rfl ⟨0, 1, [(.int .i64 (12))], rfl, rfl, rfl, Nat.le_of_ble_eq_true rfl, ⟨2, 1, [(.int .i64 (x90))], rfl, rfl, rfl, Nat.le_of_ble_eq_true rfl, rfl⟩⟩) (oV (R := iG) (vs := [(.agg #[(.int .i64 (12)), (.int .i64 (0)), (.int .i64 (x90)), (.int .i64 (0)), (.slice none 0 0)])]) (xs := [(⟨12, 0, x90, 0, []⟩ : Ins)]) h 179 dP rfl rfl rfl ⟨⟨_, rfl, eZ.nil⟩, trivial⟩ rfl fun w u96 h => ?_))
 obtain ⟨a97, hs⟩ := aZ hs
 refine jg (R := iG) (m := [(⟨12, 0, x90, 0, []⟩ : Ins)]) h 13 rfl (h.dJ 179 rfl) dP rfl rfl rfl a97.1 a97.2 fun w u98 h => ae (ak (v := Sd) rfl) ?_
 obtain ⟨a99, hs⟩ := aZ hs
 refine jg (R := iG) (m := LH) h 13 rfl (h.dJ 177 rfl) dP rfl rfl rfl a99.1 a99.2 fun w TU h => ae (aj (v := TU) rfl) (ah (az (ay ?_)))
 exact bR (TU, ((((x32 ++ [(⟨13, c, (((((d + (x8.length : Int)) + (x32.length : Int)) + 1) + (yc.length : Int)) + 1), 0, []⟩ : Ins)]) ++ yc) ++ [(⟨12, 0, x90, 0, []⟩ : Ins)]) ++ LH)) ⟨h.cn _, hs⟩
 refine ai (ag (ae (au iV rfl) (ae (aF h 12 rfl aV rfl rfl) (ae (bM rfl rfl) (ah (aa (aJ hs rfl (fun c101 hs => ?_) (fun c101 hs => ?_))))))))
 refine ag (ae (ak (v := (.int .i64 ((d + (x8.length : Int))))) rfl) (ae (aj (v := (.int .i64 ((d + (x8.length : Int))))) rfl) (ah (ay ?_))))
 exact bR (d + (x8.length : Int)) ⟨h.cn _, hs⟩
 refine aD (ay ?_)
 exact bR ((((((d + (x8.length : Int)) + (x32.length : Int)) + 1) + (yc.length : Int)) + 1) + (LH.length : Int)) ⟨h.cn _, hs⟩
 refine aD (az (ay ?_))
 exact bR (v31, x32) ⟨h.cn _, hs⟩
 refine ai (ag (ae (bM rfl rfl) (ae (aj (v := (.bool (decide ((dC.kind : Int) = 6)))) rfl) (ah (aa (aJ hs rfl (fun Uh hs => ?_) (fun Uh hs => ?_)))))))
 refine aD (ay ?_)
 exact bR (decide ((dC.kind : Int) = 6)) ⟨h.cn _, hs⟩
 refine ag (ae (bM rfl rfl) (ae (aj (v := (.bool (decide ((dC.kind : Int) = 7)))) rfl) (ah (ay ?_))))
 exact bR (decide ((dC.kind : Int) = 7)) ⟨h.cn _, hs⟩
 refine ai (ag (ae (au vY rfl) (ae (aF h 12 rfl uM rfl rfl) (ae (bF jd rfl (h.mU 8 rfl)) (ae (iR rfl rfl) (ah (aa (aJ hs rfl (fun Ui hs => ?_) (fun Ui hs => ?_)))))))))
 refine ag (ae (au vY rfl) (ae (aF h 12 rfl uM rfl rfl) (ae (ak (v := vb) rfl) (ae (ak (v := (.int .i64 (c))) rfl) ?_))))
 obtain ⟨y104, Hl, hs⟩ := aM hs
 refine aO GU rfl rfl (sJ N _ _ h.lt u21 dC.e (h.mU 8 rfl) vb b (h.fV 2 rfl) c _ Hl) ?_
 rintro _ w ⟨k109, Jd, rfl, V5, g108⟩
 refine ⟨_, rfl, ?_⟩
 replace h := h.jm 180 k109 V5 g108
 refine ae (ak (v := (.tuple #[Jd, (.int .i64 (y104.2))])) rfl) (ae (bC rfl rfl) (ae (bC rfl rfl) (ae (aj (v := Jd) rfl) (ah (ay ?_)))))
 replace h := h.Iw 180 13 rfl rfl (by decide)
 exact bR (Jd, y104.1) ⟨h.cn _, hs⟩
 refine aD (ay ?_)
 replace h := h.vG (R := iG) (E := 93) 13
 exact bR ((.slice none 0 0), []) ⟨h.cn _, hs⟩
 rw [fK (hik ▸ e14), fB] at hs
 refine bT (aH (aH (aT (aa (ai (ag (ae (ak (v := v7) rfl) (ae (aj (v := v7) rfl) (ah (aa (aI (bI (v := v7) Tryz.results76 rfl ?_))))))))))))
 obtain rfl := Option.some.inj hs
 exact ⟨h.grown, _, rfl, (h.kJ 6 rfl).1, (h.kJ 6 rfl).2⟩
def rq (x8 : List bV) (dC : dQ) (lq : List bV → Option (List bV)) (Qu : List Ins) : Option (List bV) :=
  gG (Room 40 x8 [(⟨dC.params, 30, Qu⟩ : bV)]) (lq (x8 ++ [(⟨dC.params, 30, Qu⟩ : bV)]))
def nD (N : Nat) (a : List dQ) (dC : dQ) (x8 : List bV) (lq : List bV → Option (List bV)) : Option (List bV) :=
  (j5 N dC.body a dC.locals 0).bind fun yC => gG (Room 56 yC [(⟨1, dC.locals, 0, 0, []⟩ : Ins), (⟨8, dC.locals, 0, 0, []⟩ : Ins)]) (rq x8 dC lq (yC ++ [(⟨1, dC.locals, 0, 0, []⟩ : Ins), (⟨8, dC.locals, 0, 0, []⟩ : Ins)]))
def nE (x8 : List bV) : Option (List bV) :=
  some x8
def vB (N : Nat) (a : List dQ) : Option (List bV) :=
  each (nD N a) nE a []
theorem zH (N : Nat) (w0 : World) (M : BS) (hM : ∀ b, M b → b < w0.heap.size) (va : Value) (a : List dQ) (ha : eZ gQ w0 BE M va a) (r : List bV) (hs : vB N a = some r) :
    Calls Tryz.prog 39 #[va] w0 (fun e w' => Grow w0 w' ∧ ∃ u0, e = .returned (u0) ∧ dH lC 57 w' M u0 r ∧ (∀ b, ob u0 b → w0.heap.size ≤ b)) := by
 refine aK (args := [va]) Tryz.func39 rfl Tryz.ntmps39 (Nat.le_of_ble_eq_true rfl) ?_
 have h := SH.init hM
 replace h := h.dU 1 ha aW
 have tC := ha.bL
 refine ai (ag (ae (aj (v := (.slice none 0 0)) rfl) (ah (aa (ai (ag (ae (aj (v := (.slice none 0 0)) rfl) (ah (aa (ai (ai (ag (ae (ak (v := va) rfl) (ae (bF gK rfl (h.fV 1 rfl)) (ae (ak (v := (.int .i64 (0))) rfl) (ah (aa (aL ?_))))))))))))))))))
 replace h := h.vG (R := lC) (E := 57) 5
 refine fq (σ := Nat × Int × Value × List bV) (inl [3, 5, 6, 9, 10, 11, 12, 13, 14, 15, 16, 17, 18, 19, 20, 21, 22, 23, 24, 25, 26, 27, 28, 29, 30, 31, 32, 33, 34, 35]) (fun ⟨k9, i10, v7, x8⟩ => [(3, v7), (9, (.int .i64 (i10)))]) (fun ⟨k9, i10, v7, x8⟩ w => SH w0 M BE w (hset [(1, .sr gQ va a), (5, .own lC 57 v7 x8)]) ∧ i10 = (k9 : Int) ∧ each (nD N a) nE (a.drop k9) x8 = some r) (fun ⟨k9, i10, v7, x8⟩ => a.length - k9) ⟨0, 0, (.slice none 0 0), []⟩ ⟨rfl, rfl, trivial⟩ ?_ ?_
 exact ⟨h.cn _, rfl, hs⟩
 rintro ⟨k9, i10, v7, x8⟩ w dm ⟨h, hik, hs⟩
 refine ai (ag ?_)
 refine ae (dA rfl rfl) (ah (aa ?_))
 refine ai (gH rfl (fun e14 => ?_) (fun e14 => ?_))
 refine aD (aa ?_)
 obtain ⟨dC, G9, Ha⟩ := fJ (hik ▸ e14)
 rw [Ha, df] at hs
 generalize Bf : each (nD N a) nE (a.drop (k9 + 1)) = lq at hs
 have Hd := fO ((h.fV 1 rfl)).bL hik e14
 refine ai (aL (ai (ag ?_)))
 obtain ⟨b17, XR, Re, h, O0, i16⟩ := h.wZ 1 6 rfl gK rfl (gZ hik) (fM hik G9)
 obtain ⟨u21, rfl, g22⟩ := p8 O0
 replace h := h.bG 7 g22.up
 refine ae (i16 _ _ _ _ _ _ _ _ _ rfl rfl) (ae (iF (k := 0) (vs := [(.int .i64 (dC.params)), (.int .i64 (dC.locals)), u21]) h 6 rfl kF rfl rfl rfl (Nat.le_of_ble_eq_true rfl)) (bP h 8 kF fun w zO h => dV (vs := [(.int .i64 (dC.params)), (.int .i64 (dC.locals)), u21]) h 8 [(.int .i64 (dC.params)), (.int .i64 (dC.locals)), u21] rfl kF rfl rfl rfl rfl rfl (ax rfl (ax rfl (ax (h.fu 7 rfl).one bA))) fun w h => ah (aa (ai (ag (ae (au r9 rfl) (ae (aF h 8 rfl aV rfl rfl) (ae (eD (pv := [(0, (.int .i64 (dC.params))), (1, (.int .i64 (30)))]) (out := [(.int .i64 (dC.params)), (.int .i64 (30)), (.slice none 0 0)]) OA rfl ⟨0, 1, [(.int .i64 (dC.params))], rfl, rfl, rfl, Nat.le_of_ble_eq_true rfl, ⟨1, 1, [(.int .i64 (30))], rfl, rfl, rfl, Nat.le_of_ble_eq_true rfl, rfl⟩⟩) (bP h 9 tu fun w Wm h => dV (vs := [(.int .i64 (dC.params)), (.int .i64 (30)), (.slice none 0 0)]) h 9 [(.int .i64 (dC.params)), (.int .i64 (30)), (.slice none 0 0)] rfl tu rfl rfl rfl rfl rfl (ax rfl (ax rfl (ax rfl bA))) fun w h => ah (aa (bU (σ := Value × List Ins) (inl [16, 17, 18, 19, 20, 21, 22, 23, 24, 25, 26, 27, 28, 29, 30]) (fun ⟨v25, Qu⟩ => []) (fun ⟨v25, Qu⟩ w => SH w0 M BE w (hset [(1, .sr gQ va a), (5, .own lC 57 v7 x8), (9, .blk Wm [(.int .i64 (dC.params)), (.int .i64 (30)), v25]), (70, .own iG 93 v25 Qu)]) ∧ rq x8 dC lq Qu = some r) ?_ ?_)))))))))))
 rintro ⟨v25, Qu⟩ w dm ⟨h, hs⟩
 refine ag (ae (ak (v := v7) rfl) (ae (fA (vs := [(.int .i64 (dC.params)), (.int .i64 (30)), v25]) h 9 rfl tu rfl rfl rfl) ?_))
 replace h := h.freeze 70 rfl
 refine oV (R := lC) (vs := [(.agg #[(.int .i64 (dC.params)), (.int .i64 (30)), v25])]) (xs := [(⟨dC.params, 30, Qu⟩ : bV)]) h 71 IQ rfl rfl rfl ⟨⟨_, rfl, (h.fu 70 rfl)⟩, trivial⟩ rfl fun w u27 h => ?_
 obtain ⟨a28, hs⟩ := aZ hs
 refine jg (R := lC) (m := [(⟨dC.params, 30, Qu⟩ : bV)]) h 5 rfl (h.dJ 71 rfl) IQ rfl rfl rfl a28.1 a28.2 fun w u29 h => ae (aj (v := u29) rfl) (ah (az (aa (ag (ae (bY rfl rfl Hd) (ae (ak (v := (.int .i64 ((i10 + 1)))) rfl) (ah (ay ?_))))))))
 subst Bf
 exact iQ ⟨k9 + 1, i10 + 1, u29, (x8 ++ [(⟨dC.params, 30, Qu⟩ : bV)])⟩ ⟨h.cn _, by omega, hs⟩ (by have := of_decide_eq_true e14; dsimp only; omega)
 refine rW (L := (fun x => x = Wm)) mixed h fun w h => bJ 0 (aQ.refl _ _) rfl aA (by kernel_rfl) (by kernel_rfl) (by kernel_rfl) (fun w hk => au yx rfl) (bJ 1 (aQ.refl _ _) rfl aA (by kernel_rfl) (by kernel_rfl) (by kernel_rfl) (fun w hk => have h := h.tX 9 rfl hk; aF h 8 rfl nu rfl rfl) (bJ 2 (aQ.refl _ _) rfl aA (by kernel_rfl) (by kernel_rfl) (by kernel_rfl) (fun w hk => ak (v := va) rfl) (bJ 3 (aQ.refl _ _) rfl aA (by kernel_rfl) (by kernel_rfl) (by kernel_rfl) (fun w hk => au vX rfl) (bJ 4 (aQ.refl _ _) rfl aA (by kernel_rfl) (by kernel_rfl) (by kernel_rfl) (fun w hk => have h := h.tX 9 rfl hk; aF h 8 rfl aV rfl rfl) (bJ 6 (aQ.refl _ _) rfl aA (by kernel_rfl) (by kernel_rfl) (by kernel_rfl) (fun w hk => au vX rfl) (bJ 7 (aQ.refl _ _) rfl aA (by kernel_rfl) (by kernel_rfl) (by kernel_rfl) (fun w hk => have h := h.tX 9 rfl hk; aF h 8 rfl aV rfl rfl) (bJ 8 (aQ.refl _ _) rfl aA (by kernel_rfl) (by kernel_rfl) (by kernel_rfl) (fun w hk => eD (pv := [(0, (.int .i64 (1))), (1, (.int .i64 (dC.locals)))]) (out := [(.int .i64 (1)), (.int .i64 (dC.locals)), (.int .i64 (0)), (.int .i64 (0)), (.slice none 0 0)]) kW rfl ⟨0, 1, [(.int .i64 (1))], rfl, rfl, rfl, Nat.le_of_ble_eq_true rfl, ⟨1, 1, [(.int .i64 (dC.locals))], rfl, rfl, rfl, Nat.le_of_ble_eq_true rfl, rfl⟩⟩) (bJ 9 (aQ.refl _ _) rfl aA (by kernel_rfl) (by kernel_rfl) (by kernel_rfl) (fun w hk => au vX rfl) (bJ 10 (aQ.refl _ _) rfl aA (by kernel_rfl) (by kernel_rfl) (by kernel_rfl) (fun w hk => have h := h.tX 9 rfl hk; aF h 8 rfl aV rfl rfl) (bJ 11 (aQ.refl _ _) rfl aA (by kernel_rfl) (by kernel_rfl) (by kernel_rfl) (fun w hk => eD (pv := [(0, (.int .i64 (8))), (1, (.int .i64 (dC.locals)))]) (out := [(.int .i64 (8)), (.int .i64 (dC.locals)), (.int .i64 (0)), (.int .i64 (0)), (.slice none 0 0)]) kW rfl ⟨0, 1, [(.int .i64 (8))], rfl, rfl, rfl, Nat.le_of_ble_eq_true rfl, ⟨1, 1, [(.int .i64 (dC.locals))], rfl, rfl, rfl, Nat.le_of_ble_eq_true rfl, rfl⟩⟩) ?_))))))))))
 obtain ⟨yC, Jg, hs⟩ := aM hs
 obtain ⟨zo, hs⟩ := aZ hs
 obtain ⟨Kk, I5⟩ : ∃ x, x = w := ⟨_, rfl⟩
 have lD : aQ (fun x => x = Wm) Kk w := I5 ▸ aQ.refl (fun x => x = Wm) w
 refine yj I5.symm (uJ 5 12 (by kernel_rfl) rfl aA rfl aA ?_ ?_)
 refine aO G7 rfl rfl (sM N _ _ h.lt u21 dC.body (h.mU 7 rfl) va a (h.fV 1 rfl) dC.locals 0 _ Jg) ?_
 rintro _ w ⟨yD, Eg, rfl, Eh, yE⟩
 refine ⟨_, rfl, ?_⟩
 replace h := h.jm 132 yD Eh yE
 have wF : ∀ b, ob Eg b → Kk.heap.size ≤ b := fun b hb => Nat.le_trans lD.size (yE b hb)
 replace lD := lD.grow yD
 refine ah (aY lD (bW 12 (by kernel_rfl) rfl aA (zM (R := iG) (vs := [(.agg #[(.int .i64 (1)), (.int .i64 (dC.locals)), (.int .i64 (0)), (.int .i64 (0)), (.slice none 0 0)]), (.agg #[(.int .i64 (8)), (.int .i64 (dC.locals)), (.int .i64 (0)), (.int .i64 (0)), (.slice none 0 0)])]) (xs := [(⟨1, dC.locals, 0, 0, []⟩ : Ins), (⟨8, dC.locals, 0, 0, []⟩ : Ins)]) h 216 dP rfl rfl rfl ⟨⟨_, rfl, eZ.nil⟩, ⟨⟨_, rfl, eZ.nil⟩, trivial⟩⟩ rfl fun w Ci h Aa Ab => ?_)))
 have KM : ∀ b, ob Ci b → Kk.heap.size ≤ b := fun b hb => Nat.le_trans lD.size (Ab b hb)
 replace lD := lD.grow Aa
 refine ah (aY lD (bW 13 (by kernel_rfl) rfl aA ?_))
 have Ac := lD.size
 refine pF (R := iG) (m := [(⟨1, dC.locals, 0, 0, []⟩ : Ins), (⟨8, dC.locals, 0, 0, []⟩ : Ins)]) h 132 rfl (h.dJ 216 rfl) dP rfl rfl rfl zo.1 zo.2 fun w wG h Ad Ae => ?_
 replace lD := lD.NS Ad wF
 have KN := FM Ac wF Ae
 refine ah (aY lD (bJ 14 lD rfl aA (by kernel_rfl) (by kernel_rfl) (by kernel_rfl) (fun w hk => au um rfl) (bW 15 (by kernel_rfl) rfl aA (tq h 9 [(.int .i64 (dC.params)), (.int .i64 (30)), wG] rfl Bc rfl rfl rfl rfl (h.fF 132 rfl).one fun w h Cj => ?_))))
 replace lD := lD.same Cj
 refine ah (aY lD (jE (by kernel_rfl) (ay ?_)))
 replace h := h.Iw 132 70 rfl rfl (by decide)
 exact bR (wG, (yC ++ [(⟨1, dC.locals, 0, 0, []⟩ : Ins), (⟨8, dC.locals, 0, 0, []⟩ : Ins)])) ⟨h.cn _, hs⟩
 refine zM (R := iG) (vs := [(.agg #[(.int .i64 (1)), (.int .i64 (dC.locals)), (.int .i64 (0)), (.int .i64 (0)), (.slice none 0 0)]), (.agg #[(.int .i64 (8)), (.int .i64 (dC.locals)), (.int .i64 (0)), (.int .i64 (0)), (.slice none 0 0)])]) (xs := [(⟨1, dC.locals, 0, 0, []⟩ : Ins), (⟨8, dC.locals, 0, 0, []⟩ : Ins)]) h 216 dP rfl rfl rfl ⟨⟨_, rfl, eZ.nil⟩, ⟨⟨_, rfl, eZ.nil⟩, trivial⟩⟩ rfl fun w Ci h Aa Ab => ?_
 have KM : ∀ b, ob Ci b → Kk.heap.size ≤ b := fun b hb => Nat.le_trans lD.size (Ab b hb)
 replace lD := lD.grow Aa
 refine ah (aY lD (bW 5 (by kernel_rfl) rfl aA (aO G7 rfl rfl (sM N _ _ h.lt u21 dC.body (h.mU 7 rfl) va a (h.fV 1 rfl) dC.locals 0 _ Jg) ?_)))
 rintro _ w ⟨yD, Eg, rfl, Eh, yE⟩
 refine ⟨_, rfl, ?_⟩
 replace h := h.jm 132 yD Eh yE
 have wF : ∀ b, ob Eg b → Kk.heap.size ≤ b := fun b hb => Nat.le_trans lD.size (yE b hb)
 replace lD := lD.grow yD
 refine ah (aY lD (bW 13 (by kernel_rfl) rfl aA ?_))
 have Ac := lD.size
 refine pF (R := iG) (m := [(⟨1, dC.locals, 0, 0, []⟩ : Ins), (⟨8, dC.locals, 0, 0, []⟩ : Ins)]) h 132 rfl (h.dJ 216 rfl) dP rfl rfl rfl zo.1 zo.2 fun w wG h Ad Ae => ?_
 replace lD := lD.NS Ad wF
 have KN := FM Ac wF Ae
 refine ah (aY lD (bJ 14 lD rfl aA (by kernel_rfl) (by kernel_rfl) (by kernel_rfl) (fun w hk => au um rfl) (bW 15 (by kernel_rfl) rfl aA (tq h 9 [(.int .i64 (dC.params)), (.int .i64 (30)), wG] rfl Bc rfl rfl rfl rfl (h.fF 132 rfl).one fun w h Cj => ?_))))
 replace lD := lD.same Cj
 refine ah (aY lD (jE (by kernel_rfl) (ay ?_)))
 replace h := h.Iw 132 70 rfl rfl (by decide)
 exact bR (wG, (yC ++ [(⟨1, dC.locals, 0, 0, []⟩ : Ins), (⟨8, dC.locals, 0, 0, []⟩ : Ins)])) ⟨h.cn _, hs⟩
 rw [fK (hik ▸ e14), fB] at hs
 refine bT (aH (aH (aT (aa (ai (ag (ae (ak (v := v7) rfl) (ae (aj (v := v7) rfl) (ah (aa (aI (bI (v := v7) Tryz.results39 rfl ?_))))))))))))
 obtain rfl := Option.some.inj hs
 exact ⟨h.grown, _, rfl, (h.kJ 5 rfl).1, (h.kJ 5 rfl).2⟩
def eF (x6 : Bool) : Bool × Bool × Bool × Bool :=
  bif x6 then (false, false, false, true) else (false, false, false, false)
def dW (a : Int) (x3 : Bool) : Bool × Bool × Bool × Bool :=
  bif x3 then (true, true, false, true) else bif decide ((a : Int) = 3) then (true, true, true, true) else bif decide ((a : Int) = 10) then eF (decide ((a : Int) = 10)) else eF (decide ((a : Int) = 12))
def dw (a : Int) (x1 : Bool) : Bool × Bool × Bool × Bool :=
  bif x1 then (true, false, false, true) else bif decide ((a : Int) = 2) then dW a (decide ((a : Int) = 2)) else bif decide ((a : Int) = 4) then dW a (decide ((a : Int) = 4)) else dW a (decide ((a : Int) = 6))
def bu (a : Int) : Bool × Bool × Bool × Bool :=
  bif decide ((a : Int) = 1) then dw a (decide ((a : Int) = 1)) else bif decide ((a : Int) = 5) then dw a (decide ((a : Int) = 5)) else bif decide ((a : Int) = 8) then dw a (decide ((a : Int) = 8)) else bif decide ((a : Int) = 9) then dw a (decide ((a : Int) = 9)) else bif decide ((a : Int) = 11) then dw a (decide ((a : Int) = 11)) else bif decide ((a : Int) = 13) then dw a (decide ((a : Int) = 13)) else dw a (decide ((a : Int) = 7))
theorem Jh (w0 : World) (M : BS) (hM : ∀ b, M b → b < w0.heap.size) (a : Int) (r : Bool × Bool × Bool × Bool) (hs : bu a = r) :
    Calls Tryz.prog 115 #[(.int .i64 (a))] w0 (fun e w' => Grow w0 w' ∧ e = .returned (.tuple #[.bool r.1, .bool r.2.1, .bool r.2.2.1, .bool r.2.2.2])) := by
 refine aK (args := [(.int .i64 (a))]) Tryz.func115 rfl Tryz.ntmps115 (Nat.le_of_ble_eq_true rfl) ?_
 have h := SH.init hM
 refine ai (ag (ae (aj (v := (.bool (false))) rfl) (ae (aj (v := (.bool (false))) rfl) (ae (aj (v := (.bool (false))) rfl) (ae (aj (v := (.bool (false))) rfl) (ah (aa (ai (ai (ag (ae (ak (v := (.int .i64 (a))) rfl) (ah (aa (aL (bU (σ := Bool) (inl [7, 8, 9, 10, 11, 12, 13, 14]) (fun x1 => [(7, (.bool (x1)))]) (fun x1 w => SH w0 M BE w (hset []) ∧ dw a x1 = r) ?_ ?_)))))))))))))))
 rintro x1 w dm ⟨h, hs⟩
 refine aJ hs rfl (fun c2 hs => ?_) (fun c2 hs => ?_)
 refine ai (ag (ae (aj (v := (.bool (true))) rfl) (ae (aj (v := (.bool (false))) rfl) (ae (aj (v := (.bool (false))) rfl) (ae (aj (v := (.bool (true))) rfl) (ah (aa (aI (aG (aB (Ob (v1 := (.bool (true))) (v2 := (.bool (false))) (v3 := (.bool (false))) (v4 := (.bool (true))) Tryz.results115 rfl rfl rfl rfl ?_)))))))))))
 obtain rfl := hs
 exact ⟨h.grown, rfl⟩
 refine bU (σ := Bool) (inl [15, 16, 17, 18]) (fun x3 => [(15, (.bool (x3)))]) (fun x3 w => SH w0 M BE w (hset []) ∧ dW a x3 = r) ?_ ?_
 rintro x3 w dm ⟨h, hs⟩
 refine aJ hs rfl (fun c4 hs => ?_) (fun c4 hs => ?_)
 refine ai (ag (ae (aj (v := (.bool (true))) rfl) (ae (aj (v := (.bool (true))) rfl) (ae (aj (v := (.bool (false))) rfl) (ae (aj (v := (.bool (true))) rfl) (ah (aa (aI (aG (aB (Ob (v1 := (.bool (true))) (v2 := (.bool (true))) (v3 := (.bool (false))) (v4 := (.bool (true))) Tryz.results115 rfl rfl rfl rfl ?_)))))))))))
 obtain rfl := hs
 exact ⟨h.grown, rfl⟩
 refine ai (ag (ae (bM rfl rfl) (ae (aj (v := (.bool (decide ((a : Int) = 3)))) rfl) (ah (aa (aJ hs rfl (fun c5 hs => ?_) (fun c5 hs => ?_)))))))
 refine ai (ag (ae (aj (v := (.bool (true))) rfl) (ae (aj (v := (.bool (true))) rfl) (ae (aj (v := (.bool (true))) rfl) (ae (aj (v := (.bool (true))) rfl) (ah (aa (aI (aG (aB (Ob (v1 := (.bool (true))) (v2 := (.bool (true))) (v3 := (.bool (true))) (v4 := (.bool (true))) Tryz.results115 rfl rfl rfl rfl ?_)))))))))))
 obtain rfl := hs
 exact ⟨h.grown, rfl⟩
 refine bU (σ := Bool) (inl [21, 22, 23]) (fun x6 => [(21, (.bool (x6)))]) (fun x6 w => SH w0 M BE w (hset []) ∧ eF x6 = r) ?_ ?_
 rintro x6 w dm ⟨h, hs⟩
 refine aJ hs rfl (fun c7 hs => ?_) (fun c7 hs => ?_)
 refine ai (ag (ae (aj (v := (.bool (false))) rfl) (ae (aj (v := (.bool (false))) rfl) (ae (aj (v := (.bool (false))) rfl) (ae (aj (v := (.bool (true))) rfl) (ah (aa (aI (aG (aB (Ob (v1 := (.bool (false))) (v2 := (.bool (false))) (v3 := (.bool (false))) (v4 := (.bool (true))) Tryz.results115 rfl rfl rfl rfl ?_)))))))))))
 obtain rfl := hs
 exact ⟨h.grown, rfl⟩
 refine aD (az (aa (ai (ag (ae (aj (v := (.bool (false))) rfl) (ae (aj (v := (.bool (false))) rfl) (ae (aj (v := (.bool (false))) rfl) (ae (aj (v := (.bool (false))) rfl) (ah (aa (aI (Ob (v1 := (.bool (false))) (v2 := (.bool (false))) (v3 := (.bool (false))) (v4 := (.bool (false))) Tryz.results115 rfl rfl rfl rfl ?_))))))))))))
 obtain rfl := hs
 exact ⟨h.grown, rfl⟩
 refine ai (ag (ae (bM rfl rfl) (ae (aj (v := (.bool (decide ((a : Int) = 10)))) rfl) (ah (aa (aJ hs rfl (fun c8 hs => ?_) (fun c8 hs => ?_)))))))
 refine aD (ay ?_)
 exact bR (decide ((a : Int) = 10)) ⟨h.cn _, hs⟩
 refine ag (ae (bM rfl rfl) (ae (aj (v := (.bool (decide ((a : Int) = 12)))) rfl) (ah (ay ?_))))
 exact bR (decide ((a : Int) = 12)) ⟨h.cn _, hs⟩
 refine ai (ag (ae (bM rfl rfl) (ae (aj (v := (.bool (decide ((a : Int) = 2)))) rfl) (ah (aa (aJ hs rfl (fun c9 hs => ?_) (fun c9 hs => ?_)))))))
 refine aD (ay ?_)
 exact bR (decide ((a : Int) = 2)) ⟨h.cn _, hs⟩
 refine ai (ag (ae (bM rfl rfl) (ae (aj (v := (.bool (decide ((a : Int) = 4)))) rfl) (ah (aa (aJ hs rfl (fun c10 hs => ?_) (fun c10 hs => ?_)))))))
 refine aD (ay ?_)
 exact bR (decide ((a : Int) = 4)) ⟨h.cn _, hs⟩
 refine ag (ae (bM rfl rfl) (ae (aj (v := (.bool (decide ((a : Int) = 6)))) rfl) (ah (ay ?_))))
 exact bR (decide ((a : Int) = 6)) ⟨h.cn _, hs⟩
 refine ai (ag (ae (bM rfl rfl) (ae (aj (v := (.bool (decide ((a : Int) = 1)))) rfl) (ah (aa (aJ hs rfl (fun c11 hs => ?_) (fun c11 hs => ?_)))))))
 refine aD (ay ?_)
 exact bR (decide ((a : Int) = 1)) ⟨h.cn _, hs⟩
 refine ai (ag (ae (bM rfl rfl) (ae (aj (v := (.bool (decide ((a : Int) = 5)))) rfl) (ah (aa (aJ hs rfl (fun c12 hs => ?_) (fun c12 hs => ?_)))))))
 refine aD (ay ?_)
 exact bR (decide ((a : Int) = 5)) ⟨h.cn _, hs⟩
 refine ai (ag (ae (bM rfl rfl) (ae (aj (v := (.bool (decide ((a : Int) = 8)))) rfl) (ah (aa (aJ hs rfl (fun c13 hs => ?_) (fun c13 hs => ?_)))))))
 refine aD (ay ?_)
 exact bR (decide ((a : Int) = 8)) ⟨h.cn _, hs⟩
 refine ai (ag (ae (bM rfl rfl) (ae (aj (v := (.bool (decide ((a : Int) = 9)))) rfl) (ah (aa (aJ hs rfl (fun c14 hs => ?_) (fun c14 hs => ?_)))))))
 refine aD (ay ?_)
 exact bR (decide ((a : Int) = 9)) ⟨h.cn _, hs⟩
 refine ai (ag (ae (bM rfl rfl) (ae (aj (v := (.bool (decide ((a : Int) = 11)))) rfl) (ah (aa (aJ hs rfl (fun c15 hs => ?_) (fun c15 hs => ?_)))))))
 refine aD (ay ?_)
 exact bR (decide ((a : Int) = 11)) ⟨h.cn _, hs⟩
 refine ai (ag (ae (bM rfl rfl) (ae (aj (v := (.bool (decide ((a : Int) = 13)))) rfl) (ah (aa (aJ hs rfl (fun c16 hs => ?_) (fun c16 hs => ?_)))))))
 refine aD (ay ?_)
 exact bR (decide ((a : Int) = 13)) ⟨h.cn _, hs⟩
 refine ag (ae (bM rfl rfl) (ae (aj (v := (.bool (decide ((a : Int) = 7)))) rfl) (ah (ay ?_))))
 exact bR (decide ((a : Int) = 7)) ⟨h.cn _, hs⟩
def dL (a : Bool) (b : Int) (iY : Int) : Bool :=
  ((!a) || (decide ((0 : Int) ≤ b) && decide ((b : Int) < iY)))
theorem xQ (w0 : World) (M : BS) (hM : ∀ b, M b → b < w0.heap.size) (a : Bool) (b : Int) (iY : Int) (q0 : Nat) (hq0 : ∃ E, w0.heap[q0]? = some (.cells #[(.int .i64 (iY))] E (0, 0))) (r : Bool) (hs : dL a b iY = r) :
    Calls Tryz.prog 116 #[(.bool (a)), (.int .i64 (b)), (.pointer (some ⟨q0, 0, none⟩))] w0 (fun e w' => Grow w0 w' ∧ e = .returned (.bool r)) := by
 refine aK (args := [(.bool (a)), (.int .i64 (b)), (.pointer (some ⟨q0, 0, none⟩))]) Tryz.func116 rfl Tryz.ntmps116 (Nat.le_of_ble_eq_true rfl) ?_
 have h := SH.init hM
 replace h := h.FI 1 (cs := [(.int .i64 (iY))]) hq0 aW
 refine ai (ag (ae (aj (v := (.bool (false))) rfl) (ah (aa (ai (ag (ae (ak (v := (.bool (a))) rfl) (ae (fZ rfl) (ae (ak (v := (.bool ((!a)))) rfl) (aC rfl rfl (fun q => ak (v := (.int .i64 (b))) rfl) (aC rfl rfl (fun q => oL (cO q) rfl) (aC rfl rfl (fun q => ak (v := (.bool (decide ((0 : Int) ≤ b)))) (cO q)) (lZ ((!a) == false) rfl rfl (fun q => ak (v := (.int .i64 (b))) rfl) (lZ ((!a) == false) rfl rfl (fun q => ed (k := 0) h 1 rfl aV rfl rfl) (lZ ((!a) == false) rfl rfl (fun q => dA (cO q) (cO q)) (aC rfl rfl (fun q => gJ (cO q) (NL q) mR) (ae (gM rfl rfl mR) (ae (aj (v := (.bool (((!a) || (decide ((0 : Int) ≤ b) && decide ((b : Int) < iY)))))) rfl) (ah (aa (aI (bI (v := (.bool (((!a) || (decide ((0 : Int) ≤ b) && decide ((b : Int) < iY)))))) Tryz.results116 rfl ?_))))))))))))))))))))))
 obtain rfl := hs
 exact ⟨h.grown, rfl⟩
def lu (d : Int) (x20 : Int) (s : Unit) (Rm : Unit → Option Int) : Option Int :=
  bif (!(decide ((0 : Int) ≤ x20) && decide ((x20 : Int) < d))) then some 3 else Rm ()
def o8 (s : Unit) : Option Int :=
  some 0
def dB (x9 : Bool) (a : Ins) (b : Int) (Dw : Int) (c : List bV) (y13 : Int) (xW : Int) (d : Int) (pJ : Int) : Option Int :=
  bif (!x9) then some 3 else bif (((decide ((a.a : Int) ≠ pJ) || decide ((a.b : Int) ≠ Dw)) || decide ((a.c : Int) ≠ y13)) || decide (((a.args.length : Int) : Int) ≠ xW)) then some 4 else bif decide ((a.op : Int) = 7) then each (lu d) o8 a.args () else some 0
def bK (a : Ins) (b : Int) (c : List bV) (d : Int) (x9 : Bool) (xW : Int) (MX : Int) (Dw : Int) (y13 : Int) : Option Int :=
  bif decide ((a.op : Int) = 12) then dB x9 a b Dw c y13 xW d 0 else dB x9 a b Dw c y13 xW d MX
def bZ (a : Ins) (b : Int) (c : List bV) (d : Int) (AA : Bool) : Option Int :=
  bif AA then bK a b c d ((bu a.op).2.2.2) 0 a.a 0 0 else bif decide ((a.op : Int) = 10) then bK a b c d ((bu a.op).2.2.2) 0 0 0 0 else bK a b c d ((bu a.op).2.2.2) 0 a.a a.b 0
def cB (a : Ins) (b : Int) (c : List bV) (d : Int) (e : Int) (Vl : Bool) : Option Int :=
  bif Vl then bK a b c d (decide ((0 : Int) ≤ a.b) && decide ((a.b : Int) < e)) 0 a.a a.b 0 else bif decide ((a.op : Int) = 7) then bif (decide ((a.b : Int) < 0) || decide (((c.length : Int) : Int) ≤ a.b)) then some 5 else (idx c a.b).bind fun x54 => bK a b c d ((bu a.op).2.2.2) x54.params a.a a.b 0 else bif decide ((a.op : Int) = 8) then bZ a b c d (decide ((a.op : Int) = 8)) else bif decide ((a.op : Int) = 9) then bZ a b c d (decide ((a.op : Int) = 9)) else bZ a b c d (decide ((a.op : Int) = 11))
def cK (a : Ins) (b : Int) (c : List bV) (d : Int) (e : Int) (x34 : Bool) : Option Int :=
  bif x34 then bK a b c d (decide ((0 : Int) ≤ a.c) && decide ((a.c : Int) < 4)) 0 a.a a.b a.c else bif decide ((a.op : Int) = 3) then bif decide (((a.args.length : Int) : Int) = 1) then (idx a.args 0).bind fun x38 => bK a b c d (decide ((1 : Int) ≤ x38) && decide ((x38 : Int) ≤ 5)) 1 a.a a.b a.c else bK a b c d false 1 a.a a.b a.c else bif decide ((a.op : Int) = 12) then cB a b c d e (decide ((a.op : Int) = 12)) else cB a b c d e (decide ((a.op : Int) = 13))
def fH (a : Ins) (b : Int) (c : List bV) (d : Int) (e : Int) : Option Int :=
  bif (!(bu a.op).2.2.2) then some 4 else bif (((!((!(bu a.op).1) || (decide ((0 : Int) ≤ a.a) && decide ((a.a : Int) < d)))) || (!(dL ((bu a.op).2.1) a.b d))) || (!(dL ((bu a.op).2.2.1) a.c d))) then some 3 else bif decide ((a.op : Int) = 1) then bK a b c d (decide ((-1000000000 : Int) ≤ a.b) && decide ((a.b : Int) ≤ 1000000000)) 0 a.a a.b 0 else bif decide ((a.op : Int) = 5) then bK a b c d (decide ((1 : Int) ≤ a.b) && decide ((a.b : Int) ≤ 4)) 0 a.a a.b 0 else bif decide ((a.op : Int) = 4) then cK a b c d e (decide ((a.op : Int) = 4)) else cK a b c d e (decide ((a.op : Int) = 6))
theorem Ht (w0 : World) (M : BS) (hM : ∀ b, M b → b < w0.heap.size) (a : Ins) (KO : Value) (ha4 : eZ cZ w0 BE M KO a.args) (b : Int) (vc : Value) (c : List bV) (hc : eZ lC w0 BE M vc c) (d : Int) (e : Int) (r : Int) (hs : fH a b c d e = some r) :
    Calls Tryz.prog 86 #[(.agg #[(.int .i64 (a.op)), (.int .i64 (a.a)), (.int .i64 (a.b)), (.int .i64 (a.c)), KO]), (.int .i64 (b)), vc, (.int .i64 (d)), (.int .i64 (e))] w0 (fun e w' => Grow w0 w' ∧ e = .returned (.int .i64 r)) := by
 refine aK (args := [(.agg #[(.int .i64 (a.op)), (.int .i64 (a.a)), (.int .i64 (a.b)), (.int .i64 (a.c)), KO]), (.int .i64 (b)), vc, (.int .i64 (d)), (.int .i64 (e))]) Tryz.func86 rfl Tryz.ntmps86 (Nat.le_of_ble_eq_true rfl) ?_
 have h := SH.init hM
 replace h := h.dU 1 ha4 aW
 replace h := h.dU 2 hc (bD aW)
 have hl_c := hc.bL
 refine ai (ag (pX (cs := [(.int .i64 (a.op)), (.int .i64 (a.a)), (.int .i64 (a.b)), (.int .i64 (a.c)), KO]) h 3 rfl rfl fun w b1 h => pX (cs := [(.int .i64 (d))]) h 4 rfl rfl fun w b2 h => ae (aj (v := (.int .i64 (0))) rfl) (ah (aa (ai (ag (ae (au rH rfl) (ae (aF h 3 rfl aV rfl rfl) (aO Q0 rfl rfl (Jh _ _ h.lt a.op _ rfl) ?_)))))))))
 rintro _ w ⟨k3, rfl⟩
 refine ⟨_, rfl, ?_⟩
 replace h := h.grow k3
 refine ae (ak (v := (.tuple #[(.bool ((bu a.op).1)), (.bool ((bu a.op).2.1)), (.bool ((bu a.op).2.2.1)), (.bool ((bu a.op).2.2.2))])) rfl) (ae (bC rfl rfl) (ae (bC rfl rfl) (ae (bC rfl rfl) (ae (bC rfl rfl) (ae (aj (v := (.bool ((bu a.op).1))) rfl) (ae (aj (v := (.bool ((bu a.op).2.1))) rfl) (ae (aj (v := (.bool ((bu a.op).2.2.1))) rfl) (ae (aj (v := (.bool ((bu a.op).2.2.2))) rfl) (ah (aa (ai (ai (ag (ae (ak (v := (.bool ((bu a.op).2.2.2))) rfl) (ae (fZ rfl) (ah (aa (aJ hs rfl (fun c4 hs => ?_) (fun c4 hs => ?_)))))))))))))))))))
 refine ai (ag (ae (aj (v := (.int .i64 (4))) rfl) (ah (aa (aI (aB (bI (v := (.int .i64 (4))) Tryz.results86 rfl ?_)))))))
 obtain rfl := Option.some.inj hs
 exact ⟨h.grown, rfl⟩
 refine aD (aa (ai (ag (ae (pM (c1 := []) (c2 := [(.pointer (some ⟨b2, 0, none⟩))]) rfl rfl) (ae (aj (v := (.func (.func 116) #[] #[(.pointer (some ⟨b2, 0, none⟩))])) rfl) (ah (aa (ai (ai (ag (ae (ak (v := (.func (.func 116) #[] #[(.pointer (some ⟨b2, 0, none⟩))])) rfl) (ae (ak (v := (.bool ((bu a.op).1))) rfl) (ae (au zh rfl) (ae (aF h 3 rfl aV rfl rfl) (jh (args := [(.bool ((bu a.op).1)), (.int .i64 (a.a)), (.pointer (some ⟨b2, 0, none⟩))]) Dq rfl rfl (aK (args := [(.bool ((bu a.op).1)), (.int .i64 (a.a)), (.pointer (some ⟨b2, 0, none⟩))]) Tryz.func116 rfl Tryz.ntmps116 (Nat.le_of_ble_eq_true rfl) (ai (ag (ae (aj (v := (.bool (false))) rfl) (ah (aa (ai (ag ?_)))))))))))))))))))))))
 refine ae (ak (v := (.bool ((bu a.op).1))) rfl) (ae (fZ rfl) (ae (ak (v := (.bool ((!(bu a.op).1)))) rfl) (aC rfl rfl (fun q => ak (v := (.int .i64 (a.a))) rfl) (aC rfl rfl (fun q => oL (cO q) rfl) (aC rfl rfl (fun q => ak (v := (.bool (decide ((0 : Int) ≤ a.a)))) (cO q)) (lZ ((!(bu a.op).1) == false) rfl rfl (fun q => ak (v := (.int .i64 (a.a))) rfl) (lZ ((!(bu a.op).1) == false) rfl rfl (fun q => aF h 4 rfl aV rfl rfl) (lZ ((!(bu a.op).1) == false) rfl rfl (fun q => dA (cO q) (cO q)) (aC rfl rfl (fun q => gJ (cO q) (NL q) mR) (ae (gM rfl rfl mR) (ae (aj (v := (.bool (((!(bu a.op).1) || (decide ((0 : Int) ≤ a.a) && decide ((a.a : Int) < d)))))) rfl) (ah (aa (aI (bI (v := (.bool (((!(bu a.op).1) || (decide ((0 : Int) ≤ a.a) && decide ((a.a : Int) < d)))))) Tryz.results116 rfl (⟨_, rfl, ?_⟩))))))))))))))))
 refine ae (fZ rfl) (ae (ak (v := (.bool ((!((!(bu a.op).1) || (decide ((0 : Int) ≤ a.a) && decide ((a.a : Int) < d))))))) rfl) (aC rfl rfl (fun q => ak (v := (.func (.func 116) #[] #[(.pointer (some ⟨b2, 0, none⟩))])) rfl) (aC rfl rfl (fun q => ak (v := (.bool ((bu a.op).2.1))) rfl) (aC rfl rfl (fun q => au mg rfl) (aC rfl rfl (fun q => aF h 3 rfl aV (cO q) rfl) (DJ [(.pointer (some ⟨b2, 0, none⟩))] rfl rfl Dq (fun q => (cO q)) (fun q => kC (cO q) (kC (cO q) rfl)) (xQ _ _ h.lt ((bu a.op).2.1) a.b d b2 (h.oU 4 rfl) _ rfl) fun w k5 => ?_))))))
 replace h := h.grow k5
 refine aC rfl rfl (fun q => fZ (cO q)) (ae (gM rfl rfl mR) (ae (ak (v := (.bool (((!((!(bu a.op).1) || (decide ((0 : Int) ≤ a.a) && decide ((a.a : Int) < d)))) || (!(dL ((bu a.op).2.1) a.b d)))))) rfl) (aC rfl rfl (fun q => ak (v := (.func (.func 116) #[] #[(.pointer (some ⟨b2, 0, none⟩))])) rfl) (aC rfl rfl (fun q => ak (v := (.bool ((bu a.op).2.2.1))) rfl) (aC rfl rfl (fun q => au uo rfl) (aC rfl rfl (fun q => aF h 3 rfl aV (cO q) rfl) (DJ [(.pointer (some ⟨b2, 0, none⟩))] rfl rfl Dq (fun q => (cO q)) (fun q => kC (cO q) (kC (cO q) rfl)) (xQ _ _ h.lt ((bu a.op).2.2.1) a.c d b2 (h.oU 4 rfl) _ rfl) fun w k6 => ?_)))))))
 replace h := h.grow k6
 refine aC rfl rfl (fun q => fZ (cO q)) (ae (gM rfl rfl mR) (ah (aa (aJ hs rfl (fun c7 hs => ?_) (fun c7 hs => ?_)))))
 refine ai (ag (ae (aj (v := (.int .i64 (3))) rfl) (ah (aa (aI (aB (bI (v := (.int .i64 (3))) Tryz.results86 rfl ?_)))))))
 obtain rfl := Option.some.inj hs
 exact ⟨h.grown, rfl⟩
 refine aD (aa (ai (ag (ae (au uo rfl) (ae (aF h 3 rfl aV rfl rfl) (ae (oL rfl rfl) (ae (ak (v := (.bool (decide ((0 : Int) ≤ a.c)))) rfl) (aC rfl rfl (fun q => au uo rfl) (aC rfl rfl (fun q => aF h 3 rfl aV (cO q) rfl) (aC rfl rfl (fun q => dA (cO q) rfl) (ae (gJ rfl rfl mR) (ae (aj (v := (.bool ((decide ((0 : Int) ≤ a.c) && decide ((a.c : Int) < 4))))) rfl) (ah (aa (ai (ag (ae (aj (v := (.int .i64 (0))) rfl) (ah (aa (ai (ag (ae (au rH rfl) (ae (aF h 3 rfl aV rfl rfl) ?_)))))))))))))))))))))))
 refine ae (au zh rfl) (ae (aF h 3 rfl aV rfl rfl) (ae (au mg rfl) (ae (aF h 3 rfl aV rfl rfl) (ae (eD (pv := [(0, (.int .i64 (a.op))), (1, (.int .i64 (a.a))), (2, (.int .i64 (a.b)))]) (out := [(.int .i64 (a.op)), (.int .i64 (a.a)), (.int .i64 (a.b)), (.int .i64 (0)), (.slice none 0 0)]) kW rfl ⟨0, 1, [(.int .i64 (a.op))], rfl, rfl, rfl, Nat.le_of_ble_eq_true rfl, ⟨1, 1, [(.int .i64 (a.a))], rfl, rfl, rfl, Nat.le_of_ble_eq_true rfl, ⟨2, 1, [(.int .i64 (a.b))], rfl, rfl, rfl, Nat.le_of_ble_eq_true rfl, rfl⟩⟩⟩) (bP h 5 uL fun w b8 h => dV (vs := [(.int .i64 (a.op)), (.int .i64 (a.a)), (.int .i64 (a.b)), (.int .i64 (0)), (.slice none 0 0)]) h 5 [(.int .i64 (a.op)), (.int .i64 (a.a)), (.int .i64 (a.b)), (.int .i64 (0)), (.slice none 0 0)] rfl uL rfl rfl rfl rfl rfl (ax rfl (ax rfl (ax rfl (ax rfl (ax rfl bA))))) fun w h => ah (aa (bU (σ := Bool × Int × Int × Int × Int) (inl [10, 14, 17, 69, 70, 71, 72, 73, 74, 75, 76, 77, 78, 79, 80, 81, 82, 83, 84, 85, 86, 87, 88, 89, 90, 91, 92, 93, 94, 95, 96, 97, 98, 99, 100, 101, 102, 103, 104, 105, 106, 107, 108, 109, 110, 111, 112, 113, 114, 115, 116, 117, 118, 119, 120, 121, 122, 123, 124, 125, 126, 127, 128, 129, 130, 131, 132, 133, 134, 135, 136, 137, 138, 139, 140, 141, 142, 143, 144, 145, 146, 147, 148, 149, 150, 151, 152, 153, 154, 155, 156, 157, 158, 159]) (fun ⟨x9, xW, MX, Dw, y13⟩ => [(14, (.bool (x9))), (17, (.int .i64 (xW)))]) (fun ⟨x9, xW, MX, Dw, y13⟩ w => SH w0 M BE w (hset [(1, .sr cZ KO a.args), (3, .blk b1 [(.int .i64 (a.op)), (.int .i64 (a.a)), (.int .i64 (a.b)), (.int .i64 (a.c)), KO]), (4, .blk b2 [(.int .i64 (d))]), (5, .blk b8 [(.int .i64 (a.op)), (.int .i64 (MX)), (.int .i64 (Dw)), (.int .i64 (y13)), (.slice none 0 0)])]) ∧ bK a b c d x9 xW MX Dw y13 = some r) ?_ ?_)))))))
 rintro ⟨x9, xW, MX, Dw, y13⟩ w dm ⟨h, hs⟩
 refine bU (σ := Int) (inl [160, 161, 162, 163]) (fun pJ => []) (fun pJ w => SH w0 M BE w (hset [(1, .sr cZ KO a.args), (3, .blk b1 [(.int .i64 (a.op)), (.int .i64 (a.a)), (.int .i64 (a.b)), (.int .i64 (a.c)), KO]), (4, .blk b2 [(.int .i64 (d))]), (5, .blk b8 [(.int .i64 (a.op)), (.int .i64 (pJ)), (.int .i64 (Dw)), (.int .i64 (y13)), (.slice none 0 0)])]) ∧ dB x9 a b Dw c y13 xW d pJ = some r) ?_ ?_
 rintro pJ w dm ⟨h, hs⟩
 refine ai (ai (ag (ae (ak (v := (.bool (x9))) rfl) (ae (fZ rfl) (ah (aa (aJ hs rfl (fun c15 hs => ?_) (fun c15 hs => ?_))))))))
 refine ai (ag (ae (aj (v := (.int .i64 (3))) rfl) (ah (aa (aI (aB (bI (v := (.int .i64 (3))) Tryz.results86 rfl ?_)))))))
 obtain rfl := Option.some.inj hs
 exact ⟨h.grown, rfl⟩
 refine aD (aa (ai (ai (ag (ae (au zh rfl) (ae (aF h 3 rfl aV rfl rfl) (ae (au zh rfl) (ae (aF h 5 rfl aV rfl rfl) (ae (iH rfl rfl) (ae (ak (v := (.bool (decide ((a.a : Int) ≠ pJ)))) rfl) (aC rfl rfl (fun q => au mg rfl) (aC rfl rfl (fun q => aF h 3 rfl aV (cO q) rfl) (aC rfl rfl (fun q => au mg rfl) (aC rfl rfl (fun q => aF h 5 rfl aV (cO q) rfl) (aC rfl rfl (fun q => iH (cO q) (cO q)) (ae (gM rfl rfl mR) (ae (ak (v := (.bool ((decide ((a.a : Int) ≠ pJ) || decide ((a.b : Int) ≠ Dw))))) rfl) (aC rfl rfl (fun q => au uo rfl) (aC rfl rfl (fun q => aF h 3 rfl aV (cO q) rfl) (aC rfl rfl (fun q => au uo rfl) (aC rfl rfl (fun q => aF h 5 rfl aV (cO q) rfl) (aC rfl rfl (fun q => iH (cO q) (cO q)) (ae (gM rfl rfl mR) ?_)))))))))))))))))))))))
 refine ae (ak (v := (.bool (((decide ((a.a : Int) ≠ pJ) || decide ((a.b : Int) ≠ Dw)) || decide ((a.c : Int) ≠ y13))))) rfl) (aC rfl rfl (fun q => au zi rfl) (aC rfl rfl (fun q => aF h 3 rfl qx (cO q) rfl) (aC rfl rfl (fun q => bF bS (cO q) (h.fV 1 rfl)) (aC rfl rfl (fun q => ak (v := (.int .i64 (xW))) rfl) (aC rfl rfl (fun q => iH (cO q) (cO q)) (ae (gM rfl rfl mR) (ah (aa (aJ hs rfl (fun c16 hs => ?_) (fun c16 hs => ?_))))))))))
 refine ai (ag (ae (aj (v := (.int .i64 (4))) rfl) (ah (aa (aI (aB (bI (v := (.int .i64 (4))) Tryz.results86 rfl ?_)))))))
 obtain rfl := Option.some.inj hs
 exact ⟨h.grown, rfl⟩
 refine aD (aa (ai (ai (ag (ae (au rH rfl) (ae (aF h 3 rfl aV rfl rfl) (ae (bM rfl rfl) (ah (aa (aJ hs rfl (fun c17 hs => ?_) (fun c17 hs => ?_)))))))))))
 refine ai (ag (ae (au zi rfl) (ae (aF h 3 rfl qx rfl rfl) (ae (bF bS rfl (h.fV 1 rfl)) (ae (ak (v := (.int .i64 (0))) rfl) (ah (aa (aL (fq (σ := Nat × Int) (inl [10, 20, 198, 199, 200, 201, 202, 203, 204, 205, 206]) (fun ⟨k18, i19⟩ => [(198, (.int .i64 (i19)))]) (fun ⟨k18, i19⟩ w => SH w0 M BE w (hset [(1, .sr cZ KO a.args), (4, .blk b2 [(.int .i64 (d))])]) ∧ i19 = (k18 : Int) ∧ each (lu d) o8 (a.args.drop k18) () = some r) (fun ⟨k18, i19⟩ => a.args.length - k18) ⟨0, 0⟩ ⟨rfl, trivial⟩ ?_ ?_)))))))))
 exact ⟨h.cn _, rfl, hs⟩
 rintro ⟨k18, i19⟩ w dm ⟨h, hik, hs⟩
 refine ai (ag ?_)
 refine ae (dA rfl rfl) (ah (aa ?_))
 refine ai (gH rfl (fun e23 => ?_) (fun e23 => ?_))
 refine aD (aa ?_)
 obtain ⟨x20, e24a, e24b⟩ := fJ (hik ▸ e23)
 rw [e24b, df] at hs
 generalize Wn : each (lu d) o8 (a.args.drop (k18 + 1)) = Rm at hs
 have e24r := fO ((h.fV 1 rfl)).bL hik e23
 refine ai (aL (ai (ag ?_)))
 obtain ⟨U5, o27, Uj, h, Uk, i25⟩ := h.wZ 1 6 rfl bS rfl (gZ hik) (fM hik e24a)
 obtain rfl := Uk
 refine ae (i25 _ _ _ _ _ _ _ _ _ rfl rfl) (ae (ed (k := 0) h 6 rfl aV rfl rfl) (ae (aj (v := (.int .i64 (x20))) rfl) (ah (aa (ai (ag (ae (ak (v := (.func (.func 116) #[] #[(.pointer (some ⟨b2, 0, none⟩))])) rfl) (ae (ak (v := (.int .i64 (x20))) rfl) (jh (args := [(.bool (true)), (.int .i64 (x20)), (.pointer (some ⟨b2, 0, none⟩))]) Dq rfl rfl (aK (args := [(.bool (true)), (.int .i64 (x20)), (.pointer (some ⟨b2, 0, none⟩))]) Tryz.func116 rfl Tryz.ntmps116 (Nat.le_of_ble_eq_true rfl) (ai (ag (ae (aj (v := (.bool (false))) rfl) (ah (aa (ai (ag (ae (ak (v := (.bool (true))) rfl) (ae (fZ rfl) (ae (ak (v := (.bool (false))) rfl) (dG rfl rfl (ae (ak (v := (.int .i64 (x20))) rfl) (dG rfl rfl ?_)))))))))))))))))))))))
 refine ae (oL rfl rfl) (dG rfl rfl (ae (ak (v := (.bool (decide ((0 : Int) ≤ x20)))) rfl) (aC rfl rfl (fun q => ak (v := (.int .i64 (x20))) rfl) (aC rfl rfl (fun q => aF h 4 rfl aV rfl rfl) (aC rfl rfl (fun q => dA (cO q) (cO q)) (dG rfl rfl (ae (gJ rfl rfl mR) (ae (fw (b := false) (v := (.bool ((decide ((0 : Int) ≤ x20) && decide ((x20 : Int) < d))))) rfl rfl) (ae (aj (v := (.bool ((decide ((0 : Int) ≤ x20) && decide ((x20 : Int) < d))))) rfl) (ah (aa (aI (bI (v := (.bool ((decide ((0 : Int) ≤ x20) && decide ((x20 : Int) < d))))) Tryz.results116 rfl (⟨_, rfl, ?_⟩))))))))))))))
 refine ae (fZ rfl) (ah (aa (aJ hs rfl (fun Zg hs => ?_) (fun Zg hs => ?_))))
 refine ai (ag (ae (aj (v := (.int .i64 (3))) rfl) (ah (aa (aI (aG (aB (aB (aG (aB (bI (v := (.int .i64 (3))) Tryz.results86 rfl ?_)))))))))))
 obtain rfl := Option.some.inj hs
 exact ⟨h.grown, rfl⟩
 refine aD (az (aa (ag (ae (bY rfl rfl e24r) (ae (ak (v := (.int .i64 ((i19 + 1)))) rfl) (ah (ay ?_)))))))
 subst Wn
 exact iQ ⟨k18 + 1, i19 + 1⟩ ⟨h.cn _, by omega, hs⟩ (by have := of_decide_eq_true e23; dsimp only; omega)
 rw [fK (hik ▸ e23), fB] at hs
 refine bT (aH (aH (aT (aa (ai (ag (ae (aj (v := (.int .i64 (0))) rfl) (ah (aa (aI (bI (v := (.int .i64 (0))) Tryz.results86 rfl ?_)))))))))))
 obtain rfl := Option.some.inj hs
 exact ⟨h.grown, rfl⟩
 refine aD (aa (ai (ag (ae (aj (v := (.int .i64 (0))) rfl) (ah (aa (aI (bI (v := (.int .i64 (0))) Tryz.results86 rfl ?_))))))))
 obtain rfl := Option.some.inj hs
 exact ⟨h.grown, rfl⟩
 refine ai (ag (ae (au rH rfl) (ae (aF h 3 rfl aV rfl rfl) (ae (bM rfl rfl) (ah (aa (aJ hs rfl (fun c31 hs => ?_) (fun c31 hs => ?_))))))))
 refine ag (ae (au zh rfl) (dX h 5 [(.int .i64 (a.op)), (.int .i64 (0)), (.int .i64 (Dw)), (.int .i64 (y13)), (.slice none 0 0)] rfl aV rfl rfl rfl rfl rfl fun w h => ah (ay ?_)))
 exact bR 0 ⟨h.cn _, hs⟩
 refine aD (ay ?_)
 exact bR MX ⟨h.cn _, hs⟩
 refine ai (ag (ae (au rH rfl) (ae (aF h 3 rfl aV rfl rfl) (ah (aa (aL (ai (ag (ae (bM rfl rfl) (ae (aj (v := (.bool (decide ((a.op : Int) = 1)))) rfl) (ah (aa (aJ hs rfl (fun c32 hs => ?_) (fun c32 hs => ?_))))))))))))))
 refine ag (ae (au mg rfl) (ae (aF h 3 rfl aV rfl rfl) (ae (oL rfl rfl) (ae (ak (v := (.bool (decide ((-1000000000 : Int) ≤ a.b)))) rfl) (aC rfl rfl (fun q => au mg rfl) (aC rfl rfl (fun q => aF h 3 rfl aV (cO q) rfl) (aC rfl rfl (fun q => CF (cO q) rfl) (ae (gJ rfl rfl mR) (ae (aj (v := (.bool ((decide ((-1000000000 : Int) ≤ a.b) && decide ((a.b : Int) ≤ 1000000000))))) rfl) (ah (az (ay ?_))))))))))))
 exact bR ((decide ((-1000000000 : Int) ≤ a.b) && decide ((a.b : Int) ≤ 1000000000)), 0, a.a, a.b, 0) ⟨h.cn _, hs⟩
 refine ai (ag (ae (bM rfl rfl) (ae (aj (v := (.bool (decide ((a.op : Int) = 5)))) rfl) (ah (aa (aJ hs rfl (fun c33 hs => ?_) (fun c33 hs => ?_)))))))
 refine ag (ae (au mg rfl) (ae (aF h 3 rfl aV rfl rfl) (ae (oL rfl rfl) (ae (ak (v := (.bool (decide ((1 : Int) ≤ a.b)))) rfl) (aC rfl rfl (fun q => au mg rfl) (aC rfl rfl (fun q => aF h 3 rfl aV (cO q) rfl) (aC rfl rfl (fun q => CF (cO q) rfl) (ae (gJ rfl rfl mR) (ae (aj (v := (.bool ((decide ((1 : Int) ≤ a.b) && decide ((a.b : Int) ≤ 4))))) rfl) (ah (az (ay ?_))))))))))))
 exact bR ((decide ((1 : Int) ≤ a.b) && decide ((a.b : Int) ≤ 4)), 0, a.a, a.b, 0) ⟨h.cn _, hs⟩
 refine bU (σ := Bool) (inl [91, 92, 93]) (fun x34 => [(91, (.bool (x34)))]) (fun x34 w => SH w0 M BE w (hset [(1, .sr cZ KO a.args), (2, .sr lC vc c), (3, .blk b1 [(.int .i64 (a.op)), (.int .i64 (a.a)), (.int .i64 (a.b)), (.int .i64 (a.c)), KO]), (4, .blk b2 [(.int .i64 (d))]), (5, .blk b8 [(.int .i64 (a.op)), (.int .i64 (a.a)), (.int .i64 (a.b)), (.int .i64 (0)), (.slice none 0 0)])]) ∧ cK a b c d e x34 = some r) ?_ ?_
 rintro x34 w dm ⟨h, hs⟩
 refine aJ hs rfl (fun TW hs => ?_) (fun TW hs => ?_)
 refine Li 5 mixed (by kernel_rfl) h fun w h => dZ (ak (v := (.bool ((decide ((0 : Int) ≤ a.c) && decide ((a.c : Int) < 4))))) rfl) (dZ (au uo rfl) (dZ (aF h 3 rfl aV rfl rfl) (dZ (aj (v := (.bool ((decide ((0 : Int) ≤ a.c) && decide ((a.c : Int) < 4))))) rfl) (dZ (au uo rfl) (RS (dX h 5 [(.int .i64 (a.op)), (.int .i64 (a.a)), (.int .i64 (a.b)), (.int .i64 (a.c)), (.slice none 0 0)] rfl aV rfl rfl rfl rfl rfl fun w h => ah (az (ay ?_))))))))
 exact bR ((decide ((0 : Int) ≤ a.c) && decide ((a.c : Int) < 4)), 0, a.a, a.b, a.c) ⟨h.cn _, hs⟩
 refine ai (ag (ae (bM rfl rfl) (ae (aj (v := (.bool (decide ((a.op : Int) = 3)))) rfl) (ah (aa (aJ hs rfl (fun c36 hs => ?_) (fun c36 hs => ?_)))))))
 refine ai (Li 4 mixed (by kernel_rfl) h fun w h => dZ (au uo rfl) (dZ (aF h 3 rfl aV rfl rfl) (dZ (aj (v := (.int .i64 (1))) rfl) (dZ (au uo rfl) (RS (dX h 5 [(.int .i64 (a.op)), (.int .i64 (a.a)), (.int .i64 (a.b)), (.int .i64 (a.c)), (.slice none 0 0)] rfl aV rfl rfl rfl rfl rfl fun w h => ah (aa (ag (ae (au zi rfl) (ae (aF h 3 rfl qx rfl rfl) (ae (bF bS rfl (h.fV 1 rfl)) (ae (bM rfl rfl) (ae (ak (v := (.bool (decide (((a.args.length : Int) : Int) = 1)))) rfl) (ma (b := decide (((a.args.length : Int) : Int) = 1)) hs (fun c37 hs => ?_) (fun c37 hs => ?_)))))))))))))))
 refine dG rfl (congrArg Value.bool c37) (ae (au zi rfl) (dG rfl (congrArg Value.bool c37) (ae (aF h 3 rfl qx rfl rfl) (dG rfl (congrArg Value.bool c37) ?_))))
 obtain ⟨x38, e39, hs⟩ := aM hs
 obtain ⟨b41, o42, cs43, h, r44, i40⟩ := h.wZ 1 7 rfl bS rfl (aX e39).1 (aX e39).2
 obtain rfl := r44
 refine ae (i40 _ _ _ _ _ _ _ _ _ rfl rfl) (dG rfl (congrArg Value.bool c37) (ae (ed (k := 0) h 7 rfl aV rfl rfl) (dG rfl (congrArg Value.bool c37) (ae (oL rfl rfl) (ae (fw (b := true) (v := (.bool (decide ((1 : Int) ≤ x38)))) (congrArg Value.bool c37) rfl) (ae (ak (v := (.bool (decide ((1 : Int) ≤ x38)))) rfl) (aC rfl rfl (fun q => au zi rfl) (aC rfl rfl (fun q => aF h 3 rfl qx (cO q) rfl) ?_))))))))
 obtain ⟨b46, o47, cs48, h, r49, i45⟩ := h.wZ 1 8 rfl bS rfl (aX e39).1 (aX e39).2
 obtain rfl := r49
 refine aC rfl rfl (fun q => i45 _ _ _ _ _ _ _ _ _ (cO q) rfl) (aC rfl rfl (fun q => ed (k := 0) h 8 rfl aV (cO q) rfl) (aC rfl rfl (fun q => CF (cO q) rfl) (ae (gJ rfl rfl mR) (ae (aj (v := (.bool ((decide ((1 : Int) ≤ x38) && decide ((x38 : Int) ≤ 5))))) rfl) (ah (az (ay ?_)))))))
 exact bR ((decide ((1 : Int) ≤ x38) && decide ((x38 : Int) ≤ 5)), 1, a.a, a.b, a.c) ⟨h.cn _, hs⟩
 refine bH (b' := false) rfl (congrArg Value.bool c37) rfl (bH (b' := false) rfl (congrArg Value.bool c37) rfl (bH (b' := false) rfl (congrArg Value.bool c37) rfl (bH (b' := false) rfl (congrArg Value.bool c37) rfl (bH (b' := false) rfl (congrArg Value.bool c37) rfl (ae (fw (b := false) (v := (.bool (false))) (congrArg Value.bool c37) rfl) (ae (ak (v := (.bool (false))) rfl) (bH (b' := false) rfl rfl rfl (bH (b' := false) rfl rfl rfl (bH (b' := false) rfl rfl rfl (bH (b' := false) rfl rfl rfl (bH (b' := false) rfl rfl rfl (ae (fw (b := false) (v := (.bool (false))) rfl rfl) (ae (aj (v := (.bool (false))) rfl) (ah (az (ay ?_))))))))))))))))
 exact bR (false, 1, a.a, a.b, a.c) ⟨h.cn _, hs⟩
 refine bU (σ := Bool) (inl [121, 122, 123]) (fun Vl => [(121, (.bool (Vl)))]) (fun Vl w => SH w0 M BE w (hset [(1, .sr cZ KO a.args), (2, .sr lC vc c), (3, .blk b1 [(.int .i64 (a.op)), (.int .i64 (a.a)), (.int .i64 (a.b)), (.int .i64 (a.c)), KO]), (4, .blk b2 [(.int .i64 (d))]), (5, .blk b8 [(.int .i64 (a.op)), (.int .i64 (a.a)), (.int .i64 (a.b)), (.int .i64 (0)), (.slice none 0 0)])]) ∧ cB a b c d e Vl = some r) ?_ ?_
 rintro Vl w dm ⟨h, hs⟩
 refine aJ hs rfl (fun c51 hs => ?_) (fun c51 hs => ?_)
 refine ag (ae (au mg rfl) (ae (aF h 3 rfl aV rfl rfl) (ae (oL rfl rfl) (ae (ak (v := (.bool (decide ((0 : Int) ≤ a.b)))) rfl) (aC rfl rfl (fun q => au mg rfl) (aC rfl rfl (fun q => aF h 3 rfl aV (cO q) rfl) (aC rfl rfl (fun q => ak (v := (.int .i64 (e))) rfl) (aC rfl rfl (fun q => dA (cO q) (cO q)) (ae (gJ rfl rfl mR) (ae (aj (v := (.bool ((decide ((0 : Int) ≤ a.b) && decide ((a.b : Int) < e))))) rfl) (ah (az (ay ?_)))))))))))))
 exact bR ((decide ((0 : Int) ≤ a.b) && decide ((a.b : Int) < e)), 0, a.a, a.b, 0) ⟨h.cn _, hs⟩
 refine ai (ag (ae (bM rfl rfl) (ae (aj (v := (.bool (decide ((a.op : Int) = 7)))) rfl) (ah (aa (aJ hs rfl (fun zX hs => ?_) (fun zX hs => ?_)))))))
 refine ai (ai (ag (ae (au mg rfl) (ae (aF h 3 rfl aV rfl rfl) (ae (dA rfl rfl) (ae (ak (v := (.bool (decide ((a.b : Int) < 0)))) rfl) (aC rfl rfl (fun q => au mg rfl) (aC rfl rfl (fun q => aF h 3 rfl aV (cO q) rfl) (aC rfl rfl (fun q => ak (v := vc) rfl) (aC rfl rfl (fun q => bF lK (cO q) (h.fV 2 rfl)) (aC rfl rfl (fun q => oL (cO q) (cO q)) (ae (gM rfl rfl mR) (ah (aa (aJ hs rfl (fun c53 hs => ?_) (fun c53 hs => ?_))))))))))))))))
 refine ai (ag (ae (aj (v := (.int .i64 (5))) rfl) (ah (aa (aI (aB (aG (aB (bI (v := (.int .i64 (5))) Tryz.results86 rfl ?_)))))))))
 obtain rfl := Option.some.inj hs
 exact ⟨h.grown, rfl⟩
 refine aD (aa (ag (ae (ak (v := vc) rfl) (ae (au mg rfl) (ae (aF h 3 rfl aV rfl rfl) ?_)))))
 obtain ⟨x54, e55, hs⟩ := aM hs
 obtain ⟨b57, o58, Wo, h, Wp, i56⟩ := h.wZ 2 9 rfl lK rfl (aX e55).1 (aX e55).2
 obtain ⟨Zh, rfl, Wq⟩ := uK Wp
 replace h := h.bG 10 Wq.up
 refine ae (i56 _ _ _ _ _ _ _ _ _ rfl rfl) (ae (au A9 rfl) (ae (ed (k := 0) h 9 rfl aV rfl rfl) (ae (aj (v := (.int .i64 (x54.params))) rfl) (ah (az (ay ?_))))))
 exact bR ((bu a.op).2.2.2, x54.params, a.a, a.b, 0) ⟨h.cn _, hs⟩
 refine bU (σ := Bool) (inl [151, 152, 153, 154]) (fun AA => [(151, (.bool (AA)))]) (fun AA w => SH w0 M BE w (hset [(1, .sr cZ KO a.args), (3, .blk b1 [(.int .i64 (a.op)), (.int .i64 (a.a)), (.int .i64 (a.b)), (.int .i64 (a.c)), KO]), (4, .blk b2 [(.int .i64 (d))]), (5, .blk b8 [(.int .i64 (a.op)), (.int .i64 (a.a)), (.int .i64 (a.b)), (.int .i64 (0)), (.slice none 0 0)])]) ∧ bZ a b c d AA = some r) ?_ ?_
 rintro AA w dm ⟨h, hs⟩
 refine aJ hs rfl (fun c64 hs => ?_) (fun c64 hs => ?_)
 refine ag (ae (au mg rfl) (dX h 5 [(.int .i64 (a.op)), (.int .i64 (a.a)), (.int .i64 (0)), (.int .i64 (0)), (.slice none 0 0)] rfl aV rfl rfl rfl rfl rfl fun w h => ah (az (ay ?_))))
 exact bR ((bu a.op).2.2.2, 0, a.a, 0, 0) ⟨h.cn _, hs⟩
 refine ai (ag (ae (bM rfl rfl) (ae (aj (v := (.bool (decide ((a.op : Int) = 10)))) rfl) (ah (aa (aJ hs rfl (fun VP hs => ?_) (fun VP hs => ?_)))))))
 refine ag (ae (au zh rfl) (dX h 5 [(.int .i64 (a.op)), (.int .i64 (0)), (.int .i64 (a.b)), (.int .i64 (0)), (.slice none 0 0)] rfl aV rfl rfl rfl rfl rfl fun w h => ae (au mg rfl) (dX h 5 [(.int .i64 (a.op)), (.int .i64 (0)), (.int .i64 (0)), (.int .i64 (0)), (.slice none 0 0)] rfl aV rfl rfl rfl rfl rfl fun w h => ah (az (ay ?_)))))
 exact bR ((bu a.op).2.2.2, 0, 0, 0, 0) ⟨h.cn _, hs⟩
 refine aD (az (ay ?_))
 exact bR ((bu a.op).2.2.2, 0, a.a, a.b, 0) ⟨h.cn _, hs⟩
 refine ai (ag (ae (bM rfl rfl) (ae (aj (v := (.bool (decide ((a.op : Int) = 8)))) rfl) (ah (aa (aJ hs rfl (fun c66 hs => ?_) (fun c66 hs => ?_)))))))
 refine aD (ay ?_)
 exact bR (decide ((a.op : Int) = 8)) ⟨h.cn _, hs⟩
 refine ai (ag (ae (bM rfl rfl) (ae (aj (v := (.bool (decide ((a.op : Int) = 9)))) rfl) (ah (aa (aJ hs rfl (fun c67 hs => ?_) (fun c67 hs => ?_)))))))
 refine aD (ay ?_)
 exact bR (decide ((a.op : Int) = 9)) ⟨h.cn _, hs⟩
 refine ag (ae (bM rfl rfl) (ae (aj (v := (.bool (decide ((a.op : Int) = 11)))) rfl) (ah (ay ?_))))
 exact bR (decide ((a.op : Int) = 11)) ⟨h.cn _, hs⟩
 refine ai (ag (ae (bM rfl rfl) (ae (aj (v := (.bool (decide ((a.op : Int) = 12)))) rfl) (ah (aa (aJ hs rfl (fun Y5 hs => ?_) (fun Y5 hs => ?_)))))))
 refine aD (ay ?_)
 exact bR (decide ((a.op : Int) = 12)) ⟨h.cn _, hs⟩
 refine ag (ae (bM rfl rfl) (ae (aj (v := (.bool (decide ((a.op : Int) = 13)))) rfl) (ah (ay ?_))))
 exact bR (decide ((a.op : Int) = 13)) ⟨h.cn _, hs⟩
 refine ai (ag (ae (bM rfl rfl) (ae (aj (v := (.bool (decide ((a.op : Int) = 4)))) rfl) (ah (aa (aJ hs rfl (fun c69 hs => ?_) (fun c69 hs => ?_)))))))
 refine aD (ay ?_)
 exact bR (decide ((a.op : Int) = 4)) ⟨h.cn _, hs⟩
 refine ag (ae (bM rfl rfl) (ae (aj (v := (.bool (decide ((a.op : Int) = 6)))) rfl) (ah (ay ?_))))
 exact bR (decide ((a.op : Int) = 6)) ⟨h.cn _, hs⟩
def eP (a : List bV) (wH : bV) (i35 : Int) (pQ : Ins) (s : Unit) (Hu : Unit → Option Int) : Option Int :=
  (fH pQ i35 a wH.regs (wH.code.length : Int)).bind fun zP => bif decide ((zP : Int) ≠ 0) then some zP else Hu ()
def lN (wH : bV) (jZ : Unit → Option Int) (s : Unit) : Option Int :=
  gG (jb ((wH.code.length : Int) - 1)) ((idx wH.code ((wH.code.length : Int) - 1)).bind fun x54 => bif (decide ((x54.op : Int) ≠ 8) && decide ((x54.op : Int) ≠ 12)) then some 4 else jZ ())
def iX (a : List bV) (wH : bV) (s : Unit) (jZ : Unit → Option Int) : Option Int :=
  eX (eP a wH) (lN wH jZ) 0 wH.code ()
def lQ (s : Unit) : Option Int :=
  some 0
def gP (i3 : Int) (x4 : bV) (s : Unit) (De : Unit → Option Int) : Option Int :=
  bif (((((decide ((x4.params : Int) < 0) || decide ((3 : Int) < x4.params)) || decide ((x4.regs : Int) < 1)) || decide ((x4.regs : Int) < x4.params)) || decide ((40 : Int) < x4.regs)) || (decide ((i3 : Int) = 0) && decide ((0 : Int) < x4.params))) then some 3 else bif (decide (((x4.code.length : Int) : Int) = 0) || decide ((2000 : Int) < (x4.code.length : Int))) then some 2 else De ()
def j6 (a : List bV) (s : Unit) : Option Int :=
  each (iX a) lQ a ()
def nU (a : List bV) : Option Int :=
  bif (decide (((a.length : Int) : Int) = 0) || decide ((4 : Int) < (a.length : Int))) then some 2 else eX gP (j6 a) 0 a ()
theorem Bl (w0 : World) (M : BS) (hM : ∀ b, M b → b < w0.heap.size) (va : Value) (a : List bV) (ha : eZ lC w0 BE M va a) (r : Int) (hs : nU a = some r) :
    Calls Tryz.prog 63 #[va] w0 (fun e w' => Grow w0 w' ∧ e = .returned (.int .i64 r)) := by
 refine aK (args := [va]) Tryz.func63 rfl Tryz.ntmps63 (Nat.le_of_ble_eq_true rfl) ?_
 have h := SH.init hM
 replace h := h.dU 1 ha aW
 have tC := ha.bL
 refine ai (ag (ae (aj (v := (.int .i64 (0))) rfl) (ah (aa (ai (ai (ag (ae (ak (v := va) rfl) (ae (bF lK rfl (h.fV 1 rfl)) (ae (bM rfl rfl) (ae (ak (v := (.bool (decide (((a.length : Int) : Int) = 0)))) rfl) (aC rfl rfl (fun q => ak (v := va) rfl) (aC rfl rfl (fun q => bF lK (cO q) (h.fV 1 rfl)) (aC rfl rfl (fun q => iR (cO q) rfl) (ae (gM rfl rfl mR) (ah (aa (aJ hs rfl (fun c1 hs => ?_) (fun c1 hs => ?_)))))))))))))))))))
 refine ai (ag (ae (aj (v := (.int .i64 (2))) rfl) (ah (aa (aI (aB (bI (v := (.int .i64 (2))) Tryz.results63 rfl ?_)))))))
 obtain rfl := Option.some.inj hs
 exact ⟨h.grown, rfl⟩
 refine aD (aa (ai (ai (ag (ae (ak (v := va) rfl) (ae (bF lK rfl (h.fV 1 rfl)) (ae (ak (v := (.int .i64 (0))) rfl) (ah (aa (aL (fq (σ := Nat × Int) (inl [2, 3, 4, 21, 22, 23, 24, 25, 26, 27, 28, 29, 30, 31, 32, 33, 34, 35, 36, 37, 38, 39, 40, 41, 42, 43, 44, 45, 46, 47, 48, 49, 50, 51, 52, 53, 54, 55, 56, 57, 58, 59, 60, 61, 62, 63, 64, 65, 66, 67, 68, 69, 70]) (fun ⟨k2, i3⟩ => [(21, (.int .i64 (i3)))]) (fun ⟨k2, i3⟩ w => SH w0 M BE w (hset [(1, .sr lC va a)]) ∧ i3 = (k2 : Int) ∧ eX gP (j6 a) i3 (a.drop k2) () = some r) (fun ⟨k2, i3⟩ => a.length - k2) ⟨0, 0⟩ ⟨rfl, trivial⟩ ?_ ?_)))))))))))
 exact ⟨h.cn _, rfl, hs⟩
 rintro ⟨k2, i3⟩ w dm ⟨h, hik, hs⟩
 refine ai (ag ?_)
 refine ae (dA rfl rfl) (ah (aa ?_))
 refine ai (gH rfl (fun e7 => ?_) (fun e7 => ?_))
 refine aD (aa ?_)
 obtain ⟨x4, TP, TQ⟩ := fJ (hik ▸ e7)
 rw [TQ, jc] at hs
 generalize D7 : eX gP (j6 a) (i3 + 1) (a.drop (k2 + 1)) = De at hs
 have OD := fO ((h.fV 1 rfl)).bL hik e7
 refine ai (aL (ai (ag (ae (ak (v := (.int .i64 (i3))) rfl) ?_))))
 obtain ⟨b10, Yt, TR, h, TS, i9⟩ := h.wZ 1 2 rfl lK rfl (gZ hik) (fM hik TP)
 obtain ⟨FU, rfl, g15⟩ := uK TS
 replace h := h.bG 3 g15.up
 refine ae (i9 _ _ _ _ _ _ _ _ _ rfl rfl) (ae (iF (k := 0) (vs := [(.int .i64 (x4.params)), (.int .i64 (x4.regs)), FU]) h 2 rfl tu rfl rfl rfl (Nat.le_of_ble_eq_true rfl)) (bP h 4 tu fun w b16 h => ae (aj (v := (.int .i64 (i3))) rfl) (dV (vs := [(.int .i64 (x4.params)), (.int .i64 (x4.regs)), FU]) h 4 [(.int .i64 (x4.params)), (.int .i64 (x4.regs)), FU] rfl tu rfl rfl rfl rfl rfl (ax rfl (ax rfl (ax (h.fu 3 rfl).one bA))) fun w h => ah (aa (ai (ai (ag (ae (au A9 rfl) (ae (aF h 4 rfl aV rfl rfl) (ae (dA rfl rfl) (ae (ak (v := (.bool (decide ((x4.params : Int) < 0)))) rfl) (aC rfl rfl (fun q => au A9 rfl) (aC rfl rfl (fun q => aF h 4 rfl aV (cO q) rfl) (aC rfl rfl (fun q => iR (cO q) rfl) (ae (gM rfl rfl mR) (ae (ak (v := (.bool ((decide ((x4.params : Int) < 0) || decide ((3 : Int) < x4.params))))) rfl) (aC rfl rfl (fun q => au zg rfl) (aC rfl rfl (fun q => aF h 4 rfl aV (cO q) rfl) (aC rfl rfl (fun q => dA (cO q) rfl) (ae (gM rfl rfl mR) (ae (ak (v := (.bool (((decide ((x4.params : Int) < 0) || decide ((3 : Int) < x4.params)) || decide ((x4.regs : Int) < 1))))) rfl) ?_)))))))))))))))))))))
 refine aC rfl rfl (fun q => au zg rfl) (aC rfl rfl (fun q => aF h 4 rfl aV (cO q) rfl) (aC rfl rfl (fun q => au A9 rfl) (aC rfl rfl (fun q => aF h 4 rfl aV (cO q) rfl) (aC rfl rfl (fun q => dA (cO q) (cO q)) (ae (gM rfl rfl mR) (ae (ak (v := (.bool ((((decide ((x4.params : Int) < 0) || decide ((3 : Int) < x4.params)) || decide ((x4.regs : Int) < 1)) || decide ((x4.regs : Int) < x4.params))))) rfl) (aC rfl rfl (fun q => au zg rfl) (aC rfl rfl (fun q => aF h 4 rfl aV (cO q) rfl) (aC rfl rfl (fun q => iR (cO q) rfl) (ae (gM rfl rfl mR) (ae (ak (v := (.bool (((((decide ((x4.params : Int) < 0) || decide ((3 : Int) < x4.params)) || decide ((x4.regs : Int) < 1)) || decide ((x4.regs : Int) < x4.params)) || decide ((40 : Int) < x4.regs))))) rfl) (aC rfl rfl (fun q => ak (v := (.int .i64 (i3))) rfl) (aC rfl rfl (fun q => bM (cO q) rfl) (aC rfl rfl (fun q => ak (v := (.bool (decide ((i3 : Int) = 0)))) (cO q)) (lZ (((((decide ((x4.params : Int) < 0) || decide ((3 : Int) < x4.params)) || decide ((x4.regs : Int) < 1)) || decide ((x4.regs : Int) < x4.params)) || decide ((40 : Int) < x4.regs)) == false) rfl rfl (fun q => au A9 rfl) (lZ (((((decide ((x4.params : Int) < 0) || decide ((3 : Int) < x4.params)) || decide ((x4.regs : Int) < 1)) || decide ((x4.regs : Int) < x4.params)) || decide ((40 : Int) < x4.regs)) == false) rfl rfl (fun q => aF h 4 rfl aV (cO q) rfl) (lZ (((((decide ((x4.params : Int) < 0) || decide ((3 : Int) < x4.params)) || decide ((x4.regs : Int) < 1)) || decide ((x4.regs : Int) < x4.params)) || decide ((40 : Int) < x4.regs)) == false) rfl rfl (fun q => iR (cO q) rfl) (aC rfl rfl (fun q => gJ (cO q) (NL q) mR) (ae (gM rfl rfl mR) (ah (aa (aJ hs rfl (fun c17 hs => ?_) (fun c17 hs => ?_)))))))))))))))))))))))
 refine ai (ag (ae (aj (v := (.int .i64 (3))) rfl) (ah (aa (aI (aB (aG (aB (aB (aG (aB (bI (v := (.int .i64 (3))) Tryz.results63 rfl ?_))))))))))))
 obtain rfl := Option.some.inj hs
 exact ⟨h.grown, rfl⟩
 refine aD (aa (ai (ag (ae (au um rfl) (ae (aF h 4 rfl Bc rfl rfl) (ae (bF jD rfl (h.mU 3 rfl)) (ae (bM rfl rfl) (ae (ak (v := (.bool (decide (((x4.code.length : Int) : Int) = 0)))) rfl) (aC rfl rfl (fun q => au um rfl) (aC rfl rfl (fun q => aF h 4 rfl Bc (cO q) rfl) (aC rfl rfl (fun q => bF jD (cO q) (h.mU 3 rfl)) (aC rfl rfl (fun q => iR (cO q) rfl) (ae (gM rfl rfl mR) (ah (aa (aJ hs rfl (fun c18 hs => ?_) (fun c18 hs => ?_)))))))))))))))))
 refine ai (ag (ae (aj (v := (.int .i64 (2))) rfl) (ah (aa (aI (aG (aB (aB (aG (aB (bI (v := (.int .i64 (2))) Tryz.results63 rfl ?_)))))))))))
 obtain rfl := Option.some.inj hs
 exact ⟨h.grown, rfl⟩
 refine aD (az (aa (ag (ae (bY rfl rfl OD) (ae (ak (v := (.int .i64 ((i3 + 1)))) rfl) (ah (ay ?_)))))))
 subst D7
 exact iQ ⟨k2 + 1, i3 + 1⟩ ⟨h.cn _, by omega, hs⟩ (by have := of_decide_eq_true e7; dsimp only; omega)
 rw [fK (hik ▸ e7), ow] at hs
 refine bT (aH (aH (aT (aa (ai (ai (ag (ae (ak (v := va) rfl) (ae (bF lK rfl (h.fV 1 rfl)) (ae (ak (v := (.int .i64 (0))) rfl) (ah (aa (aL (fq (σ := Nat × Int) (inl [2, 6, 7, 8, 9, 10, 73, 74, 75, 76, 77, 78, 79, 80, 81, 82, 83, 84, 85, 86, 87, 88, 89, 90, 91, 92, 93, 94, 95, 96, 97, 98, 99, 100, 101, 102, 103, 104, 105, 106, 107, 108, 109, 110, 111, 112, 113]) (fun ⟨k19, i20⟩ => [(73, (.int .i64 (i20)))]) (fun ⟨k19, i20⟩ w => SH w0 M BE w (hset [(1, .sr lC va a)]) ∧ i20 = (k19 : Int) ∧ each (iX a) lQ (a.drop k19) () = some r) (fun ⟨k19, i20⟩ => a.length - k19) ⟨0, 0⟩ ⟨rfl, trivial⟩ ?_ ?_))))))))))))))
 exact ⟨h.cn _, rfl, hs⟩
 rintro ⟨k19, i20⟩ w dm ⟨h, hik, hs⟩
 refine ai (ag ?_)
 refine ae (dA rfl rfl) (ah (aa ?_))
 refine ai (gH rfl (fun e24 => ?_) (fun e24 => ?_))
 refine aD (aa ?_)
 obtain ⟨wH, e25a, e25b⟩ := fJ (hik ▸ e24)
 rw [e25b, df] at hs
 generalize O8 : each (iX a) lQ (a.drop (k19 + 1)) = jZ at hs
 have e25r := fO ((h.fV 1 rfl)).bL hik e24
 refine ai (aL (ai (ag ?_)))
 obtain ⟨b27, o28, cs29, h, Ws, i26⟩ := h.wZ 1 5 rfl lK rfl (gZ hik) (fM hik e25a)
 obtain ⟨u31, rfl, Uq⟩ := uK Ws
 replace h := h.bG 6 Uq.up
 refine ae (i26 _ _ _ _ _ _ _ _ _ rfl rfl) (ae (iF (k := 0) (vs := [(.int .i64 (wH.params)), (.int .i64 (wH.regs)), u31]) h 5 rfl tu rfl rfl rfl (Nat.le_of_ble_eq_true rfl)) (bP h 7 tu fun w Vd h => dV (vs := [(.int .i64 (wH.params)), (.int .i64 (wH.regs)), u31]) h 7 [(.int .i64 (wH.params)), (.int .i64 (wH.regs)), u31] rfl tu rfl rfl rfl rfl rfl (ax rfl (ax rfl (ax (h.fu 6 rfl).one bA))) fun w h => ah (aa (ai (ai (ag (ae (au um rfl) (ae (aF h 7 rfl Bc rfl rfl) (ae (bF jD rfl (h.mU 6 rfl)) (ae (ak (v := (.int .i64 (0))) rfl) (ah (aa (aL (fq (σ := Nat × Int) (inl [2, 7, 8, 9, 80, 81, 82, 83, 84, 85, 86, 87, 88, 89, 90, 91, 92, 93, 94, 95, 96, 97]) (fun ⟨Ji, i35⟩ => [(80, (.int .i64 (i35)))]) (fun ⟨Ji, i35⟩ w => SH w0 M BE w (hset [(1, .sr lC va a), (6, .rd iG u31 wH.code), (7, .blk Vd [(.int .i64 (wH.params)), (.int .i64 (wH.regs)), u31])]) ∧ i35 = (Ji : Int) ∧ eX (eP a wH) (lN wH jZ) i35 (wH.code.drop Ji) () = some r) (fun ⟨Ji, i35⟩ => wH.code.length - Ji) ⟨0, 0⟩ ⟨rfl, trivial⟩ ?_ ?_))))))))))))))
 exact ⟨h.cn _, rfl, hs⟩
 rintro ⟨Ji, i35⟩ w dm ⟨h, hik, hs⟩
 refine ai (ag ?_)
 refine ae (dA rfl rfl) (ah (aa ?_))
 refine ai (gH rfl (fun e39 => ?_) (fun e39 => ?_))
 refine aD (aa ?_)
 obtain ⟨pQ, Pk, Pm⟩ := fJ (hik ▸ e39)
 rw [Pm, jc] at hs
 generalize Pn : eX (eP a wH) (lN wH jZ) (i35 + 1) (wH.code.drop (Ji + 1)) = Hu at hs
 have Ur := fO ((h.mU 6 rfl)).bL hik e39
 refine ai (aL (ai (ag (ae (ak (v := (.int .i64 (i35))) rfl) ?_))))
 obtain ⟨b42, o43, Yn, h, Yo, i41⟩ := h.FD 6 8 rfl jD rfl (gZ hik) (fM hik Pk)
 obtain ⟨u46, rfl, g47⟩ := FN Yo
 replace h := h.bG 9 g47.up
 refine ae (i41 _ _ _ _ _ _ _ _ _ rfl rfl) (ae (iF (k := 0) (vs := [(.int .i64 (pQ.op)), (.int .i64 (pQ.a)), (.int .i64 (pQ.b)), (.int .i64 (pQ.c)), u46]) h 8 rfl uL rfl rfl rfl (Nat.le_of_ble_eq_true rfl)) (bP h 10 uL fun w ZP h => ae (aj (v := (.int .i64 (i35))) rfl) (dV (vs := [(.int .i64 (pQ.op)), (.int .i64 (pQ.a)), (.int .i64 (pQ.b)), (.int .i64 (pQ.c)), u46]) h 10 [(.int .i64 (pQ.op)), (.int .i64 (pQ.a)), (.int .i64 (pQ.b)), (.int .i64 (pQ.c)), u46] rfl uL rfl rfl rfl rfl rfl (ax rfl (ax rfl (ax rfl (ax rfl (ax (h.fu 9 rfl).one bA))))) fun w h => ah (aa (ai (ag (ae (fA (vs := [(.int .i64 (pQ.op)), (.int .i64 (pQ.a)), (.int .i64 (pQ.b)), (.int .i64 (pQ.c)), u46]) h 10 rfl uL rfl rfl rfl) (ae (ak (v := (.int .i64 (i35))) rfl) (ae (ak (v := va) rfl) (ae (au zg rfl) (ae (aF h 7 rfl aV rfl rfl) (ae (au um rfl) (ae (aF h 7 rfl Bc rfl rfl) (ae (bF jD rfl (h.mU 6 rfl)) ?_))))))))))))))
 obtain ⟨zP, e50, hs⟩ := aM hs
 refine aO TM rfl rfl (Ht _ _ h.lt pQ u46 (h.mU 9 rfl) i35 va a (h.fV 1 rfl) wH.regs (wH.code.length : Int) _ e50) ?_
 rintro _ w ⟨YP, rfl⟩
 refine ⟨_, rfl, ?_⟩
 replace h := h.grow YP
 refine ae (aj (v := (.int .i64 (zP))) rfl) (ah (aa (ai (ag (ae (ak (v := (.int .i64 (zP))) rfl) (ae (iH rfl rfl) (ah (aa (aJ hs rfl (fun zX hs => ?_) (fun zX hs => ?_))))))))))
 refine ai (ag (ae (ak (v := (.int .i64 (zP))) rfl) (ae (aj (v := (.int .i64 (zP))) rfl) (ah (aa (aI (aG (aB (aB (aG (aB (aG (aB (aB (aG (aB (bI (v := (.int .i64 (zP))) Tryz.results63 rfl ?_)))))))))))))))))
 obtain rfl := Option.some.inj hs
 exact ⟨h.grown, rfl⟩
 refine aD (az (aa (ag (ae (bY rfl rfl Ur) (ae (ak (v := (.int .i64 ((i35 + 1)))) rfl) (ah (ay ?_)))))))
 subst Pn
 exact iQ ⟨Ji + 1, i35 + 1⟩ ⟨h.cn _, by omega, hs⟩ (by have := of_decide_eq_true e39; dsimp only; omega)
 rw [fK (hik ▸ e39), ow] at hs
 refine bT (aH (aH (aT (aa (ai (ag (ae (au um rfl) (ae (aF h 7 rfl Bc rfl rfl) (ae (au um rfl) (ae (aF h 7 rfl Bc rfl rfl) (ae (bF jD rfl (h.mU 6 rfl)) ?_)))))))))))
 obtain ⟨a53, hs⟩ := aZ hs
 refine ae (rT rfl rfl a53) ?_
 obtain ⟨x54, e55, hs⟩ := aM hs
 obtain ⟨b57, o58, Wo, h, Wp, i56⟩ := h.FD 6 11 rfl jD rfl (aX e55).1 (aX e55).2
 obtain ⟨Zh, rfl, Wq⟩ := FN Wp
 replace h := h.bG 12 Wq.up
 refine ae (i56 _ _ _ _ _ _ _ _ _ rfl rfl) (ae (au rH rfl) (ae (ed (k := 0) h 11 rfl aV rfl rfl) (ae (aj (v := (.int .i64 (x54.op))) rfl) (ah (aa (ai (ag (ae (ak (v := (.int .i64 (x54.op))) rfl) (ae (iH rfl rfl) (ae (ak (v := (.bool (decide ((x54.op : Int) ≠ 8)))) rfl) (aC rfl rfl (fun q => ak (v := (.int .i64 (x54.op))) rfl) (aC rfl rfl (fun q => iH (cO q) rfl) (ae (gJ rfl rfl mR) (ah (aa (aJ hs rfl (fun c63 hs => ?_) (fun c63 hs => ?_)))))))))))))))))
 refine ai (ag (ae (aj (v := (.int .i64 (4))) rfl) (ah (aa (aI (aG (aB (aB (aG (aB (bI (v := (.int .i64 (4))) Tryz.results63 rfl ?_)))))))))))
 obtain rfl := Option.some.inj hs
 exact ⟨h.grown, rfl⟩
 refine aD (az (aa (ag (ae (bY rfl rfl e25r) (ae (ak (v := (.int .i64 ((i20 + 1)))) rfl) (ah (ay ?_)))))))
 subst O8
 exact iQ ⟨k19 + 1, i20 + 1⟩ ⟨h.cn _, by omega, hs⟩ (by have := of_decide_eq_true e24; dsimp only; omega)
 rw [fK (hik ▸ e24), fB] at hs
 refine bT (aH (aH (aT (aa (ai (ag (ae (aj (v := (.int .i64 (0))) rfl) (ah (aa (aI (bI (v := (.int .i64 (0))) Tryz.results63 rfl ?_)))))))))))
 obtain rfl := Option.some.inj hs
 exact ⟨h.grown, rfl⟩
def Po (a : List bV) : Option (LX.State × Int) :=
  (nU a).bind fun y2 => bif decide ((y2 : Int) ≠ 0) then some ((⟨[], [], 0, 0⟩ : LX.State), y2) else (idx a 0).bind fun x6 => gG (0 ≤ x6.regs ∧ x6.regs * 16 ≤ 140737488355328) (some ((⟨[(⟨0, 0, (List.replicate x6.regs.toNat (⟨0, 0⟩ : Val)), 0⟩ : LX.Frame)], [], 0, 0⟩ : LX.State), 0))
theorem Pp (w0 : World) (M : BS) (hM : ∀ b, M b → b < w0.heap.size) (va : Value) (a : List bV) (ha : eZ lC w0 BE M va a) (r : LX.State × Int) (hs : Po a = some r) :
    Calls Tryz.prog 29 #[va] w0 (fun e w' => Grow w0 w' ∧ ∃ wI, ∃ Af, e = .returned (.tuple #[.agg #[wI, Af, .int .i64 r.1.status, .int .i64 r.1.bQ], .int .i64 r.2]) ∧ eB eH w' M wI r.1.frames ∧ eB (ou bE) w' M Af r.1.cells) := by
 refine aK (args := [va]) Tryz.func29 rfl Tryz.ntmps29 (Nat.le_of_ble_eq_true rfl) ?_
 have h := SH.init hM
 replace h := h.dU 1 ha aW
 have tC := ha.bL
 refine ai (ag (bP h 2 di fun w b1 h => ae (aj (v := (.int .i64 (0))) rfl) (ah (aa (ai (ai (ag (ae (ak (v := va) rfl) ?_))))))))
 obtain ⟨y2, e3, hs⟩ := aM hs
 refine aO Ov rfl rfl (Bl _ _ h.lt va a (h.fV 1 rfl) _ e3) ?_
 rintro _ w ⟨k4, rfl⟩
 refine ⟨_, rfl, ?_⟩
 replace h := h.grow k4
 refine ae (aj (v := (.int .i64 (y2))) rfl) (ah (aa (ai (ag (ae (ak (v := (.int .i64 (y2))) rfl) (ae (iH rfl rfl) (ah (aa (aJ hs rfl (fun c5 hs => ?_) (fun c5 hs => ?_))))))))))
 refine ai (ag (ae (eD (pv := []) (out := [(.slice none 0 0), (.slice none 0 0), (.int .i64 (0)), (.int .i64 (0))]) uN rfl rfl) (ae (ak (v := (.int .i64 (y2))) rfl) (dV (vs := [(.slice none 0 0), (.slice none 0 0), (.int .i64 (0)), (.int .i64 (0))]) h 2 [(.slice none 0 0), (.slice none 0 0), (.int .i64 (0)), (.int .i64 (0))] rfl di rfl rfl rfl rfl rfl (ax rfl (ax rfl (ax rfl (ax rfl bA)))) fun w h => ae (aj (v := (.int .i64 (y2))) rfl) (ah (aa (aI (aB (zU (vs := [(.slice none 0 0), (.slice none 0 0), (.int .i64 (0)), (.int .i64 (0))]) (v2 := (.int .i64 (y2))) Tryz.results29 rfl rfl h 2 rfl di rfl ?_)))))))))
 obtain rfl := Option.some.inj hs
 exact ⟨h.grown, _, _, rfl, eZ.nil, eZ.nil⟩
 refine aD (aa (ai (ag (ae (ak (v := va) rfl) ?_))))
 obtain ⟨x6, e7, hs⟩ := aM hs
 obtain ⟨b9, o10, YJ, h, YK, i8⟩ := h.wZ 1 3 rfl lK rfl (aX e7).1 (aX e7).2
 obtain ⟨OE, rfl, g14⟩ := uK YK
 replace h := h.bG 4 g14.up
 refine ae (i8 _ _ _ _ _ _ _ _ _ rfl rfl) (ae (au zg rfl) (ae (ed (k := 1) h 3 rfl aV rfl rfl) ?_))
 obtain ⟨a16, hs⟩ := aZ hs
 refine Mo (R := bE) (zs := [(.int .i64 (0)), (.int .i64 (0))]) (a := (⟨0, 0⟩ : Val)) h 5 vV ic rfl (by decide) rfl rfl a16 rfl (fun _ _ => rfl) fun w Ay h u15k u15f => ae (eD (pv := [(2, Ay)]) (out := [(.int .i64 (0)), (.int .i64 (0)), Ay, (.int .i64 (0))]) IV rfl ⟨2, 1, [Ay], rfl, (ni (h.fF 5 rfl).one), rfl, Nat.le_of_ble_eq_true rfl, rfl⟩) ?_
 replace h := h.freeze 5 rfl
 refine oV (R := eH) (vs := [(.agg #[(.int .i64 (0)), (.int .i64 (0)), Ay, (.int .i64 (0))])]) (xs := [(⟨0, 0, (List.replicate x6.regs.toNat (⟨0, 0⟩ : Val)), 0⟩ : LX.Frame)]) h 6 yw rfl rfl rfl ⟨⟨_, rfl, (h.fu 5 rfl)⟩, trivial⟩ rfl fun w Df h => ae (eD (pv := [(0, Df)]) (out := [Df, (.slice none 0 0), (.int .i64 (0)), (.int .i64 (0))]) uN rfl ⟨0, 1, [Df], rfl, (ni (h.fF 6 rfl).one), rfl, Nat.le_of_ble_eq_true rfl, rfl⟩) (dV (vs := [Df, (.slice none 0 0), (.int .i64 (0)), (.int .i64 (0))]) h 2 [Df, (.slice none 0 0), (.int .i64 (0)), (.int .i64 (0))] rfl di rfl rfl rfl rfl rfl (ax (h.fF 6 rfl).one (ax rfl (ax rfl (ax rfl bA)))) fun w h => ae (aj (v := (.int .i64 (0))) rfl) (ah (aa (aI (zU (vs := [Df, (.slice none 0 0), (.int .i64 (0)), (.int .i64 (0))]) (v2 := (.int .i64 (0))) Tryz.results29 rfl rfl h 2 rfl di rfl ?_)))))
 replace h := h.freeze 6 rfl
 obtain rfl := Option.some.inj hs
 exact ⟨h.grown, _, _, rfl, h.NM 6 rfl, eZ.nil⟩
def bO (a : Val) (b : Int) : Int :=
  bif decide ((a.kind : Int) = 0) then bif decide ((a.n : Int) ≠ 0) then 4 else 0 else bif decide ((a.kind : Int) = 1) then bif (decide ((a.n : Int) < -1000000000) || decide ((1000000000 : Int) < a.n)) then 3 else 0 else bif decide ((a.kind : Int) = 2) then bif (decide ((a.n : Int) < 0) || decide ((b : Int) ≤ a.n)) then 5 else 0 else 4
theorem xD (w0 : World) (M : BS) (hM : ∀ b, M b → b < w0.heap.size) (a : Val) (b : Int) (r : Int) (hs : bO a b = r) :
    Calls Tryz.prog 81 #[(.agg #[(.int .i64 (a.kind)), (.int .i64 (a.n))]), (.int .i64 (b))] w0 (fun e w' => Grow w0 w' ∧ e = .returned (.int .i64 r)) := by
 refine aK (args := [(.agg #[(.int .i64 (a.kind)), (.int .i64 (a.n))]), (.int .i64 (b))]) Tryz.func81 rfl Tryz.ntmps81 (Nat.le_of_ble_eq_true rfl) ?_
 have h := SH.init hM
 refine ai (ag (pX (cs := [(.int .i64 (a.kind)), (.int .i64 (a.n))]) h 1 rfl rfl fun w b1 h => ae (aj (v := (.int .i64 (0))) rfl) (ah (aa (ai (ai (ag (ae (au A8 rfl) (ae (aF h 1 rfl aV rfl rfl) (ah (aa (aL (ai (ag (ae (bM rfl rfl) (ae (aj (v := (.bool (decide ((a.kind : Int) = 0)))) rfl) (ah (aa (aJ hs rfl (fun c2 hs => ?_) (fun c2 hs => ?_))))))))))))))))))))
 refine ai (ag (ae (au nI rfl) (ae (aF h 1 rfl aV rfl rfl) (ae (iH rfl rfl) (ah (aa (aJ hs rfl (fun c3 hs => ?_) (fun c3 hs => ?_))))))))
 refine ai (ag (ae (aj (v := (.int .i64 (4))) rfl) (ah (aa (aI (aG (aB (bI (v := (.int .i64 (4))) Tryz.results81 rfl ?_))))))))
 obtain rfl := hs
 exact ⟨h.grown, rfl⟩
 refine aD (az (aa (ai (ag (ae (aj (v := (.int .i64 (0))) rfl) (ah (aa (aI (bI (v := (.int .i64 (0))) Tryz.results81 rfl ?_)))))))))
 obtain rfl := hs
 exact ⟨h.grown, rfl⟩
 refine ai (ag (ae (bM rfl rfl) (ae (aj (v := (.bool (decide ((a.kind : Int) = 1)))) rfl) (ah (aa (aJ hs rfl (fun c4 hs => ?_) (fun c4 hs => ?_)))))))
 refine ai (ag (ae (au nI rfl) (ae (aF h 1 rfl aV rfl rfl) (ae (dA rfl rfl) (ae (ak (v := (.bool (decide ((a.n : Int) < -1000000000)))) rfl) (aC rfl rfl (fun q => au nI rfl) (aC rfl rfl (fun q => aF h 1 rfl aV (cO q) rfl) (aC rfl rfl (fun q => iR (cO q) rfl) (ae (gM rfl rfl mR) (ah (aa (aJ hs rfl (fun c5 hs => ?_) (fun c5 hs => ?_)))))))))))))
 refine ai (ag (ae (aj (v := (.int .i64 (3))) rfl) (ah (aa (aI (aG (aB (bI (v := (.int .i64 (3))) Tryz.results81 rfl ?_))))))))
 obtain rfl := hs
 exact ⟨h.grown, rfl⟩
 refine aD (az (aa (ai (ag (ae (aj (v := (.int .i64 (0))) rfl) (ah (aa (aI (bI (v := (.int .i64 (0))) Tryz.results81 rfl ?_)))))))))
 obtain rfl := hs
 exact ⟨h.grown, rfl⟩
 refine ai (ag (ae (bM rfl rfl) (ae (aj (v := (.bool (decide ((a.kind : Int) = 2)))) rfl) (ah (aa (aJ hs rfl (fun c6 hs => ?_) (fun c6 hs => ?_)))))))
 refine ai (ag (ae (au nI rfl) (ae (aF h 1 rfl aV rfl rfl) (ae (dA rfl rfl) (ae (ak (v := (.bool (decide ((a.n : Int) < 0)))) rfl) (aC rfl rfl (fun q => au nI rfl) (aC rfl rfl (fun q => aF h 1 rfl aV (cO q) rfl) (aC rfl rfl (fun q => ak (v := (.int .i64 (b))) rfl) (aC rfl rfl (fun q => oL (cO q) (cO q)) (ae (gM rfl rfl mR) (ah (aa (aJ hs rfl (fun c7 hs => ?_) (fun c7 hs => ?_))))))))))))))
 refine ai (ag (ae (aj (v := (.int .i64 (5))) rfl) (ah (aa (aI (aG (aB (bI (v := (.int .i64 (5))) Tryz.results81 rfl ?_))))))))
 obtain rfl := hs
 exact ⟨h.grown, rfl⟩
 refine aD (az (aa (ai (ag (ae (aj (v := (.int .i64 (0))) rfl) (ah (aa (aI (bI (v := (.int .i64 (0))) Tryz.results81 rfl ?_)))))))))
 obtain rfl := hs
 exact ⟨h.grown, rfl⟩
 refine ai (ag (ae (aj (v := (.int .i64 (4))) rfl) (ah (aa (aI (aG (aB (bI (v := (.int .i64 (4))) Tryz.results81 rfl ?_))))))))
 obtain rfl := hs
 exact ⟨h.grown, rfl⟩
def fQ (a : List (List Val)) (yf : Val) (s : Unit) (OB : Unit → Int) : Int :=
  bif decide (((bO yf (a.length : Int)) : Int) ≠ 0) then (bO yf (a.length : Int)) else OB ()
def eY (De : Unit → Int) (s : Unit) : Int :=
  De ()
def gN (a : List (List Val)) (x4 : List Val) (s : Unit) (De : Unit → Int) : Int :=
  bif (decide (((x4.length : Int) : Int) = 0) || decide ((4 : Int) < (x4.length : Int))) then 2 else each (fQ a) (eY De) x4 ()
def fT (s : Unit) : Int :=
  0
def cz (a : List (List Val)) : Int :=
  bif decide ((24 : Int) < (a.length : Int)) then 2 else each (gN a) fT a ()
theorem xR (w0 : World) (M : BS) (hM : ∀ b, M b → b < w0.heap.size) (va : Value) (a : List (List Val)) (ha : eZ (ou bE) w0 BE M va a) (r : Int) (hs : cz a = r) :
    Calls Tryz.prog 80 #[va] w0 (fun e w' => Grow w0 w' ∧ e = .returned (.int .i64 r)) := by
 refine aK (args := [va]) Tryz.func80 rfl Tryz.ntmps80 (Nat.le_of_ble_eq_true rfl) ?_
 have h := SH.init hM
 replace h := h.dU 1 ha aW
 have tC := ha.bL
 refine ai (ag (ae (aj (v := (.int .i64 (0))) rfl) (ah (aa (ai (ai (ag (ae (ak (v := va) rfl) (ae (bF fe rfl (h.fV 1 rfl)) (ae (iR rfl rfl) (ah (aa (aJ hs rfl (fun c1 hs => ?_) (fun c1 hs => ?_))))))))))))))
 refine ai (ag (ae (aj (v := (.int .i64 (2))) rfl) (ah (aa (aI (aB (bI (v := (.int .i64 (2))) Tryz.results80 rfl ?_)))))))
 obtain rfl := hs
 exact ⟨h.grown, rfl⟩
 refine aD (aa (ai (ai (ag (ae (ak (v := va) rfl) (ae (bF fe rfl (h.fV 1 rfl)) (ae (ak (v := (.int .i64 (0))) rfl) (ah (aa (aL (fq (σ := Nat × Int) (inl [2, 4, 6, 7, 13, 14, 15, 16, 17, 18, 19, 20, 21, 22, 23, 24, 25, 26, 27, 28, 29, 30, 31, 32, 33, 34, 35, 36, 37, 38, 39]) (fun ⟨k2, i3⟩ => [(13, (.int .i64 (i3)))]) (fun ⟨k2, i3⟩ w => SH w0 M BE w (hset [(1, .sr (ou bE) va a)]) ∧ i3 = (k2 : Int) ∧ each (gN a) fT (a.drop k2) () = r) (fun ⟨k2, i3⟩ => a.length - k2) ⟨0, 0⟩ ⟨rfl, trivial⟩ ?_ ?_)))))))))))
 exact ⟨h.cn _, rfl, hs⟩
 rintro ⟨k2, i3⟩ w dm ⟨h, hik, hs⟩
 refine ai (ag ?_)
 refine ae (dA rfl rfl) (ah (aa ?_))
 refine ai (gH rfl (fun e7 => ?_) (fun e7 => ?_))
 refine aD (aa ?_)
 obtain ⟨x4, TP, TQ⟩ := fJ (hik ▸ e7)
 rw [TQ, df] at hs
 generalize D7 : each (gN a) fT (a.drop (k2 + 1)) = De at hs
 have OD := fO ((h.fV 1 rfl)).bL hik e7
 refine ai (aL (ai (ag ?_)))
 obtain ⟨b10, Yt, TR, h, TS, i9⟩ := h.wZ 1 2 rfl fe rfl (gZ hik) (fM hik TP)
 obtain ⟨FU, rfl, g15⟩ := TS
 replace h := h.bG 3 g15.up
 refine ae (i9 _ _ _ _ _ _ _ _ _ rfl rfl) (ae (ed (k := 0) h 2 rfl oW rfl rfl) (ae (aj (v := FU) rfl) (ah (aa (ai (ai (ag (ae (ak (v := FU) rfl) (ae (bF dD rfl (h.mU 3 rfl)) (ae (bM rfl rfl) (ae (ak (v := (.bool (decide (((x4.length : Int) : Int) = 0)))) rfl) (aC rfl rfl (fun q => ak (v := FU) rfl) (aC rfl rfl (fun q => bF dD (cO q) (h.mU 3 rfl)) (aC rfl rfl (fun q => iR (cO q) rfl) (ae (gM rfl rfl mR) (ah (aa (aJ hs rfl (fun c16 hs => ?_) (fun c16 hs => ?_)))))))))))))))))))
 refine ai (ag (ae (aj (v := (.int .i64 (2))) rfl) (ah (aa (aI (aB (aG (aB (aB (aG (aB (bI (v := (.int .i64 (2))) Tryz.results80 rfl ?_))))))))))))
 obtain rfl := hs
 exact ⟨h.grown, rfl⟩
 refine aD (aa (ai (ag (ae (ak (v := FU) rfl) (ae (bF dD rfl (h.mU 3 rfl)) (ae (ak (v := (.int .i64 (0))) rfl) (ah (aa (aL (fq (σ := Nat × Int) (inl [2, 6, 7, 27, 28, 29, 30, 31, 32, 33, 34, 35, 36, 37, 38]) (fun ⟨k17, i18⟩ => [(27, (.int .i64 (i18)))]) (fun ⟨k17, i18⟩ w => SH w0 M BE w (hset [(1, .sr (ou bE) va a), (3, .rd bE FU x4)]) ∧ i18 = (k17 : Int) ∧ each (fQ a) (eY De) (x4.drop k17) () = r) (fun ⟨k17, i18⟩ => x4.length - k17) ⟨0, 0⟩ ⟨rfl, trivial⟩ ?_ ?_))))))))))
 exact ⟨h.cn _, rfl, hs⟩
 rintro ⟨k17, i18⟩ w dm ⟨h, hik, hs⟩
 refine ai (ag ?_)
 refine ae (dA rfl rfl) (ah (aa ?_))
 refine ai (gH rfl (fun e22 => ?_) (fun e22 => ?_))
 refine aD (aa ?_)
 obtain ⟨yf, Us, Ut⟩ := fJ (hik ▸ e22)
 rw [Ut, df] at hs
 generalize OC : each (fQ a) (eY De) (x4.drop (k17 + 1)) = OB at hs
 have e23r := fO ((h.mU 3 rfl)).bL hik e22
 refine ai (aL (ai (ag ?_)))
 obtain ⟨b25, o26, cs27, h, r28, i24⟩ := h.FD 3 4 rfl dD rfl (gZ hik) (fM hik Us)
 obtain rfl := r28
 refine ae (i24 _ _ _ _ _ _ _ _ _ rfl rfl) (ae (iF (k := 0) (vs := [(.int .i64 (yf.kind)), (.int .i64 (yf.n))]) h 4 rfl ic rfl rfl rfl (Nat.le_of_ble_eq_true rfl)) (bP h 5 ic fun w XQ h => dV (vs := [(.int .i64 (yf.kind)), (.int .i64 (yf.n))]) h 5 [(.int .i64 (yf.kind)), (.int .i64 (yf.n))] rfl ic rfl rfl rfl rfl rfl (ax rfl (ax rfl bA)) fun w h => ah (aa (ai (ag (ae (fA (vs := [(.int .i64 (yf.kind)), (.int .i64 (yf.n))]) h 5 rfl ic rfl rfl rfl) (ae (ak (v := va) rfl) (ae (bF fe rfl (h.fV 1 rfl)) (aO Ke rfl rfl (xD _ _ h.lt yf (a.length : Int) _ rfl) ?_)))))))))
 rintro _ w ⟨VR, rfl⟩
 refine ⟨_, rfl, ?_⟩
 replace h := h.grow VR
 refine ae (aj (v := (.int .i64 ((bO yf (a.length : Int))))) rfl) (ah (aa (ai (ag (ae (ak (v := (.int .i64 ((bO yf (a.length : Int))))) rfl) (ae (iH rfl rfl) (ah (aa (aJ hs rfl (fun c31 hs => ?_) (fun c31 hs => ?_))))))))))
 refine ai (ag (ae (ak (v := (.int .i64 ((bO yf (a.length : Int))))) rfl) (ae (aj (v := (.int .i64 ((bO yf (a.length : Int))))) rfl) (ah (aa (aI (aG (aB (aB (aG (aG (aB (aB (aG (aB (bI (v := (.int .i64 ((bO yf (a.length : Int))))) Tryz.results80 rfl ?_))))))))))))))))
 obtain rfl := hs
 exact ⟨h.grown, rfl⟩
 refine aD (az (aa (ag (ae (bY rfl rfl e23r) (ae (ak (v := (.int .i64 ((i18 + 1)))) rfl) (ah (ay ?_)))))))
 subst OC
 exact iQ ⟨k17 + 1, i18 + 1⟩ ⟨h.cn _, by omega, hs⟩ (by have := of_decide_eq_true e22; dsimp only; omega)
 rw [fK (hik ▸ e22), fB] at hs
 refine bT (aH (aH (aT (az (aa (ag (ae (bY rfl rfl OD) (ae (ak (v := (.int .i64 ((i3 + 1)))) rfl) (ah (ay ?_))))))))))
 subst D7
 exact iQ ⟨k2 + 1, i3 + 1⟩ ⟨h.cn _, by omega, hs⟩ (by have := of_decide_eq_true e7; dsimp only; omega)
 rw [fK (hik ▸ e7), fB] at hs
 refine bT (aH (aH (aT (aa (ai (ag (ae (aj (v := (.int .i64 (0))) rfl) (ah (aa (aI (bI (v := (.int .i64 (0))) Tryz.results80 rfl ?_)))))))))))
 obtain rfl := hs
 exact ⟨h.grown, rfl⟩
def kY (b : LX.State) (x38 : Val) (s : Unit) (Pg : Unit → Option Int) : Option Int :=
  bif decide (((bO x38 (b.cells.length : Int)) : Int) ≠ 0) then some (bO x38 (b.cells.length : Int)) else Pg ()
def kZ (Ei : Unit → Option Int) (s : Unit) : Option Int :=
  Ei ()
def oG (x9 : LX.Frame) (rf : bV) (b : LX.State) (Ei : Unit → Option Int) (Aw : Bool) : Option Int :=
  bif Aw then some 3 else bif decide (((x9.regs.length : Int) : Int) ≠ rf.regs) then some 4 else each (kY b) (kZ Ei) x9.regs ()
def oH (a : List bV) (b : LX.State) (i8 : Int) (x9 : LX.Frame) (s : Unit) (Ei : Unit → Option Int) : Option Int :=
  bif (decide ((x9.proc : Int) < 0) || decide (((a.length : Int) : Int) ≤ x9.proc)) then some 5 else (idx a x9.proc).bind fun rf => bif (((decide ((x9.at_ : Int) < 0) || decide (((rf.code.length : Int) : Int) ≤ x9.at_)) || decide ((x9.kI : Int) < 0)) || (decide ((i8 : Int) = 0) && decide ((x9.kI : Int) ≠ 0))) then oG x9 rf b Ei true else bif decide ((0 : Int) < i8) then gG (jb (i8 - 1)) ((idx b.frames (i8 - 1)).bind fun x54 => oG x9 rf b Ei (decide (((x54.regs.length : Int) : Int) ≤ x9.kI))) else oG x9 rf b Ei false
def qL (s : Unit) : Option Int :=
  some 0
def uP (a : List bV) (b : LX.State) : Option Int :=
  bif (((decide ((b.status : Int) < 0) || decide ((3 : Int) < b.status)) || decide ((b.bQ : Int) < -1000000000)) || decide ((1000000000 : Int) < b.bQ)) then some 3 else bif ((decide ((b.status : Int) ≠ 3) && decide ((b.bQ : Int) ≠ 0)) || (decide ((b.status : Int) = 1) != decide (((b.frames.length : Int) : Int) = 0))) then some 4 else bif decide ((10 : Int) < (b.frames.length : Int)) then some 2 else bif decide (((cz b.cells) : Int) ≠ 0) then some (cz b.cells) else eX (oH a b) qL 0 b.frames ()
theorem KP (w0 : World) (M : BS) (hM : ∀ b, M b → b < w0.heap.size) (va : Value) (a : List bV) (ha : eZ lC w0 BE M va a) (b : LX.State) (vb0 vb1 : Value) (hb0 : eZ eH w0 BE M vb0 b.frames) (hb1 : eZ (ou bE) w0 BE M vb1 b.cells) (r : Int) (hs : uP a b = some r) :
    Calls Tryz.prog 64 #[va, (.agg #[vb0, vb1, (.int .i64 (b.status)), (.int .i64 (b.bQ))])] w0 (fun e w' => Grow w0 w' ∧ e = .returned (.int .i64 r)) := by
 refine aK (args := [va, (.agg #[vb0, vb1, (.int .i64 (b.status)), (.int .i64 (b.bQ))])]) Tryz.func64 rfl Tryz.ntmps64 (Nat.le_of_ble_eq_true rfl) ?_
 have h := SH.init hM
 replace h := h.dU 1 ha aW
 replace h := h.dU 2 hb0 (bD aW)
 replace h := h.dU 3 hb1 (bD (bD aW))
 have tC := ha.bL
 refine ai (ag (pX (cs := [vb0, vb1, (.int .i64 (b.status)), (.int .i64 (b.bQ))]) h 4 rfl rfl fun w b1 h => ae (aj (v := (.int .i64 (0))) rfl) (ah (aa (ai (ai (ag (ae (au vz rfl) (ae (aF h 4 rfl aV rfl rfl) (ae (dA rfl rfl) (ae (ak (v := (.bool (decide ((b.status : Int) < 0)))) rfl) (aC rfl rfl (fun q => au vz rfl) (aC rfl rfl (fun q => aF h 4 rfl aV (cO q) rfl) (aC rfl rfl (fun q => iR (cO q) rfl) (ae (gM rfl rfl mR) (ae (ak (v := (.bool ((decide ((b.status : Int) < 0) || decide ((3 : Int) < b.status))))) rfl) (aC rfl rfl (fun q => au xm rfl) (aC rfl rfl (fun q => aF h 4 rfl aV (cO q) rfl) (aC rfl rfl (fun q => dA (cO q) rfl) (ae (gM rfl rfl mR) (ae (ak (v := (.bool (((decide ((b.status : Int) < 0) || decide ((3 : Int) < b.status)) || decide ((b.bQ : Int) < -1000000000))))) rfl) (aC rfl rfl (fun q => au xm rfl) ?_))))))))))))))))))))))
 refine aC rfl rfl (fun q => aF h 4 rfl aV (cO q) rfl) (aC rfl rfl (fun q => iR (cO q) rfl) (ae (gM rfl rfl mR) (ah (aa (aJ hs rfl (fun c2 hs => ?_) (fun c2 hs => ?_))))))
 refine ai (ag (ae (aj (v := (.int .i64 (3))) rfl) (ah (aa (aI (aB (bI (v := (.int .i64 (3))) Tryz.results64 rfl ?_)))))))
 obtain rfl := Option.some.inj hs
 exact ⟨h.grown, rfl⟩
 refine aD (aa (ai (ai (ag (ae (au vz rfl) (ae (aF h 4 rfl aV rfl rfl) (ae (iH rfl rfl) (ae (ak (v := (.bool (decide ((b.status : Int) ≠ 3)))) rfl) (aC rfl rfl (fun q => au xm rfl) (aC rfl rfl (fun q => aF h 4 rfl aV (cO q) rfl) (aC rfl rfl (fun q => iH (cO q) rfl) (ae (gJ rfl rfl mR) (ae (ak (v := (.bool ((decide ((b.status : Int) ≠ 3) && decide ((b.bQ : Int) ≠ 0))))) rfl) (aC rfl rfl (fun q => au vz rfl) (aC rfl rfl (fun q => aF h 4 rfl aV (cO q) rfl) (aC rfl rfl (fun q => bM (cO q) rfl) (aC rfl rfl (fun q => au kD rfl) (aC rfl rfl (fun q => aF h 4 rfl qw (cO q) rfl) (aC rfl rfl (fun q => bF fD (cO q) (h.fV 2 rfl)) (aC rfl rfl (fun q => bM (cO q) rfl) (aC rfl rfl (fun q => SI Tryz.underlying4 (cO q) (cO q)) (ae (gM rfl rfl mR) (ah ?_)))))))))))))))))))))))
 refine aa (aJ hs rfl (fun c3 hs => ?_) (fun c3 hs => ?_))
 refine ai (ag (ae (aj (v := (.int .i64 (4))) rfl) (ah (aa (aI (aB (bI (v := (.int .i64 (4))) Tryz.results64 rfl ?_)))))))
 obtain rfl := Option.some.inj hs
 exact ⟨h.grown, rfl⟩
 refine aD (aa (ai (ai (ag (ae (au kD rfl) (ae (aF h 4 rfl qw rfl rfl) (ae (bF fD rfl (h.fV 2 rfl)) (ae (iR rfl rfl) (ah (aa (aJ hs rfl (fun c4 hs => ?_) (fun c4 hs => ?_))))))))))))
 refine ai (ag (ae (aj (v := (.int .i64 (2))) rfl) (ah (aa (aI (aB (bI (v := (.int .i64 (2))) Tryz.results64 rfl ?_)))))))
 obtain rfl := Option.some.inj hs
 exact ⟨h.grown, rfl⟩
 refine aD (aa (ai (ai (ag (ae (au kE rfl) (ae (aF h 4 rfl nO rfl rfl) (aO Ow rfl rfl (xR _ _ h.lt vb1 b.cells (h.fV 3 rfl) _ rfl) ?_)))))))
 rintro _ w ⟨k5, rfl⟩
 refine ⟨_, rfl, ?_⟩
 replace h := h.grow k5
 refine ae (aj (v := (.int .i64 ((cz b.cells)))) rfl) (ah (aa (ai (ag (ae (ak (v := (.int .i64 ((cz b.cells)))) rfl) (ae (iH rfl rfl) (ah (aa (aJ hs rfl (fun c6 hs => ?_) (fun c6 hs => ?_))))))))))
 refine ai (ag (ae (ak (v := (.int .i64 ((cz b.cells)))) rfl) (ae (aj (v := (.int .i64 ((cz b.cells)))) rfl) (ah (aa (aI (aB (bI (v := (.int .i64 ((cz b.cells)))) Tryz.results64 rfl ?_))))))))
 obtain rfl := Option.some.inj hs
 exact ⟨h.grown, rfl⟩
 refine aD (aa (ai (ai (ag (ae (au kD rfl) (ae (aF h 4 rfl qw rfl rfl) (ae (bF fD rfl (h.fV 2 rfl)) (ae (ak (v := (.int .i64 (0))) rfl) (ah (aa (aL (fq (σ := Nat × Int) (inl [4, 6, 7, 8, 10, 11, 61, 62, 63, 64, 65, 66, 67, 68, 69, 70, 71, 72, 73, 74, 75, 76, 77, 78, 79, 80, 81, 82, 83, 84, 85, 86, 87, 88, 89, 90, 91, 92, 93, 94, 95, 96, 97, 98, 99, 100, 101, 102, 103, 104, 105, 106, 107, 108, 109, 110, 111, 112, 113, 114, 115, 116, 117, 118, 119, 120, 121, 122, 123, 124, 125, 126, 127, 128, 129, 130, 131, 132, 133, 134, 135, 136, 137, 138, 139, 140, 141, 142, 143, 144, 145]) (fun ⟨k7, i8⟩ => [(61, (.int .i64 (i8)))]) (fun ⟨k7, i8⟩ w => SH w0 M BE w (hset [(1, .sr lC va a), (2, .sr eH vb0 b.frames), (3, .sr (ou bE) vb1 b.cells), (4, .blk b1 [vb0, vb1, (.int .i64 (b.status)), (.int .i64 (b.bQ))])]) ∧ i8 = (k7 : Int) ∧ eX (oH a b) qL i8 (b.frames.drop k7) () = some r) (fun ⟨k7, i8⟩ => b.frames.length - k7) ⟨0, 0⟩ ⟨rfl, trivial⟩ ?_ ?_))))))))))))
 exact ⟨h.cn _, rfl, hs⟩
 rintro ⟨k7, i8⟩ w dm ⟨h, hik, hs⟩
 refine ai (ag ?_)
 refine ae (dA rfl rfl) (ah (aa ?_))
 refine ai (gH rfl (fun e12 => ?_) (fun e12 => ?_))
 refine aD (aa ?_)
 obtain ⟨x9, Uu, Uv⟩ := fJ (hik ▸ e12)
 rw [Uv, jc] at hs
 generalize Wt : eX (oH a b) qL (i8 + 1) (b.frames.drop (k7 + 1)) = Ei at hs
 have e13r := fO ((h.fV 2 rfl)).bL hik e12
 refine ai (aL (ai (ag (ae (ak (v := (.int .i64 (i8))) rfl) ?_))))
 obtain ⟨b15, o16, cs17, h, r18, i14⟩ := h.wZ 2 5 rfl fD rfl (gZ hik) (fM hik Uu)
 obtain ⟨IX, rfl, g20⟩ := rZ r18
 replace h := h.bG 6 g20.up
 refine ae (i14 _ _ _ _ _ _ _ _ _ rfl rfl) (ae (iF (k := 0) (vs := [(.int .i64 (x9.proc)), (.int .i64 (x9.at_)), IX, (.int .i64 (x9.kI))]) h 5 rfl iW rfl rfl rfl (Nat.le_of_ble_eq_true rfl)) (bP h 7 iW fun w Fh h => ae (aj (v := (.int .i64 (i8))) rfl) (dV (vs := [(.int .i64 (x9.proc)), (.int .i64 (x9.at_)), IX, (.int .i64 (x9.kI))]) h 7 [(.int .i64 (x9.proc)), (.int .i64 (x9.at_)), IX, (.int .i64 (x9.kI))] rfl iW rfl rfl rfl rfl rfl (ax rfl (ax rfl (ax (h.fu 6 rfl).one (ax rfl bA)))) fun w h => ah (aa (ai (ai (ag (ae (au xn rfl) (ae (aF h 7 rfl aV rfl rfl) (ae (dA rfl rfl) (ae (ak (v := (.bool (decide ((x9.proc : Int) < 0)))) rfl) (aC rfl rfl (fun q => au xn rfl) (aC rfl rfl (fun q => aF h 7 rfl aV (cO q) rfl) (aC rfl rfl (fun q => ak (v := va) rfl) (aC rfl rfl (fun q => bF lK (cO q) (h.fV 1 rfl)) (aC rfl rfl (fun q => oL (cO q) (cO q)) (ae (gM rfl rfl mR) (ah (aa (aJ hs rfl (fun c22 hs => ?_) (fun c22 hs => ?_)))))))))))))))))))))
 refine ai (ag (ae (aj (v := (.int .i64 (5))) rfl) (ah (aa (aI (aB (aG (aB (aB (aG (aB (bI (v := (.int .i64 (5))) Tryz.results64 rfl ?_))))))))))))
 obtain rfl := Option.some.inj hs
 exact ⟨h.grown, rfl⟩
 refine aD (aa (ai (ag (ae (ak (v := va) rfl) (ae (au xn rfl) (ae (aF h 7 rfl aV rfl rfl) ?_))))))
 obtain ⟨rf, e24, hs⟩ := aM hs
 obtain ⟨U5, o27, Uj, h, Uk, i25⟩ := h.wZ 1 8 rfl lK rfl (aX e24).1 (aX e24).2
 obtain ⟨u30, rfl, g31⟩ := uK Uk
 replace h := h.bG 9 g31.up
 refine ae (i25 _ _ _ _ _ _ _ _ _ rfl rfl) (ae (iF (k := 0) (vs := [(.int .i64 (rf.params)), (.int .i64 (rf.regs)), u30]) h 8 rfl tu rfl rfl rfl (Nat.le_of_ble_eq_true rfl)) (bP h 10 tu fun w b32 h => dV (vs := [(.int .i64 (rf.params)), (.int .i64 (rf.regs)), u30]) h 10 [(.int .i64 (rf.params)), (.int .i64 (rf.regs)), u30] rfl tu rfl rfl rfl rfl rfl (ax rfl (ax rfl (ax (h.fu 9 rfl).one bA))) fun w h => ah (aa (ai (bU (σ := Bool) (inl [81, 82, 83, 84, 85, 86, 87, 88, 89, 90, 91, 92, 93, 94, 95, 96, 97, 98, 99, 100, 101, 102, 103, 104, 105, 106, 107, 108, 109, 110, 111, 112, 113, 114, 115, 116, 117, 118, 119, 120, 121, 122]) (fun Aw => [(98, (gv (((decide ((x9.at_ : Int) < 0) || decide (((rf.code.length : Int) : Int) ≤ x9.at_)) || decide ((x9.kI : Int) < 0)) == false) (.int .i64 (i8)))), (100, (gv (((decide ((x9.at_ : Int) < 0) || decide (((rf.code.length : Int) : Int) ≤ x9.at_)) || decide ((x9.kI : Int) < 0)) == false) (.bool (decide ((i8 : Int) = 0))))), (122, (.bool (Aw)))]) (fun Aw w => SH w0 M BE w (hset [(1, .sr lC va a), (2, .sr eH vb0 b.frames), (3, .sr (ou bE) vb1 b.cells), (4, .blk b1 [vb0, vb1, (.int .i64 (b.status)), (.int .i64 (b.bQ))]), (6, .rd bE IX x9.regs), (7, .blk Fh [(.int .i64 (x9.proc)), (.int .i64 (x9.at_)), IX, (.int .i64 (x9.kI))]), (9, .rd iG u30 rf.code), (10, .blk b32 [(.int .i64 (rf.params)), (.int .i64 (rf.regs)), u30])]) ∧ oG x9 rf b Ei Aw = some r) ?_ ?_)))))
 rintro Aw w dm ⟨h, hs⟩
 refine aJ hs rfl (fun c34 hs => ?_) (fun c34 hs => ?_)
 refine ai (ag (ae (aj (v := (.int .i64 (3))) rfl) (ah (aa (aI (aB (aG (aB (aB (aG (aB (bI (v := (.int .i64 (3))) Tryz.results64 rfl ?_))))))))))))
 obtain rfl := Option.some.inj hs
 exact ⟨h.grown, rfl⟩
 refine aD (aa (ai (ai (ag (ae (au pI rfl) (ae (aF h 7 rfl oW rfl rfl) (ae (bF dD rfl (h.mU 6 rfl)) (ae (au zg rfl) (ae (aF h 10 rfl aV rfl rfl) (ae (iH rfl rfl) (ah (aa (aJ hs rfl (fun TW hs => ?_) (fun TW hs => ?_))))))))))))))
 refine ai (ag (ae (aj (v := (.int .i64 (4))) rfl) (ah (aa (aI (aB (aG (aB (aB (aG (aB (bI (v := (.int .i64 (4))) Tryz.results64 rfl ?_))))))))))))
 obtain rfl := Option.some.inj hs
 exact ⟨h.grown, rfl⟩
 refine aD (aa (ai (ag (ae (au pI rfl) (ae (aF h 7 rfl oW rfl rfl) (ae (bF dD rfl (h.mU 6 rfl)) (ae (ak (v := (.int .i64 (0))) rfl) (ah (aa (aL (fq (σ := Nat × Int) (inl [4, 10, 11, 132, 133, 134, 135, 136, 137, 138, 139, 140, 141, 142, 143, 144]) (fun ⟨Sg, i37⟩ => [(132, (.int .i64 (i37)))]) (fun ⟨Sg, i37⟩ w => SH w0 M BE w (hset [(1, .sr lC va a), (2, .sr eH vb0 b.frames), (3, .sr (ou bE) vb1 b.cells), (4, .blk b1 [vb0, vb1, (.int .i64 (b.status)), (.int .i64 (b.bQ))]), (6, .rd bE IX x9.regs)]) ∧ i37 = (Sg : Int) ∧ each (kY b) (kZ Ei) (x9.regs.drop Sg) () = some r) (fun ⟨Sg, i37⟩ => x9.regs.length - Sg) ⟨0, 0⟩ ⟨rfl, trivial⟩ ?_ ?_)))))))))))
 exact ⟨h.cn _, rfl, hs⟩
 rintro ⟨Sg, i37⟩ w dm ⟨h, hik, hs⟩
 refine ai (ag ?_)
 refine ae (dA rfl rfl) (ah (aa ?_))
 refine ai (gH rfl (fun e41 => ?_) (fun e41 => ?_))
 refine aD (aa ?_)
 obtain ⟨x38, e42a, e42b⟩ := fJ (hik ▸ e41)
 rw [e42b, df] at hs
 generalize Ph : each (kY b) (kZ Ei) (x9.regs.drop (Sg + 1)) = Pg at hs
 have e42r := fO ((h.mU 6 rfl)).bL hik e41
 refine ai (aL (ai (ag ?_)))
 obtain ⟨Qv, o45, cs46, h, r47, i43⟩ := h.FD 6 11 rfl dD rfl (gZ hik) (fM hik e42a)
 obtain rfl := r47
 refine ae (i43 _ _ _ _ _ _ _ _ _ rfl rfl) (ae (iF (k := 0) (vs := [(.int .i64 (x38.kind)), (.int .i64 (x38.n))]) h 11 rfl ic rfl rfl rfl (Nat.le_of_ble_eq_true rfl)) (bP h 12 ic fun w ZP h => dV (vs := [(.int .i64 (x38.kind)), (.int .i64 (x38.n))]) h 12 [(.int .i64 (x38.kind)), (.int .i64 (x38.n))] rfl ic rfl rfl rfl rfl rfl (ax rfl (ax rfl bA)) fun w h => ah (aa (ai (ag (ae (fA (vs := [(.int .i64 (x38.kind)), (.int .i64 (x38.n))]) h 12 rfl ic rfl rfl rfl) (ae (au kE rfl) (ae (aF h 4 rfl nO rfl rfl) (ae (bF fe rfl (h.fV 3 rfl)) (aO Ke rfl rfl (xD _ _ h.lt x38 (b.cells.length : Int) _ rfl) ?_))))))))))
 rintro _ w ⟨k49, rfl⟩
 refine ⟨_, rfl, ?_⟩
 replace h := h.grow k49
 refine ae (aj (v := (.int .i64 ((bO x38 (b.cells.length : Int))))) rfl) (ah (aa (ai (ag (ae (ak (v := (.int .i64 ((bO x38 (b.cells.length : Int))))) rfl) (ae (iH rfl rfl) (ah (aa (aJ hs rfl (fun c50 hs => ?_) (fun c50 hs => ?_))))))))))
 refine ai (ag (ae (ak (v := (.int .i64 ((bO x38 (b.cells.length : Int))))) rfl) (ae (aj (v := (.int .i64 ((bO x38 (b.cells.length : Int))))) rfl) (ah (aa (aI (aG (aB (aB (aG (aG (aB (aB (aG (aB (bI (v := (.int .i64 ((bO x38 (b.cells.length : Int))))) Tryz.results64 rfl ?_))))))))))))))))
 obtain rfl := Option.some.inj hs
 exact ⟨h.grown, rfl⟩
 refine aD (az (aa (ag (ae (bY rfl rfl e42r) (ae (ak (v := (.int .i64 ((i37 + 1)))) rfl) (ah (ay ?_)))))))
 subst Ph
 exact iQ ⟨Sg + 1, i37 + 1⟩ ⟨h.cn _, by omega, hs⟩ (by have := of_decide_eq_true e41; dsimp only; omega)
 rw [fK (hik ▸ e41), fB] at hs
 refine bT (aH (aH (aT (az (aa (ag (ae (bY rfl rfl e13r) (ae (ak (v := (.int .i64 ((i8 + 1)))) rfl) (ah (ay ?_))))))))))
 subst Wt
 exact iQ ⟨k7 + 1, i8 + 1⟩ ⟨h.cn _, by omega, hs⟩ (by have := of_decide_eq_true e12; dsimp only; omega)
 refine DC mixed (by kernel_rfl) h fun w h => dZ (au zf rfl) (dZ (aF h 7 rfl aV rfl rfl) (dZ (dA rfl rfl) (dZ (ak (v := (.bool (decide ((x9.at_ : Int) < 0)))) rfl) (ry rfl rfl (fun q => au zf rfl) (ry rfl rfl (fun q => aF h 7 rfl aV (cO q) rfl) (ry rfl rfl (fun q => au um rfl) (ry rfl rfl (fun q => aF h 10 rfl Bc (cO q) rfl) (ry rfl rfl (fun q => bF jD (cO q) (h.mU 9 rfl)) (ry rfl rfl (fun q => oL (cO q) (cO q)) (dZ (gM rfl rfl mR) (dZ (ak (v := (.bool ((decide ((x9.at_ : Int) < 0) || decide (((rf.code.length : Int) : Int) ≤ x9.at_))))) rfl) (ry rfl rfl (fun q => au xq rfl) (ry rfl rfl (fun q => aF h 7 rfl aV (cO q) rfl) (ry rfl rfl (fun q => dA (cO q) rfl) (dZ (gM rfl rfl mR) (dZ (ak (v := (.bool (((decide ((x9.at_ : Int) < 0) || decide (((rf.code.length : Int) : Int) ≤ x9.at_)) || decide ((x9.kI : Int) < 0))))) rfl) (ry rfl rfl (fun q => ak (v := (.int .i64 (i8))) rfl) (ry rfl rfl (fun q => bM (cO q) rfl) (ry rfl rfl (fun q => ak (v := (.bool (decide ((i8 : Int) = 0)))) (cO q)) (Lh (((decide ((x9.at_ : Int) < 0) || decide (((rf.code.length : Int) : Int) ≤ x9.at_)) || decide ((x9.kI : Int) < 0)) == false) rfl rfl (fun q => au xq rfl) (Lh (((decide ((x9.at_ : Int) < 0) || decide (((rf.code.length : Int) : Int) ≤ x9.at_)) || decide ((x9.kI : Int) < 0)) == false) rfl rfl (fun q => aF h 7 rfl aV (cO q) rfl) (Lh (((decide ((x9.at_ : Int) < 0) || decide (((rf.code.length : Int) : Int) ≤ x9.at_)) || decide ((x9.kI : Int) < 0)) == false) rfl rfl (fun q => iH (cO q) rfl) ?_))))))))))))))))))))))
 refine ry rfl rfl (fun q => gJ (cO q) (NL q) mR) (dZ (gM rfl rfl mR) (dZ (ak (v := (.bool ((((decide ((x9.at_ : Int) < 0) || decide (((rf.code.length : Int) : Int) ≤ x9.at_)) || decide ((x9.kI : Int) < 0)) || (decide ((i8 : Int) = 0) && decide ((x9.kI : Int) ≠ 0)))))) rfl) (ma (b := (((decide ((x9.at_ : Int) < 0) || decide (((rf.code.length : Int) : Int) ≤ x9.at_)) || decide ((x9.kI : Int) < 0)) || (decide ((i8 : Int) = 0) && decide ((x9.kI : Int) ≠ 0)))) hs (fun c51 hs => ?_) (fun c51 hs => ?_))))
 refine oN (b' := true) rfl (congrArg Value.bool c51) rfl (oN (b' := true) rfl (congrArg Value.bool c51) rfl (oN (b' := true) rfl (congrArg Value.bool c51) rfl (pq rfl rfl (pq rfl rfl (pq rfl rfl (pq rfl rfl (pq rfl rfl (pq rfl rfl (pq rfl rfl (pq rfl rfl (pq rfl rfl (pq rfl rfl (pq rfl rfl (oN (b' := true) rfl (congrArg Value.bool c51) rfl (dZ (fw (b := true) (v := (.bool (true))) (congrArg Value.bool c51) rfl) (DD (ay ?_)))))))))))))))))
 exact bR true ⟨h.cn _, hs⟩
 refine rV rfl (congrArg Value.bool c51) (dZ (ak (v := (.int .i64 (i8))) rfl) (rV rfl (congrArg Value.bool c51) (dZ (iR rfl rfl) (rV rfl (congrArg Value.bool c51) (dZ (ak (v := (.bool (decide ((0 : Int) < i8)))) rfl) (ma (b := decide ((0 : Int) < i8)) hs (fun zX hs => ?_) (fun zX hs => ?_)))))))
 refine rV rfl (congrArg Value.bool zX) (dZ (au xq rfl) (rV rfl (congrArg Value.bool zX) (dZ (aF h 7 rfl aV rfl rfl) (rV rfl (congrArg Value.bool zX) (dZ (au kD rfl) (rV rfl (congrArg Value.bool zX) (dZ (aF h 4 rfl qw rfl rfl) (rV rfl (congrArg Value.bool zX) (dZ (ak (v := (.int .i64 (i8))) rfl) (rV rfl (congrArg Value.bool zX) ?_))))))))))
 obtain ⟨a53, hs⟩ := aZ hs
 refine dZ (rT rfl rfl a53) (rV rfl (congrArg Value.bool zX) ?_)
 obtain ⟨x54, e55, hs⟩ := aM hs
 obtain ⟨b57, o58, Wo, h, Wp, i56⟩ := h.wZ 2 13 rfl fD rfl (aX e55).1 (aX e55).2
 obtain ⟨Zh, rfl, Wq⟩ := rZ Wp
 replace h := h.bG 14 Wq.up
 refine dZ (i56 _ _ _ _ _ _ _ _ _ rfl rfl) (rV rfl (congrArg Value.bool zX) (dZ (au pI rfl) (rV rfl (congrArg Value.bool zX) (dZ (ed (k := 2) h 13 rfl oW rfl rfl) (rV rfl (congrArg Value.bool zX) (dZ (bF dD rfl (h.mU 14 rfl)) (rV rfl (congrArg Value.bool zX) (dZ (oL rfl rfl) (rV rfl (congrArg Value.bool c51) (dZ (fw (b := true) (v := (.bool (decide (((x54.regs.length : Int) : Int) ≤ x9.kI)))) (congrArg Value.bool zX) rfl) (dZ (fw (b := false) (v := (.bool (decide (((x54.regs.length : Int) : Int) ≤ x9.kI)))) (congrArg Value.bool c51) rfl) (DD (ay ?_)))))))))))))
 exact bR (decide (((x54.regs.length : Int) : Int) ≤ x9.kI)) ⟨h.cn _, hs⟩
 refine oN (b' := false) rfl (congrArg Value.bool zX) rfl (oN (b' := false) rfl (congrArg Value.bool zX) rfl (oN (b' := false) rfl (congrArg Value.bool zX) rfl (oN (b' := false) rfl (congrArg Value.bool zX) rfl (oN (b' := false) rfl (congrArg Value.bool zX) rfl (oN (b' := false) rfl (congrArg Value.bool zX) rfl (oN (b' := false) rfl (congrArg Value.bool zX) rfl (oN (b' := false) rfl (congrArg Value.bool zX) rfl (oN (b' := false) rfl (congrArg Value.bool zX) rfl (oN (b' := false) rfl (congrArg Value.bool zX) rfl (oN (b' := false) rfl (congrArg Value.bool zX) rfl (rV rfl (congrArg Value.bool c51) (dZ (fw (b := false) (v := (.bool (false))) (congrArg Value.bool zX) rfl) (dZ (fw (b := false) (v := (.bool (false))) (congrArg Value.bool c51) rfl) (DD (ay ?_)))))))))))))))
 exact bR false ⟨h.cn _, hs⟩
 rw [fK (hik ▸ e12), ow] at hs
 refine bT (aH (aH (aT (aa (ai (ag (ae (aj (v := (.int .i64 (0))) rfl) (ah (aa (aI (bI (v := (.int .i64 (0))) Tryz.results64 rfl ?_)))))))))))
 obtain rfl := Option.some.inj hs
 exact ⟨h.grown, rfl⟩
def wJ (a : List bV) (b : LX.State) : Option Int :=
  (nU a).bind fun y2 => bif decide ((y2 : Int) ≠ 0) then some y2 else (uP a b).bind fun y6 => some y6
theorem Ej (w0 : World) (M : BS) (hM : ∀ b, M b → b < w0.heap.size) (va : Value) (a : List bV) (ha : eZ lC w0 BE M va a) (b : LX.State) (vb0 vb1 : Value) (hb0 : eZ eH w0 BE M vb0 b.frames) (hb1 : eZ (ou bE) w0 BE M vb1 b.cells) (r : Int) (hs : wJ a b = some r) :
    Calls Tryz.prog 27 #[va, (.agg #[vb0, vb1, (.int .i64 (b.status)), (.int .i64 (b.bQ))])] w0 (fun e w' => Grow w0 w' ∧ e = .returned (.int .i64 r)) := by
 refine aK (args := [va, (.agg #[vb0, vb1, (.int .i64 (b.status)), (.int .i64 (b.bQ))])]) Tryz.func27 rfl Tryz.ntmps27 (Nat.le_of_ble_eq_true rfl) ?_
 have h := SH.init hM
 replace h := h.dU 1 ha aW
 replace h := h.dU 2 hb0 (bD aW)
 replace h := h.dU 3 hb1 (bD (bD aW))
 have tC := ha.bL
 refine ai (ag (pX (cs := [vb0, vb1, (.int .i64 (b.status)), (.int .i64 (b.bQ))]) h 4 rfl rfl fun w b1 h => ae (aj (v := (.int .i64 (0))) rfl) (ah (aa (ai (ai (ag (ae (ak (v := va) rfl) ?_))))))))
 obtain ⟨y2, e3, hs⟩ := aM hs
 refine aO Ov rfl rfl (Bl _ _ h.lt va a (h.fV 1 rfl) _ e3) ?_
 rintro _ w ⟨k4, rfl⟩
 refine ⟨_, rfl, ?_⟩
 replace h := h.grow k4
 refine ae (aj (v := (.int .i64 (y2))) rfl) (ah (aa (ai (ag (ae (ak (v := (.int .i64 (y2))) rfl) (ae (iH rfl rfl) (ah (aa (aJ hs rfl (fun c5 hs => ?_) (fun c5 hs => ?_))))))))))
 refine ai (ag (ae (ak (v := (.int .i64 (y2))) rfl) (ae (aj (v := (.int .i64 (y2))) rfl) (ah (aa (aI (aB (bI (v := (.int .i64 (y2))) Tryz.results27 rfl ?_))))))))
 obtain rfl := Option.some.inj hs
 exact ⟨h.grown, rfl⟩
 refine aD (aa (ai (ag (ae (ak (v := va) rfl) (ae (fA (vs := [vb0, vb1, (.int .i64 (b.status)), (.int .i64 (b.bQ))]) h 4 rfl di rfl rfl rfl) ?_)))))
 obtain ⟨y6, e7, hs⟩ := aM hs
 refine aO TI rfl rfl (KP _ _ h.lt va a (h.fV 1 rfl) b vb0 vb1 (h.fV 2 rfl) (h.fV 3 rfl) _ e7) ?_
 rintro _ w ⟨k8, rfl⟩
 refine ⟨_, rfl, ?_⟩
 replace h := h.grow k8
 refine ae (aj (v := (.int .i64 (y6))) rfl) (ah (aa (aI (bI (v := (.int .i64 (y6))) Tryz.results27 rfl ?_))))
 obtain rfl := Option.some.inj hs
 exact ⟨h.grown, rfl⟩
theorem nV (w0 : World) (M : BS) (hM : ∀ b, M b → b < w0.heap.size) (va : Value) (a : List LX.Frame) (ha : eZ eH w0 BE M va a) (r : List LX.Frame) (hs : clone 48 a = some r) :
    Calls Tryz.prog 83 #[va] w0 (fun e w' => Grow w0 w' ∧ ∃ u0, e = .returned u0 ∧ dH eH 49 w' M u0 r ∧ (∀ b, ob u0 b → w0.heap.size ≤ b)) := by
  obtain ⟨hr, hs⟩ := aZ hs
  cases hs
  refine aK (args := [va]) Tryz.func83 rfl Tryz.ntmps83 (Nat.le_of_ble_eq_true rfl) ?_
  have h := (SH.init hM).dU 1 ha aW
  refine ai (ag (ae (aj rfl) (ah (aa ?_))))
  refine ai (ai (ag (ae (ak rfl) (ae (Dl fD rfl (h.fV 1 rfl) rfl) (ah (aa ?_))))))
  refine gH rfl (fun c => ?_) (fun c => ?_)
  · obtain ⟨c1, c2⟩ := ug (h.fV 1 rfl) c
    refine ai (ag (ae (aj rfl) (ah (aa (aI (aB ?_))))))
    refine bI (v := .slice none 0 0) Tryz.results83 rfl ?_
    rw [c2]
    exact ⟨h.grown, _, rfl, dH.nil, kU⟩
  · refine aD (aa ?_)
    refine ai (ag ?_)
    refine oV (R := eH) (vs := []) (xs := []) h 2 yw rfl rfl rfl trivial rfl fun w u h => ?_
    refine ae (ak rfl) ?_
    refine jg (R := eH) (m := a) h 2 rfl (h.fV 1 rfl) yw rfl rfl rfl hr.1 hr.2 fun w u h => ?_
    refine ae (aj rfl) (ah (aa (aI ?_)))
    refine bI (v := u) Tryz.results83 rfl ?_
    exact ⟨h.grown, _, rfl, (h.kJ 2 rfl).1, (h.kJ 2 rfl).2⟩
theorem xX (w0 : World) (M : BS) (hM : ∀ b, M b → b < w0.heap.size) (va : Value) (a : List (List Val)) (ha : eZ (ou bE) w0 BE M va a) (r : List (List Val)) (hs : clone 24 a = some r) :
    Calls Tryz.prog 114 #[va] w0 (fun e w' => Grow w0 w' ∧ ∃ u0, e = .returned u0 ∧ dH (ou bE) 47 w' M u0 r ∧ (∀ b, ob u0 b → w0.heap.size ≤ b)) := by
  obtain ⟨hr, hs⟩ := aZ hs
  cases hs
  refine aK (args := [va]) Tryz.func114 rfl Tryz.ntmps114 (Nat.le_of_ble_eq_true rfl) ?_
  have h := (SH.init hM).dU 1 ha aW
  refine ai (ag (ae (aj rfl) (ah (aa ?_))))
  refine ai (ai (ag (ae (ak rfl) (ae (Dl fe rfl (h.fV 1 rfl) rfl) (ah (aa ?_))))))
  refine gH rfl (fun c => ?_) (fun c => ?_)
  · obtain ⟨c1, c2⟩ := ug (h.fV 1 rfl) c
    refine ai (ag (ae (aj rfl) (ah (aa (aI (aB ?_))))))
    refine bI (v := .slice none 0 0) Tryz.results114 rfl ?_
    rw [c2]
    exact ⟨h.grown, _, rfl, dH.nil, kU⟩
  · refine aD (aa ?_)
    refine ai (ag ?_)
    refine oV (R := (ou bE)) (vs := []) (xs := []) h 2 mW rfl rfl rfl trivial rfl fun w u h => ?_
    refine ae (ak rfl) ?_
    refine jg (R := (ou bE)) (m := a) h 2 rfl (h.fV 1 rfl) mW rfl rfl rfl hr.1 hr.2 fun w u h => ?_
    refine ae (aj rfl) (ah (aa (aI ?_)))
    refine bI (v := u) Tryz.results114 rfl ?_
    exact ⟨h.grown, _, rfl, (h.kJ 2 rfl).1, (h.kJ 2 rfl).2⟩
theorem sN (w0 : World) (M : BS) (hM : ∀ b, M b → b < w0.heap.size) (va : Value) (a : List Val) (ha : eZ bE w0 BE M va a) (r : List Val) (hs : clone 16 a = some r) :
    Calls Tryz.prog 85 #[va] w0 (fun e w' => Grow w0 w' ∧ ∃ u0, e = .returned u0 ∧ dH bE 51 w' M u0 r ∧ (∀ b, ob u0 b → w0.heap.size ≤ b)) := by
  obtain ⟨hr, hs⟩ := aZ hs
  cases hs
  refine aK (args := [va]) Tryz.func85 rfl Tryz.ntmps85 (Nat.le_of_ble_eq_true rfl) ?_
  have h := (SH.init hM).dU 1 ha aW
  refine ai (ag (ae (aj rfl) (ah (aa ?_))))
  refine ai (ai (ag (ae (ak rfl) (ae (Dl dD rfl (h.fV 1 rfl) rfl) (ah (aa ?_))))))
  refine gH rfl (fun c => ?_) (fun c => ?_)
  · obtain ⟨c1, c2⟩ := ug (h.fV 1 rfl) c
    refine ai (ag (ae (aj rfl) (ah (aa (aI (aB ?_))))))
    refine bI (v := .slice none 0 0) Tryz.results85 rfl ?_
    rw [c2]
    exact ⟨h.grown, _, rfl, dH.nil, kU⟩
  · refine aD (aa ?_)
    refine ai (ag ?_)
    refine oV (R := bE) (vs := []) (xs := []) h 2 vV rfl rfl rfl trivial rfl fun w u h => ?_
    refine ae (ak rfl) ?_
    refine jg (R := bE) (m := a) h 2 rfl (h.fV 1 rfl) vV rfl rfl rfl hr.1 hr.2 fun w u h => ?_
    refine ae (aj rfl) (ah (aa (aI ?_)))
    refine bI (v := u) Tryz.results85 rfl ?_
    exact ⟨h.grown, _, rfl, (h.kJ 2 rfl).1, (h.kJ 2 rfl).2⟩
def uu (a : List (List Val)) (i14 : Int) (s : Unit) (Hw : Unit → Option (List (List Val))) : Option (List (List Val)) :=
  (idx a i14).bind fun x20 => (clone 16 x20).bind fun y31 => Hw ()
def uw (a : List (List Val)) (s : Unit) : Option (List (List Val)) :=
  some a
def zq (a : List (List Val)) : Option (List (List Val)) :=
  (clone 24 a).bind fun y1 => upto (uu a) (uw a) 0 ((a.length : Int)).toNat ()
theorem yF (w0 : World) (M : BS) (hM : ∀ b, M b → b < w0.heap.size) (va : Value) (a : List (List Val)) (ha : eZ (ou bE) w0 BE M va a) (r : List (List Val)) (hs : zq a = some r) :
    Calls Tryz.prog 84 #[va] w0 (fun e w' => Grow w0 w' ∧ ∃ wI, ∃ wK, e = .returned (wI) ∧ Chunk.holds w' M (Chunk.own' ((.two (.own (fo Val).raw 47 wI (List.zip r wK)) (.fU (cu bE 51 hn wK (List.map (fo Val).sub r)))) : Chunk)) ((.two (.own (fo Val).raw 47 wI (List.zip r wK)) (.fU (cu bE 51 hn wK (List.map (fo Val).sub r)))) : Chunk) ∧ (∀ b, Chunk.own' ((.two (.own (fo Val).raw 47 wI (List.zip r wK)) (.fU (cu bE 51 hn wK (List.map (fo Val).sub r)))) : Chunk) b → w0.heap.size ≤ b)) := by
 refine aK (args := [va]) Tryz.func84 rfl Tryz.ntmps84 (Nat.le_of_ble_eq_true rfl) ?_
 have h := SH.init hM
 replace h := h.dU 1 ha aW
 have tC := ha.bL
 refine ai (ag (ae (aj (v := (.slice none 0 0)) rfl) (ah (aa (ai (ag (ae (ak (v := va) rfl) ?_)))))))
 obtain ⟨y1, e2, hs⟩ := aM hs
 have z3 := vU e2
 subst z3
 refine aO QZ rfl rfl (xX _ _ h.lt va a (h.fV 1 rfl) _ e2) ?_
 rintro _ w ⟨k7, u4, rfl, g5, g6⟩
 refine ⟨_, rfl, ?_⟩
 replace h := h.jm 2 k7 g5 g6
 obtain ⟨us8, -, h⟩ := h.thaw (N := (fo Val)) (R := bE) (Es := 51) 2 3 4 rfl (by decide) (by decide) (by decide) rfl QQ
 refine ae (aj (v := u4) rfl) (ah (aa (ai (ai (ag (ae (ak (v := u4) rfl) (ae (yo (N := (fo Val)) fe rfl (h.dJ 2 rfl) (h.oM 3 rfl)) (ae (ak (v := (.int .i64 (0))) rfl) (ah (aa (aL ?_)))))))))))
 have Wu := (h.fV 1 rfl).bL
 refine fq (σ := Nat × Int × List Value) (inl [3, 4, 9, 10, 11, 12, 13, 14, 15, 16, 17, 18, 19]) (fun ⟨k13, i14, Fq⟩ => [(9, (.int .i64 (i14)))]) (fun ⟨k13, i14, Fq⟩ w => SH w0 M BE w (hset [(2, .own (fo Val).raw 47 u4 (List.zip a Fq)), (3, .fU (cu bE 51 (hge (k13)) Fq (List.map (fo Val).sub a))), (4, .fU (AZ bE (k13) Fq (List.map (fo Val).sub a)))]) ∧ i14 = (k13 : Int) ∧ upto (uu a) (uw a) i14 (((a.length : Int)).toNat - k13) () = some r) (fun ⟨k13, i14, Fq⟩ => ((a.length : Int)).toNat - k13) ⟨0, 0, us8⟩ ⟨rfl, trivial⟩ ?_ ?_
 exact ⟨h.cn _, rfl, hs⟩
 rintro ⟨k13, i14, Fq⟩ w dm ⟨h, hik, hs⟩
 refine ai (ag ?_)
 refine ae (dA rfl rfl) (ah (aa ?_))
 refine ai (gH rfl (fun e18 => ?_) (fun e18 => ?_))
 refine aD (aa ?_)
 rw [pz (by have := of_decide_eq_true e18; omega)] at hs
 generalize Wv : upto (uu a) (uw a) (i14 + 1) (((a.length : Int)).toNat - (k13 + 1)) = Hw at hs
 have e19r : jb (i14 + 1) := (by have := of_decide_eq_true e18; have := Wu; exact jb.mk (by omega) (by omega))
 refine ai (aL (ai (ag (ae (ak (v := (.int .i64 (i14))) rfl) ?_))))
 obtain ⟨x20, e21, hs⟩ := aM hs
 obtain ⟨u25, e260, r27⟩ := h.Ol 4 x20 rfl (h.oM 3 rfl) (FP hik (aX e21).2) rfl
 have e26 := R7 hik e260
 replace h := h.bG 5 r27
 obtain ⟨zO, q24, i22⟩ := h.Ir 2 rfl fe rfl (aX e21).1 (mf (aX e21).2 e26)
 refine ae (i22 _ _ _ _ _ _ _ _ _ rfl rfl) ?_
 obtain ⟨Uj, m29, Ws⟩ := h.Ns 2 rfl q24 (mf (aX e21).2 e26)
 obtain ⟨rfl, -⟩ := Ws
 refine ae (CG (k := 0) m29 oW rfl rfl) (ae (aj (v := (.int .i64 (i14))) rfl) (ae (aj (v := u25) rfl) (ah (aa (ag (ae (ak (v := u4) rfl) (ae (ak (v := (.int .i64 (i14))) rfl) (ae (ak (v := u25) rfl) ?_))))))))
 obtain ⟨y31, e32, hs⟩ := aM hs
 have z33 := vU e32
 subst z33
 refine aO Oy rfl rfl (sN _ _ h.lt u25 x20 (h.mU 5 rfl) _ e32) ?_
 rintro _ w ⟨k37, u34, rfl, g35, g36⟩
 refine ⟨_, rfl, ?_⟩
 replace h := h.jm 6 k37 g35 g36
 obtain ⟨XP, q40, i38⟩ := h.Ir 2 rfl fe rfl (aX e21).1 (mf (aX e21).2 e26)
 refine ae (i38 _ _ _ _ _ _ _ _ _ rfl rfl) ?_
 have o41 : (Value.oneCell' u34) = true := (h.fF 6 rfl).one
 refine NK (off := 0) (a' := (x20, u34)) h 2 rfl q40 rfl (mf (aX e21).2 e26) oW rfl rfl o41 rfl (by rintro _ ⟨rfl, _⟩; exact ⟨rfl, o41⟩) fun w h => ?_
 rw [IG (aX e21).2, Oj hik] at h
 replace h := h.IL 3 4 6 rfl rfl rfl (by decide) (by decide) (by decide) (FP hik (aX e21).2) (FP hik e26) rfl
 generalize List.set Fq k13 u34 = us42 at h
 refine ah (az (aa (ag (ae (bY rfl rfl e19r) (ae (ak (v := (.int .i64 ((i14 + 1)))) rfl) (ah (ay ?_)))))))
 subst Wv
 exact iQ ⟨k13 + 1, i14 + 1, us42⟩ ⟨h.cn _, by omega, hs⟩ (by have := of_decide_eq_true e18; dsimp only; omega)
 rw [pE (by have := of_decide_eq_false e18; omega)] at hs
 replace h := h.Oi 3 rfl (by have := of_decide_eq_false e18; omega)
 replace h := h.q9 4
 refine bT (aH (aH (aT (aa (ai (ag (ae (ak (v := u4) rfl) (ae (aj (v := u4) rfl) (ah (aa (aI (bI (v := u4) Tryz.results84 rfl ?_))))))))))))
 replace h := h.pair 2 3 (by decide)
 obtain rfl := Option.some.inj hs
 obtain ⟨o1, o2, o3⟩ := h.zV 2 (C := (.two (.own (fo Val).raw 47 u4 (List.zip a Fq)) (.fU (cu bE 51 hn Fq (List.map (fo Val).sub a))) : Chunk)) rfl ⟨trivial, trivial⟩
 exact ⟨o2, u4, Fq, rfl, o1, GN o3⟩
def xE (a : LX.State) (i13 : Int) (s : Unit) (Ww : Unit → Option LX.State) : Option LX.State :=
  (idx a.frames i13).bind fun yf => (clone 16 yf.regs).bind fun Pq => Ww ()
def xG (a : LX.State) (y7 : List (List Val)) (s : Unit) : Option LX.State :=
  some (⟨a.frames, y7, a.status, a.bQ⟩ : LX.State)
def Ag (a : LX.State) (y7 : List (List Val)) : Option LX.State :=
  upto (xE a) (xG a y7) 0 ((a.frames.length : Int)).toNat ()
def Dx (a : LX.State) : Option LX.State :=
  (clone 48 a.frames).bind fun Ps => (zq a.cells).bind fun nW => Ag a nW
theorem MZ (w0 : World) (M : BS) (hM : ∀ b, M b → b < w0.heap.size) (a : LX.State) (AB Bn : Value) (ha0 : eZ eH w0 BE M AB a.frames) (ha1 : eZ (ou bE) w0 BE M Bn a.cells) (r : LX.State) (hs : Dx a = some r) :
    Calls Tryz.prog 49 #[(.agg #[AB, Bn, (.int .i64 (a.status)), (.int .i64 (a.bQ))])] w0 (fun e w' => Grow w0 w' ∧ ∃ wI, ∃ Af, ∃ wK, ∃ Ck, e = .returned (.agg #[wI, Af, .int .i64 r.status, .int .i64 r.bQ]) ∧ Chunk.holds w' M (Chunk.own' ((.two (.two (.two (.own dn.raw 49 wI (List.zip r.frames wK)) (.fU (cu bE 51 hn wK (List.map dn.sub r.frames)))) (.own (fo Val).raw 47 Af (List.zip r.cells Ck))) (.fU (cu bE 51 hn Ck (List.map (fo Val).sub r.cells)))) : Chunk)) ((.two (.two (.two (.own dn.raw 49 wI (List.zip r.frames wK)) (.fU (cu bE 51 hn wK (List.map dn.sub r.frames)))) (.own (fo Val).raw 47 Af (List.zip r.cells Ck))) (.fU (cu bE 51 hn Ck (List.map (fo Val).sub r.cells)))) : Chunk) ∧ (∀ b, Chunk.own' ((.two (.two (.two (.own dn.raw 49 wI (List.zip r.frames wK)) (.fU (cu bE 51 hn wK (List.map dn.sub r.frames)))) (.own (fo Val).raw 47 Af (List.zip r.cells Ck))) (.fU (cu bE 51 hn Ck (List.map (fo Val).sub r.cells)))) : Chunk) b → w0.heap.size ≤ b)) := by
 refine aK (args := [(.agg #[AB, Bn, (.int .i64 (a.status)), (.int .i64 (a.bQ))])]) Tryz.func49 rfl Tryz.ntmps49 (Nat.le_of_ble_eq_true rfl) ?_
 have h := SH.init hM
 replace h := h.dU 1 ha0 aW
 replace h := h.dU 2 ha1 (bD aW)
 refine ai (ag (pX (cs := [AB, Bn, (.int .i64 (a.status)), (.int .i64 (a.bQ))]) h 3 rfl rfl fun w b1 h => bP h 4 di fun w b2 h => ah (aa (bU (σ := Value × List Value × Value × List Value × List (List Val)) (inl [5, 6, 7, 8, 9, 10, 11, 12]) (fun ⟨v3, Vm, v5, Rn, y7⟩ => []) (fun ⟨v3, Vm, v5, Rn, y7⟩ w => SH w0 M BE w (hset [(3, .blk b1 [v3, v5, (.int .i64 (a.status)), (.int .i64 (a.bQ))]), (4, .blk b2 [(.slice none 0 0), (.slice none 0 0), (.int .i64 (0)), (.int .i64 (0))]), (29, .own dn.raw 49 v3 (List.zip a.frames Vm)), (30, .fU (cu bE 51 (hge (0)) Vm (List.map dn.sub a.frames))), (31, .fU (AZ bE (0) Vm (List.map dn.sub a.frames))), (65, .own (fo Val).raw 47 v5 (List.zip y7 Rn)), (66, .fU (cu bE 51 hn Rn (List.map (fo Val).sub y7)))]) ∧ Ag a y7 = some r) ?_ ?_))))
 rintro ⟨v3, Vm, v5, Rn, y7⟩ w dm ⟨h, hs⟩
 refine ai (ai (ag (ae (au kD rfl) (ae (aF h 3 rfl qw rfl rfl) (ae (yo (N := dn) fD rfl (h.dJ 29 rfl) (h.oM 30 rfl)) (ae (ak (v := (.int .i64 (0))) rfl) (ah (aa (aL ?_)))))))))
 have Wx := DY (h.dJ 29 rfl) (h.oM 30 rfl)
 refine fq (σ := Nat × Int × List Value) (inl [3, 4, 16, 17, 18, 19, 20, 21, 22, 23, 24, 25, 26, 27, 28, 29]) (fun ⟨k12, i13, yG⟩ => [(16, (.int .i64 (i13)))]) (fun ⟨k12, i13, yG⟩ w => SH w0 M BE w (hset [(3, .blk b1 [v3, v5, (.int .i64 (a.status)), (.int .i64 (a.bQ))]), (4, .blk b2 [(.slice none 0 0), (.slice none 0 0), (.int .i64 (0)), (.int .i64 (0))]), (29, .own dn.raw 49 v3 (List.zip a.frames yG)), (30, .fU (cu bE 51 (hge (k12)) yG (List.map dn.sub a.frames))), (31, .fU (AZ bE (k12) yG (List.map dn.sub a.frames))), (65, .own (fo Val).raw 47 v5 (List.zip y7 Rn)), (66, .fU (cu bE 51 hn Rn (List.map (fo Val).sub y7)))]) ∧ i13 = (k12 : Int) ∧ upto (xE a) (xG a y7) i13 (((a.frames.length : Int)).toNat - k12) () = some r) (fun ⟨k12, i13, yG⟩ => ((a.frames.length : Int)).toNat - k12) ⟨0, 0, Vm⟩ ⟨rfl, trivial⟩ ?_ ?_
 exact ⟨h.cn _, rfl, hs⟩
 rintro ⟨k12, i13, yG⟩ w dm ⟨h, hik, hs⟩
 refine ai (ag ?_)
 refine ae (dA rfl rfl) (ah (aa ?_))
 refine ai (gH rfl (fun e17 => ?_) (fun e17 => ?_))
 refine aD (aa ?_)
 rw [pz (by have := of_decide_eq_true e17; omega)] at hs
 generalize Wy : upto (xE a) (xG a y7) (i13 + 1) (((a.frames.length : Int)).toNat - (k12 + 1)) = Ww at hs
 have e18r : jb (i13 + 1) := (by have := of_decide_eq_true e17; have := Wx; exact jb.mk (by omega) (by omega))
 refine ai (aL (ai (ag (ae (ak (v := (.int .i64 (i13))) rfl) ?_))))
 obtain ⟨yf, e20, hs⟩ := aM hs
 obtain ⟨u24, e250, r26⟩ := h.Ol 31 yf.regs rfl (h.oM 30 rfl) (FP hik (aX e20).2) rfl
 have e25 := R7 hik e250
 replace h := h.bG 67 r26
 obtain ⟨b22, q23, i21⟩ := h.Ir 29 rfl fD rfl (aX e20).1 (mf (aX e20).2 e25)
 refine ae (i21 _ _ _ _ _ _ _ _ _ rfl rfl) ?_
 obtain ⟨cs27, Uw, Uk⟩ := h.Ns 29 rfl q23 (mf (aX e20).2 e25)
 obtain ⟨rfl, -⟩ := Uk
 refine ae (BL (k := 0) (vs := [(.int .i64 (yf.proc)), (.int .i64 (yf.at_)), u24, (.int .i64 (yf.kI))]) Uw iW rfl rfl rfl (Nat.le_of_ble_eq_true rfl)) (bP h 68 iW fun w b30 h => ae (aj (v := (.int .i64 (i13))) rfl) (dV (vs := [(.int .i64 (yf.proc)), (.int .i64 (yf.at_)), u24, (.int .i64 (yf.kI))]) h 68 [(.int .i64 (yf.proc)), (.int .i64 (yf.at_)), u24, (.int .i64 (yf.kI))] rfl iW rfl rfl rfl rfl rfl (ax rfl (ax rfl (ax (h.fu 67 rfl).one (ax rfl bA)))) fun w h => ah (aa (rW (L := (ob v3)) mixed h fun w h => bJ 0 (aQ.refl _ _) rfl aA (by kernel_rfl) (by kernel_rfl) (by kernel_rfl) (fun w hk => au kD rfl) (bJ 1 (aQ.refl _ _) rfl aA (by kernel_rfl) (by kernel_rfl) (by kernel_rfl) (fun w hk => have h := h.tX 29 rfl hk; aF h 3 rfl qw rfl rfl) (bJ 2 (aQ.refl _ _) rfl aA (by kernel_rfl) (by kernel_rfl) (by kernel_rfl) (fun w hk => ak (v := (.int .i64 (i13))) rfl) (bJ 3 (aQ.refl _ _) rfl aA (by kernel_rfl) (by kernel_rfl) (by kernel_rfl) (fun w hk => au pI rfl) (bJ 4 (aQ.refl _ _) rfl aA (by kernel_rfl) (by kernel_rfl) (by kernel_rfl) (fun w hk => have h := h.tX 29 rfl hk; aF h 68 rfl oW rfl rfl) ?_))))))))
 obtain ⟨Wz, Si⟩ : ∃ x, x = w := ⟨_, rfl⟩
 have Hy : aQ (ob v3) Wz w := Si ▸ aQ.refl (ob v3) w
 refine yj Si.symm (bW 5 (by kernel_rfl) rfl aA ?_)
 obtain ⟨Pq, Jj, hs⟩ := aM hs
 have Pt := vU Jj
 subst Pt
 refine aO Oy rfl rfl (sN _ _ h.lt u24 yf.regs (h.mU 67 rfl) _ Jj) ?_
 rintro _ w ⟨Jk, Bo, rfl, Pv, Jl⟩
 refine ⟨_, rfl, ?_⟩
 replace h := h.jm 129 Jk Pv Jl
 have Vn : ∀ b, ob Bo b → Wz.heap.size ≤ b := fun b hb => Nat.le_trans Hy.size (Jl b hb)
 replace Hy := Hy.grow Jk
 refine ah (aY Hy ?_)
 obtain ⟨WA, Pw, Px⟩ := h.Ir 29 rfl fD rfl (aX e20).1 (mf (aX e20).2 e25)
 refine bJ 6 Hy rfl aA (by kernel_rfl) (by kernel_rfl) (by kernel_rfl) (fun w hk => Px _ _ _ _ _ _ _ _ _ rfl rfl) (bJ 7 Hy rfl aA (by kernel_rfl) (by kernel_rfl) (by kernel_rfl) (fun w hk => au pI rfl) (bW 8 (by kernel_rfl) rfl aA ?_))
 have Jm : (Value.oneCell' Bo) = true := (h.fF 129 rfl).one
 refine NT (a' := (yf, Bo)) h 29 rfl Pw rfl (mf (aX e20).2 e25) oW rfl rfl Jm rfl (by rintro _ ⟨rfl, _⟩; exact ⟨rfl, Jm⟩) fun w h Py => ?_
 replace Hy := Hy.same Py
 rw [IG (aX e20).2, Oj hik] at h
 replace h := h.IL 30 31 129 rfl rfl rfl (by decide) (by decide) (by decide) (FP hik (aX e20).2) (FP hik e25) rfl
 generalize List.set yG k12 Bo = M0 at h
 refine ah (aY Hy (jE (by kernel_rfl) (az (aa (ag (ae (bY rfl rfl e18r) (ae (ak (v := (.int .i64 ((i13 + 1)))) rfl) (ah (ay ?_)))))))))
 subst Wy
 exact iQ ⟨k12 + 1, i13 + 1, M0⟩ ⟨h.cn _, by omega, hs⟩ (by have := of_decide_eq_true e17; dsimp only; omega)
 rw [pE (by have := of_decide_eq_false e17; omega)] at hs
 replace h := h.Oi 30 rfl (by have := of_decide_eq_false e17; omega)
 replace h := h.q9 31
 refine bT (aH (aH (aT (aa (ai (ag (ae (fA (vs := [v3, v5, (.int .i64 (a.status)), (.int .i64 (a.bQ))]) h 3 rfl di rfl rfl rfl) (dV (vs := [v3, v5, (.int .i64 (a.status)), (.int .i64 (a.bQ))]) h 4 [v3, v5, (.int .i64 (a.status)), (.int .i64 (a.bQ))] rfl di rfl rfl rfl rfl rfl (ax (h.fF 29 rfl).one (ax (h.fF 65 rfl).one (ax rfl (ax rfl bA)))) fun w h => ah (aa (aI (R5 (vs := [v3, v5, (.int .i64 (a.status)), (.int .i64 (a.bQ))]) Tryz.results49 rfl h 4 rfl di rfl ?_)))))))))))
 replace h := h.pair 29 30 (by decide)
 replace h := h.pair 29 65 (by decide)
 replace h := h.pair 29 66 (by decide)
 obtain rfl := Option.some.inj hs
 obtain ⟨o1, o2, o3⟩ := h.zV 29 (C := (.two (.two (.two (.own dn.raw 49 v3 (List.zip a.frames yG)) (.fU (cu bE 51 hn yG (List.map dn.sub a.frames)))) (.own (fo Val).raw 47 v5 (List.zip y7 Rn))) (.fU (cu bE 51 hn Rn (List.map (fo Val).sub y7))) : Chunk)) rfl ⟨⟨⟨trivial, trivial⟩, trivial⟩, trivial⟩
 exact ⟨o2, v3, v5, yG, Rn, rfl, o1, GN o3⟩
 refine rW (L := (fun x => x = b1)) mixed h fun w h => bJ 0 (aQ.refl _ _) rfl aA (by kernel_rfl) (by kernel_rfl) (by kernel_rfl) (fun w hk => au kD rfl) (bJ 3 (aQ.refl _ _) rfl aA (by kernel_rfl) (by kernel_rfl) (by kernel_rfl) (fun w hk => au kE rfl) ?_)
 obtain ⟨Ps, wL, hs⟩ := aM hs
 obtain ⟨nW, El, hs⟩ := aM hs
 obtain ⟨Ro, Sj⟩ : ∃ x, x = w := ⟨_, rfl⟩
 have jk : aQ (fun x => x = b1) Ro w := Sj ▸ aQ.refl (fun x => x = b1) w
 refine yj Sj.symm (uJ 1 4 (by kernel_rfl) rfl aA rfl aA ?_ ?_)
 refine ae (aF h 3 rfl qw rfl rfl) (ah (aY jk (uJ 2 4 (by kernel_rfl) rfl aA rfl aA ?_ ?_)))
 have yH := vU wL
 subst yH
 refine aO Kg rfl rfl (nV _ _ h.lt AB a.frames (h.fV 1 rfl) _ wL) ?_
 rintro _ w ⟨sO, lg, rfl, yI, sP⟩
 refine ⟨_, rfl, ?_⟩
 replace h := h.jm 213 sO yI sP
 have FZ : ∀ b, ob lg b → Ro.heap.size ≤ b := fun b hb => Nat.le_trans jk.size (sP b hb)
 replace jk := jk.grow sO
 obtain ⟨wM, -, h⟩ := h.thaw (N := dn) (R := bE) (Es := 51) 213 214 215 rfl (by decide) (by decide) (by decide) rfl BU
 refine ah (aY jk (bW 4 (by kernel_rfl) rfl aA (ae (aF h 3 rfl nO rfl rfl) (ah (aY jk (bJ 6 jk rfl aA (by kernel_rfl) (by kernel_rfl) (by kernel_rfl) (fun w hk => au kD rfl) (bW 5 (by kernel_rfl) rfl aA (aO Kh rfl rfl (yF _ _ h.lt Bn a.cells (h.fV 2 rfl) _ El) ?_))))))))
 rintro _ w ⟨sQ, nX, lS, rfl, yJ, yK⟩
 refine ⟨_, rfl, ?_⟩
 replace h := h.IK 249 (C := (.two (.own (fo Val).raw 47 nX (List.zip nW lS)) (.fU (cu bE 51 hn lS (List.map (fo Val).sub nW))) : Chunk)) sQ ⟨trivial, trivial⟩ yJ yK
 replace h := h.iT 249 250 (by decide) rfl rfl
 replace jk := jk.grow sQ
 refine ah (aY jk (bW 7 (by kernel_rfl) rfl aA (tq h 3 [lg, Bn, (.int .i64 (a.status)), (.int .i64 (a.bQ))] rfl qw rfl rfl rfl rfl (h.fF 213 rfl).one fun w h yL => ?_)))
 replace jk := jk.same yL
 refine ah (aY jk (bJ 8 jk rfl aA (by kernel_rfl) (by kernel_rfl) (by kernel_rfl) (fun w hk => au kE rfl) (bW 9 (by kernel_rfl) rfl aA (tq h 3 [lg, nX, (.int .i64 (a.status)), (.int .i64 (a.bQ))] rfl nO rfl rfl rfl rfl (h.fF 249 rfl).one fun w h yM => ?_))))
 replace jk := jk.same yM
 refine ah (aY jk (jE (by kernel_rfl) (ay ?_)))
 replace h := (h.q9 29).moveC 213 29 rfl rfl (by decide)
 replace h := (h.q9 30).moveC 214 30 rfl rfl (by decide)
 replace h := (h.q9 31).moveC 215 31 rfl rfl (by decide)
 replace h := (h.q9 65).moveC 249 65 rfl rfl (by decide)
 replace h := (h.q9 66).moveC 250 66 rfl rfl (by decide)
 exact bR (lg, wM, nX, lS, nW) ⟨h.cn _, hs⟩
 refine ae (aF h 3 rfl nO rfl rfl) (ah (aY jk (bW 2 (by kernel_rfl) rfl aA ?_)))
 have yH := vU wL
 subst yH
 refine aO Kg rfl rfl (nV _ _ h.lt AB a.frames (h.fV 1 rfl) _ wL) ?_
 rintro _ w ⟨sO, lg, rfl, yI, sP⟩
 refine ⟨_, rfl, ?_⟩
 replace h := h.jm 213 sO yI sP
 have FZ : ∀ b, ob lg b → Ro.heap.size ≤ b := fun b hb => Nat.le_trans jk.size (sP b hb)
 replace jk := jk.grow sO
 obtain ⟨wM, -, h⟩ := h.thaw (N := dn) (R := bE) (Es := 51) 213 214 215 rfl (by decide) (by decide) (by decide) rfl BU
 refine ah (aY jk (bJ 6 jk rfl aA (by kernel_rfl) (by kernel_rfl) (by kernel_rfl) (fun w hk => au kD rfl) (bW 5 (by kernel_rfl) rfl aA (aO Kh rfl rfl (yF _ _ h.lt Bn a.cells (h.fV 2 rfl) _ El) ?_))))
 rintro _ w ⟨sQ, nX, lS, rfl, yJ, yK⟩
 refine ⟨_, rfl, ?_⟩
 replace h := h.IK 249 (C := (.two (.own (fo Val).raw 47 nX (List.zip nW lS)) (.fU (cu bE 51 hn lS (List.map (fo Val).sub nW))) : Chunk)) sQ ⟨trivial, trivial⟩ yJ yK
 replace h := h.iT 249 250 (by decide) rfl rfl
 replace jk := jk.grow sQ
 refine ah (aY jk (bW 7 (by kernel_rfl) rfl aA (tq h 3 [lg, Bn, (.int .i64 (a.status)), (.int .i64 (a.bQ))] rfl qw rfl rfl rfl rfl (h.fF 213 rfl).one fun w h yL => ?_)))
 replace jk := jk.same yL
 refine ah (aY jk (bJ 8 jk rfl aA (by kernel_rfl) (by kernel_rfl) (by kernel_rfl) (fun w hk => au kE rfl) (bW 9 (by kernel_rfl) rfl aA (tq h 3 [lg, nX, (.int .i64 (a.status)), (.int .i64 (a.bQ))] rfl nO rfl rfl rfl rfl (h.fF 249 rfl).one fun w h yM => ?_))))
 replace jk := jk.same yM
 refine ah (aY jk (jE (by kernel_rfl) (ay ?_)))
 replace h := (h.q9 29).moveC 213 29 rfl rfl (by decide)
 replace h := (h.q9 30).moveC 214 30 rfl rfl (by decide)
 replace h := (h.q9 31).moveC 215 31 rfl rfl (by decide)
 replace h := (h.q9 65).moveC 249 65 rfl rfl (by decide)
 replace h := (h.q9 66).moveC 250 66 rfl rfl (by decide)
 exact bR (lg, wM, nX, lS, nW) ⟨h.cn _, hs⟩
 refine ae (aF h 3 rfl nO rfl rfl) (ah (aY jk (bW 1 (by kernel_rfl) rfl aA (ae (aF h 3 rfl qw rfl rfl) (ah (aY jk (bW 2 (by kernel_rfl) rfl aA ?_)))))))
 have yH := vU wL
 subst yH
 refine aO Kg rfl rfl (nV _ _ h.lt AB a.frames (h.fV 1 rfl) _ wL) ?_
 rintro _ w ⟨sO, lg, rfl, yI, sP⟩
 refine ⟨_, rfl, ?_⟩
 replace h := h.jm 213 sO yI sP
 have FZ : ∀ b, ob lg b → Ro.heap.size ≤ b := fun b hb => Nat.le_trans jk.size (sP b hb)
 replace jk := jk.grow sO
 obtain ⟨wM, -, h⟩ := h.thaw (N := dn) (R := bE) (Es := 51) 213 214 215 rfl (by decide) (by decide) (by decide) rfl BU
 refine ah (aY jk (bJ 6 jk rfl aA (by kernel_rfl) (by kernel_rfl) (by kernel_rfl) (fun w hk => au kD rfl) (bW 5 (by kernel_rfl) rfl aA (aO Kh rfl rfl (yF _ _ h.lt Bn a.cells (h.fV 2 rfl) _ El) ?_))))
 rintro _ w ⟨sQ, nX, lS, rfl, yJ, yK⟩
 refine ⟨_, rfl, ?_⟩
 replace h := h.IK 249 (C := (.two (.own (fo Val).raw 47 nX (List.zip nW lS)) (.fU (cu bE 51 hn lS (List.map (fo Val).sub nW))) : Chunk)) sQ ⟨trivial, trivial⟩ yJ yK
 replace h := h.iT 249 250 (by decide) rfl rfl
 replace jk := jk.grow sQ
 refine ah (aY jk (bW 7 (by kernel_rfl) rfl aA (tq h 3 [lg, Bn, (.int .i64 (a.status)), (.int .i64 (a.bQ))] rfl qw rfl rfl rfl rfl (h.fF 213 rfl).one fun w h yL => ?_)))
 replace jk := jk.same yL
 refine ah (aY jk (bJ 8 jk rfl aA (by kernel_rfl) (by kernel_rfl) (by kernel_rfl) (fun w hk => au kE rfl) (bW 9 (by kernel_rfl) rfl aA (tq h 3 [lg, nX, (.int .i64 (a.status)), (.int .i64 (a.bQ))] rfl nO rfl rfl rfl rfl (h.fF 249 rfl).one fun w h yM => ?_))))
 replace jk := jk.same yM
 refine ah (aY jk (jE (by kernel_rfl) (ay ?_)))
 replace h := (h.q9 29).moveC 213 29 rfl rfl (by decide)
 replace h := (h.q9 30).moveC 214 30 rfl rfl (by decide)
 replace h := (h.q9 31).moveC 215 31 rfl rfl (by decide)
 replace h := (h.q9 65).moveC 249 65 rfl rfl (by decide)
 replace h := (h.q9 66).moveC 250 66 rfl rfl (by decide)
 exact bR (lg, wM, nX, lS, nW) ⟨h.cn _, hs⟩
end
end Go.Proofs.YtfclkapelkhlpaaGreatDoor
