/-
  What the law SnapTorn needs of our own library and of the walks, no more.
-/
import Derived.Test.YtfclkapelkhlpaaGreatDoorProg
import Derived.Test.YtfclkapelkhlpaaGreatDoorSnapTornTd
set_option linter.unusedSimpArgs false
set_option linter.unusedVariables false
set_option maxRecDepth 10000
namespace Go.Proofs.YtfclkapelkhlpaaGreatDoor
open Go Go.Proofs Go.LX
noncomputable section
def q9 (H8 : (List Int × List (Int × Bool)) → Option (List Int × Int)) (nL : List Int) (xL : List (Int × Bool)) : Option (List Int × Int) :=
  H8 (nL, xL)
def rf (Gi : (List Int × List (Int × Bool)) → Option (List Int × Int)) (K5 : List Int) (CE : List (Int × Bool)) : Option (List Int × Int) :=
  Gi (K5, CE)
def lX (rU : Val) (s : List Int × List (Int × Bool)) (Gi : List Int × List (Int × Bool) → Option (List Int × Int)) : Option (List Int × Int) :=
  match s with | (BK, nu) => bif (decide ((rU.kind : Int) = 2) && (!((lk rU.n nu).getD false))) then gD (Room 8 BK [rU.n]) (rf Gi (BK ++ [rU.n]) (xD rU.n true nu)) else rf Gi BK nu
def lY (EF : Int) (Jz : (Int × List Int × List (Int × Bool)) → Option (List Int × Int)) (s : List Int × List (Int × Bool)) : Option (List Int × Int) :=
  match s with | (BK, nu) => gD (jg (EF + 1)) (Jz ((EF + 1), BK, nu))
def kr (a : List (List Val)) (s : Int × List Int × List (Int × Bool)) (Jz : Int × List Int × List (Int × Bool) → Option (List Int × Int)) : Option (List Int × Int) :=
  match s with | (EF, zF, Iu) => bif decide ((EF : Int) < (zF.length : Int)) then (idx zF EF).bind fun Yg => (idx a Yg).bind fun x87 => each lX (lY EF Jz) x87 (zF, Iu) else some (zF, 0)
def oG (qf : Val) (s : List Int × List (Int × Bool)) (H8 : List Int × List (Int × Bool) → Option (List Int × Int)) : Option (List Int × Int) :=
  match s with | (y32, FK) => bif (decide ((qf.kind : Int) = 2) && (!((lk qf.n FK).getD false))) then gD (Room 8 y32 [qf.n]) (q9 H8 (y32 ++ [qf.n]) (xD qf.n true FK)) else q9 H8 y32 FK
def rq (N : Nat) (a : List (List Val)) (s : List Int × List (Int × Bool)) : Option (List Int × Int) :=
  match s with | (y32, FK) => again (kr a) N (0, y32, FK)
def oH (a : List (List Val)) (x6 : Val) (s : Unit) (nx8 : Unit → Option (List Int × Int)) : Option (List Int × Int) :=
  bif decide (((bJ x6 (a.length : Int)) : Int) ≠ 0) then some ([], (bJ x6 (a.length : Int))) else nx8 ()
def lZ (N : Nat) (a : List (List Val)) (b : List Val) (s : Unit) : Option (List Int × Int) :=
  each oG (rq N a) b ([], ([] : List (Int × Bool)))
def xU (N : Nat) (a : List (List Val)) (b : List Val) : Option (List Int × Int) :=
  bif decide (((bW a) : Int) ≠ 0) then some ([], (bW a)) else bif decide ((400 : Int) < (b.length : Int)) then some ([], 2) else each (oH a) (lZ N a b) b ()
theorem Ib (N : Nat) (w0 : World) (M : BS) (hM : ∀ b, M b → b < w0.heap.size) (va : Value) (a : List (List Val)) (ha : eY (oN bM) w0 BE M va a) (vb : Value) (b : List Val) (hb : eY bM w0 BE M vb b) (r : List Int × Int) (hs : xU N a b = some r) :
    Calls Tryz.prog 48 #[va, vb] w0 (fun e w' => Grow w0 w' ∧ ∃ u0, e = .returned (.tuple #[u0, .int .i64 r.2]) ∧ dC cu 3 w' M u0 r.1 ∧ (∀ b, ob u0 b → w0.heap.size ≤ b)) := by
 refine aH (args := [va, vb]) Tryz.func48 rfl Tryz.ntmps48 (bB rfl) ?_
 have h := SH.init hM
 replace h := h.dR 1 ha aT
 replace h := h.dR 2 hb (bA aT)
 have tZ := ha.bG
 have FB := hb.bG
 refine nG (aa (ae (v := (.slice none 0 0)) rfl) (aa (ae (v := (I6 0)) rfl) (nK (aa (ag (v := va) rfl) (aM OY rfl rfl (yj _ _ h.lt va a (h.fT 1 rfl) _ rfl) ?_)))))
 rintro _ w ⟨k1, rfl⟩
 refine ⟨_, rfl, ?_⟩
 replace h := h.grow k1
 refine aa (ae (v := (I6 ((bW a)))) rfl) (nJ (aa (ag (v := (I6 ((bW a)))) rfl) (aa (iK rfl rfl) (nN (aG hs rfl (fun c2 hs => ?_) (fun c2 hs => ?_))))))
 refine nG (aa (ag (v := (I6 ((bW a)))) rfl) (aa (ae (v := (.slice none 0 0)) rfl) (aa (ae (v := (I6 ((bW a)))) rfl) (nR (ax (zR (v1 := (.slice none 0 0)) (v2 := (I6 ((bW a)))) Tryz.results48 rfl rfl ?_))))))
 obtain rfl := gM hs
 exact ⟨h.grown, _, rfl, dC.nil, kX⟩
 refine aF (aj (aK (nG (aa (ag (v := vb) rfl) (aa (bC dz rfl (h.fT 2 rfl)) (aa (iV rfl rfl) (nN (aG hs rfl (fun c3 hs => ?_) (fun c3 hs => ?_)))))))))
 refine nG (aa (ae (v := (.slice none 0 0)) rfl) (aa (ae (v := (I6 2)) rfl) (nR (ax (zR (v1 := (.slice none 0 0)) (v2 := (I6 2)) Tryz.results48 rfl rfl ?_)))))
 obtain rfl := gM hs
 exact ⟨h.grown, _, rfl, dC.nil, kX⟩
 refine aF (aj (aK (nG (aa (ag (v := vb) rfl) (aa (bC dz rfl (h.fT 2 rfl)) (aa (ag (v := (I6 0)) rfl) (nN (aI (fe (σ := Nat × Int) (inl ([4, 5, 8, 9] ++ rg 28 12)) (fun ⟨k4, i5⟩ => [(28, (I6 i5))]) (fun ⟨k4, i5⟩ w => SH w0 M BE w (hset [(1, .sr (oN bM) va a), (2, .sr bM vb b)]) ∧ i5 = (k4 : Int) ∧ each (oH a) (lZ N a b) (b.drop k4) () = some r) (fun ⟨k4, i5⟩ => b.length - k4) ⟨0, 0⟩ ⟨rfl, trivial⟩ ?_ ?_)))))))))
 exact ⟨h.cn _, rfl, hs⟩
 rintro ⟨k4, i5⟩ w cZ ⟨h, hik, hs⟩
 refine nG ?_
 refine aa (dm rfl rfl) (nN ?_)
 refine aK (gF rfl (fun e9 => ?_) (fun e9 => ?_))
 refine aF (aj ?_)
 obtain ⟨x6, e10a, e10b⟩ := fH (hik ▸ e9)
 rw [e10b, cz] at hs
 generalize hnx8 : each (oH a) (lZ N a b) (b.drop (k4 + 1)) = nx8 at hs
 have e10r := fK ((h.fT 2 rfl)).bG hik e9
 refine aK (aI (nG ?_))
 obtain ⟨b12, o13, W9, h, Xa, i11⟩ := h.xx 2 3 rfl dz rfl (ic hik) (fJ hik e10a)
 obtain rfl := Xa
 refine aa (i11 _ _ _ _ _ _ _ _ _ rfl rfl) (aa (iH (k := 0) (vs := [(I6 x6.kind), (I6 x6.n)]) h 3 rfl ik rfl rfl rfl (bB rfl)) (bL h 4 ik fun w b16 h => dS (vs := [(I6 x6.kind), (I6 x6.n)]) h 4 [(I6 x6.kind), (I6 x6.n)] rfl ik rfl rfl rfl rfl rfl (ai rfl (ai rfl aZ)) fun w h => nJ (aa (fu (vs := [(I6 x6.kind), (I6 x6.n)]) h 4 rfl ik rfl rfl rfl) (aa (ag (v := va) rfl) (aa (bC eZ rfl (h.fT 1 rfl)) (aM Kr rfl rfl (xQ _ _ h.lt x6 (a.length : Int) _ rfl) ?_))))))
 rintro _ w ⟨k17, rfl⟩
 refine ⟨_, rfl, ?_⟩
 replace h := h.grow k17
 refine aa (ae (v := (I6 ((bJ x6 (a.length : Int))))) rfl) (nJ (aa (ag (v := (I6 ((bJ x6 (a.length : Int))))) rfl) (aa (iK rfl rfl) (nN (aG hs rfl (fun c18 hs => ?_) (fun c18 hs => ?_))))))
 refine nG (aa (ag (v := (I6 ((bJ x6 (a.length : Int))))) rfl) (aa (ae (v := (.slice none 0 0)) rfl) (aa (ae (v := (I6 ((bJ x6 (a.length : Int))))) rfl) (nR (aD (ax (ax (aD (ax (zR (v1 := (.slice none 0 0)) (v2 := (I6 ((bJ x6 (a.length : Int))))) Tryz.results48 rfl rfl ?_))))))))))
 obtain rfl := gM hs
 exact ⟨h.grown, _, rfl, dC.nil, kX⟩
 refine aF (au (aj (az (aa (bU rfl rfl e10r) (aa (ag (v := (I6 ((i5 + 1)))) rfl) (aB (ak ?_)))))))
 subst hnx8
 exact iW ⟨k4 + 1, i5 + 1⟩ ⟨h.cn _, by omega, hs⟩ (by have := nX e9; dsimp only; omega)
 rw [fI (hik ▸ e9), fw] at hs
 refine nE (zo h 5 fun w b19 h => nZ h 6 Cr fun w b20 h => dV h 6 [(.map (some b19))] rfl Cr rfl rfl rfl rfl rfl fun w h => nJ (nZ h 7 qK fun w FE h => nJ (aa (qc (c1 := []) (c2 := [(.pointer (some ⟨b20, 0, none⟩)), (.pointer (some ⟨FE, 0, none⟩))]) rfl rfl) (aa (ae (v := (.func (.func 82) #[] #[(.pointer (some ⟨b20, 0, none⟩)), (.pointer (some ⟨FE, 0, none⟩))])) rfl) (nN (aK ?_))))))
 refine nG (aa (ag (v := vb) rfl) (aa (bC dz rfl (h.fT 2 rfl)) (aa (ag (v := (I6 0)) rfl) (nN (aI ?_)))))
 replace h := h.vS (R := cu) (E := 3) 11
 refine fe (σ := Nat × Int × Value × List Int × List (Int × Bool)) (inl ([14] ++ rg 44 8)) (fun ⟨Jt, i35, v31, y32, FK⟩ => [(44, (I6 i35))]) (fun ⟨Jt, i35, v31, y32, FK⟩ w => SH w0 M BE w (hset [(1, .sr (oN bM) va a), (2, .sr bM vb b), (5, .mp b19 (List.map (fun p => (p.1, (fun x => Value.bool x) p.2)) FK)), (6, .blk b20 [(.map (some b19))]), (7, .blk FE [v31]), (11, .own cu 3 v31 y32)]) ∧ i35 = (Jt : Int) ∧ each oG (rq N a) (b.drop Jt) (y32, FK) = some r) (fun ⟨Jt, i35, v31, y32, FK⟩ => b.length - Jt) ⟨0, 0, (.slice none 0 0), [], ([] : List (Int × Bool))⟩ ⟨rfl, trivial⟩ ?_ ?_
 exact ⟨h.cn _, rfl, hs⟩
 rintro ⟨Jt, i35, v31, y32, FK⟩ w cZ ⟨h, hik, hs⟩
 refine nG ?_
 refine aa (dm rfl rfl) (nN ?_)
 refine aK (gF rfl (fun e39 => ?_) (fun e39 => ?_))
 refine aF (aj ?_)
 obtain ⟨qf, PQ, PR⟩ := fH (hik ▸ e39)
 rw [PR, cz] at hs
 generalize PS : each oG (rq N a) (b.drop (Jt + 1)) = H8 at hs
 have UM := fK ((h.fT 2 rfl)).bG hik e39
 refine bQ (σ := Value × List Int × List (Int × Bool)) (inl [14, 46, 47, 48, 49, 50]) (fun ⟨v41, nL, xL⟩ => []) (fun ⟨v41, nL, xL⟩ w => SH w0 M BE w (hset [(1, .sr (oN bM) va a), (2, .sr bM vb b), (5, .mp b19 (List.map (fun p => (p.1, (fun x => Value.bool x) p.2)) xL)), (6, .blk b20 [(.map (some b19))]), (7, .blk FE [v41]), (11, .own cu 3 v41 nL)]) ∧ q9 H8 nL xL = some r) ?_ ?_
 rintro ⟨v41, nL, xL⟩ w cZ ⟨h, hs⟩
 refine az (aa (bU rfl rfl UM) (aa (ag (v := (I6 ((i35 + 1)))) rfl) (aB (ak ?_))))
 subst PS
 exact iW ⟨Jt + 1, i35 + 1, v41, nL, xL⟩ ⟨h.cn _, by omega, hs⟩ (by have := nX e39; dsimp only; omega)
 refine aI (nG ?_)
 obtain ⟨QT, o46, cs47, h, r48, i44⟩ := h.xx 2 12 rfl dz rfl (ic hik) (fJ hik PQ)
 obtain rfl := r48
 refine aa (i44 _ _ _ _ _ _ _ _ _ rfl rfl) (aa (iH (k := 0) (vs := [(I6 qf.kind), (I6 qf.n)]) h 12 rfl ik rfl rfl rfl (bB rfl)) (bL h 13 ik fun w b49 h => dS (vs := [(I6 qf.kind), (I6 qf.n)]) h 13 [(I6 qf.kind), (I6 qf.n)] rfl ik rfl rfl rfl rfl rfl (ai rfl (ai rfl aZ)) fun w h => nN (az (aa (ag (v := (.func (.func 82) #[] #[(.pointer (some ⟨b20, 0, none⟩)), (.pointer (some ⟨FE, 0, none⟩))])) rfl) (aa (fu (vs := [(I6 qf.kind), (I6 qf.n)]) h 13 rfl ik rfl rfl rfl) (jo (args := [(.agg #[(I6 qf.kind), (I6 qf.n)]), (.pointer (some ⟨b20, 0, none⟩)), (.pointer (some ⟨FE, 0, none⟩))]) OZ rfl rfl (aH (args := [(.agg #[(I6 qf.kind), (I6 qf.n)]), (.pointer (some ⟨b20, 0, none⟩)), (.pointer (some ⟨FE, 0, none⟩))]) Tryz.func82 rfl Tryz.ntmps82 (bB rfl) (nG (ql (cs := [(I6 qf.kind), (I6 qf.n)]) h 14 rfl rfl fun w b50 h => nJ (aa (ah Bq rfl) (aa (aC h 14 rfl aS rfl rfl) (aa (bH rfl rfl) (aa (ag (v := (.bool (decide ((qf.kind : Int) = 2)))) rfl) (aA rfl rfl (fun q => aC h 6 rfl Cr rfl rfl) (aA rfl rfl (fun q => ah nU rfl) ?_)))))))))))))))
 refine aA rfl rfl (fun q => aC h 14 rfl aS (bZ q) rfl) (aA rfl rfl (fun q => Sn (f := (fun x => Value.bool x)) (zz := false) FK h 5 rfl Bu (bZ q) (bZ q) rfl rfl) (aA rfl rfl (fun q => fU (bZ q)) (aa (gG rfl rfl mX) (nN (aG hs rfl (fun c51 hs => ?_) (fun c51 hs => ?_))))))
 refine nG (aa (aC h 6 rfl Cr rfl rfl) (aa (ah nU rfl) (aa (aC h 14 rfl aS rfl rfl) (yA (nT := (List.map (fun p => (p.1, (fun x => Value.bool x) p.2)) (xD qf.n true FK))) h 5 rfl Bu rfl rfl rfl (zw (f := (fun x => Value.bool x)) _) fun w h => nN (az (aa (aC h 7 rfl qK rfl rfl) (aa (ah nU rfl) (aa (aC h 14 rfl aS rfl rfl) (pK (R := cu) (vs := [(I6 qf.n)]) (xs := [qf.n]) h 15 fM rfl rfl rfl ⟨rfl, trivial⟩ rfl fun w Yf h => ?_)))))))))
 obtain ⟨a53, hs⟩ := aW hs
 refine jm (R := cu) (m := [qf.n]) h 11 rfl (h.dE 15 rfl) fM rfl rfl rfl a53.1 a53.2 fun w Vz h => dV h 7 [Vz] rfl qK rfl rfl rfl rfl (h.fD 11 rfl).one fun w h => aB (IB Tryz.results82 (⟨_, rfl, ?_⟩))
 refine aB (au (ak ?_))
 exact bO (Vz, (y32 ++ [qf.n]), (xD qf.n true FK)) ⟨h.cn _, hs⟩
 refine aF (IB Tryz.results82 (⟨_, rfl, ?_⟩))
 refine aB (au (ak ?_))
 exact bO (v31, y32, FK) ⟨h.cn _, hs⟩
 rw [fI (hik ▸ e39), fw] at hs
 refine jd (bK (bK (eF (aj (aK (nG (aa (ae (v := (I6 0)) rfl) (nN (aI (fe (σ := Nat × Int × Value × List Int × List (Int × Bool)) (inl ([15, 17] ++ rg 52 22)) (fun ⟨UU, EF, v68, zF, Iu⟩ => [(15, (I6 EF))]) (fun ⟨UU, EF, v68, zF, Iu⟩ w => SH w0 M BE w (hset [(1, .sr (oN bM) va a), (5, .mp b19 (List.map (fun p => (p.1, (fun x => Value.bool x) p.2)) Iu)), (6, .blk b20 [(.map (some b19))]), (7, .blk FE [v68]), (11, .own cu 3 v68 zF)]) ∧ again (kr a) UU (EF, zF, Iu) = some r) (fun ⟨UU, EF, v68, zF, Iu⟩ => UU) ⟨N, 0, v31, y32, FK⟩ ⟨rfl, trivial⟩ ?_ ?_))))))))))
 exact ⟨h.cn _, hs⟩
 rintro ⟨UU, EF, v68, zF, Iu⟩ w cZ ⟨h, hs⟩
 obtain ⟨Xb, m74e, m74h⟩ := nC hs
 subst m74e
 replace hs := m74h
 generalize Xc : again (kr a) Xb = Jz at hs
 refine aK (nG (aa (ag (v := (I6 EF)) rfl) (aa (aC h 7 rfl qK rfl rfl) (aa (bC bP rfl (h.dE 11 rfl)) (aa (dm rfl rfl) (nN (aG hs rfl (fun c78 hs => ?_) (fun c78 hs => ?_))))))))
 refine aF (aj (aK (aI (nG (aa (ag (v := va) rfl) (aa (aC h 7 rfl qK rfl rfl) (aa (ag (v := (I6 EF)) rfl) ?_)))))))
 obtain ⟨Yg, Xd, hs⟩ := aJ hs
 obtain ⟨b82, q83, i81⟩ := h.II 11 rfl bP rfl (aU Xd).1 (aU Xd).2
 refine aa (i81 _ _ _ _ _ _ _ _ _ rfl rfl) ?_
 obtain ⟨cs84, m85, r86⟩ := h.NT 11 rfl q83 (aU Xd).2
 obtain rfl := r86
 refine aa (CZ (k := 0) m85 aS rfl rfl) ?_
 obtain ⟨x87, Yh, hs⟩ := aJ hs
 obtain ⟨b90, o91, cs92, h, r93, i89⟩ := h.xx 1 16 rfl eZ rfl (aU Yh).1 (aU Yh).2
 obtain ⟨u94, rfl, g95⟩ := r93
 replace h := h.bD 17 g95.up
 refine aa (i89 _ _ _ _ _ _ _ _ _ rfl rfl) (aa (dY (k := 0) h 16 rfl pM rfl rfl) (aa (bC dz rfl (h.mY 17 rfl)) (aa (ag (v := (I6 0)) rfl) (nN (aI (fe (σ := Nat × Int × Value × List Int × List (Int × Bool)) (inl ([17] ++ rg 66 8)) (fun ⟨FH, i109, v105, BK, nu⟩ => [(66, (I6 i109))]) (fun ⟨FH, i109, v105, BK, nu⟩ w => SH w0 M BE w (hset [(1, .sr (oN bM) va a), (5, .mp b19 (List.map (fun p => (p.1, (fun x => Value.bool x) p.2)) nu)), (6, .blk b20 [(.map (some b19))]), (7, .blk FE [v105]), (11, .own cu 3 v105 BK), (17, .rd bM u94 x87)]) ∧ i109 = (FH : Int) ∧ each lX (lY EF Jz) (x87.drop FH) (BK, nu) = some r) (fun ⟨FH, i109, v105, BK, nu⟩ => x87.length - FH) ⟨0, 0, v68, zF, Iu⟩ ⟨rfl, trivial⟩ ?_ ?_))))))
 exact ⟨h.cn _, rfl, hs⟩
 rintro ⟨FH, i109, v105, BK, nu⟩ w cZ ⟨h, hik, hs⟩
 refine nG ?_
 refine aa (dm rfl rfl) (nN ?_)
 refine aK (gF rfl (fun P7 => ?_) (fun P7 => ?_))
 refine aF (aj ?_)
 obtain ⟨rU, Xe, Xf⟩ := fH (hik ▸ P7)
 rw [Xf, cz] at hs
 generalize UW : each lX (lY EF Jz) (x87.drop (FH + 1)) = Gi at hs
 have Xg := fK ((h.mY 17 rfl)).bG hik P7
 refine bQ (σ := Value × List Int × List (Int × Bool)) (inl [17, 68, 69, 70, 71, 72]) (fun ⟨P8, K5, CE⟩ => []) (fun ⟨P8, K5, CE⟩ w => SH w0 M BE w (hset [(1, .sr (oN bM) va a), (5, .mp b19 (List.map (fun p => (p.1, (fun x => Value.bool x) p.2)) CE)), (6, .blk b20 [(.map (some b19))]), (7, .blk FE [P8]), (11, .own cu 3 P8 K5), (17, .rd bM u94 x87)]) ∧ rf Gi K5 CE = some r) ?_ ?_
 rintro ⟨P8, K5, CE⟩ w cZ ⟨h, hs⟩
 refine az (aa (bU rfl rfl Xg) (aa (ag (v := (I6 ((i109 + 1)))) rfl) (aB (ak ?_))))
 subst UW
 exact iW ⟨FH + 1, i109 + 1, P8, K5, CE⟩ ⟨h.cn _, by omega, hs⟩ (by have := nX P7; dsimp only; omega)
 refine aI (nG ?_)
 obtain ⟨b119, o120, cs121, h, r122, i118⟩ := h.FU 17 18 rfl dz rfl (ic hik) (fJ hik Xe)
 obtain rfl := r122
 refine aa (i118 _ _ _ _ _ _ _ _ _ rfl rfl) (aa (iH (k := 0) (vs := [(I6 rU.kind), (I6 rU.n)]) h 18 rfl ik rfl rfl rfl (bB rfl)) (bL h 19 ik fun w b123 h => dS (vs := [(I6 rU.kind), (I6 rU.n)]) h 19 [(I6 rU.kind), (I6 rU.n)] rfl ik rfl rfl rfl rfl rfl (ai rfl (ai rfl aZ)) fun w h => nN (az (aa (ag (v := (.func (.func 82) #[] #[(.pointer (some ⟨b20, 0, none⟩)), (.pointer (some ⟨FE, 0, none⟩))])) rfl) (aa (fu (vs := [(I6 rU.kind), (I6 rU.n)]) h 19 rfl ik rfl rfl rfl) (jo (args := [(.agg #[(I6 rU.kind), (I6 rU.n)]), (.pointer (some ⟨b20, 0, none⟩)), (.pointer (some ⟨FE, 0, none⟩))]) OZ rfl rfl (aH (args := [(.agg #[(I6 rU.kind), (I6 rU.n)]), (.pointer (some ⟨b20, 0, none⟩)), (.pointer (some ⟨FE, 0, none⟩))]) Tryz.func82 rfl Tryz.ntmps82 (bB rfl) (nG (ql (cs := [(I6 rU.kind), (I6 rU.n)]) h 20 rfl rfl fun w b124 h => nJ (aa (ah Bq rfl) (aa (aC h 20 rfl aS rfl rfl) (aa (bH rfl rfl) (aa (ag (v := (.bool (decide ((rU.kind : Int) = 2)))) rfl) (aA rfl rfl (fun q => aC h 6 rfl Cr rfl rfl) (aA rfl rfl (fun q => ah nU rfl) ?_)))))))))))))))
 refine aA rfl rfl (fun q => aC h 20 rfl aS (bZ q) rfl) (aA rfl rfl (fun q => Sn (f := (fun x => Value.bool x)) (zz := false) nu h 5 rfl Bu (bZ q) (bZ q) rfl rfl) (aA rfl rfl (fun q => fU (bZ q)) (aa (gG rfl rfl mX) (nN (aG hs rfl (fun UJ hs => ?_) (fun UJ hs => ?_))))))
 refine nG (aa (aC h 6 rfl Cr rfl rfl) (aa (ah nU rfl) (aa (aC h 20 rfl aS rfl rfl) (yA (nT := (List.map (fun p => (p.1, (fun x => Value.bool x) p.2)) (xD rU.n true nu))) h 5 rfl Bu rfl rfl rfl (zw (f := (fun x => Value.bool x)) _) fun w h => nN (az (aa (aC h 7 rfl qK rfl rfl) (aa (ah nU rfl) (aa (aC h 20 rfl aS rfl rfl) (pK (R := cu) (vs := [(I6 rU.n)]) (xs := [rU.n]) h 21 fM rfl rfl rfl ⟨rfl, trivial⟩ rfl fun w u126 h => ?_)))))))))
 obtain ⟨a127, hs⟩ := aW hs
 refine jm (R := cu) (m := [rU.n]) h 11 rfl (h.dE 21 rfl) fM rfl rfl rfl a127.1 a127.2 fun w Xh h => dV h 7 [Xh] rfl qK rfl rfl rfl rfl (h.fD 11 rfl).one fun w h => aB (IB Tryz.results82 (⟨_, rfl, ?_⟩))
 refine aB (au (ak ?_))
 exact bO (Xh, (BK ++ [rU.n]), (xD rU.n true nu)) ⟨h.cn _, hs⟩
 refine aF (IB Tryz.results82 (⟨_, rfl, ?_⟩))
 refine aB (au (ak ?_))
 exact bO (v105, BK, nu) ⟨h.cn _, hs⟩
 rw [fI (hik ▸ P7), fw] at hs
 refine jd (bK (bK (eF (au (aj (az (aa (ag (v := (I6 EF)) rfl) ?_)))))))
 obtain ⟨a129, hs⟩ := aW hs
 refine aa (bU rfl rfl a129) (aa (ae (v := (I6 ((EF + 1)))) rfl) (aB (ak ?_)))
 subst Xc
 exact iW ⟨Xb, (EF + 1), v105, BK, nu⟩ ⟨h.cn _, hs⟩
 refine nE (aa (aC h 7 rfl qK rfl rfl) (aa (ae (v := v68) rfl) (aa (ae (v := (I6 0)) rfl) (nR (zR (v1 := v68) (v2 := (I6 0)) Tryz.results48 rfl rfl ?_)))))
 obtain rfl := gM hs
 exact ⟨h.grown, _, rfl, (h.kM 11 rfl).1, (h.kM 11 rfl).2⟩
def zJ (DT : List Val → Option (List Val)) (Ir : List Val) : Option (List Val) :=
  DT Ir
def zK (mL : List (Int × Int)) (i6 : Int) (x4 : List Val) (DT : List Val → Option (List Val)) : Option (List Val) :=
  (idx x4 i6).bind fun BL => bif decide ((BL.kind : Int) = 2) then zJ DT (x4.set (i6).toNat { BL with n := ((lk BL.n mL).getD (0 : Int)) }) else zJ DT x4
def CF (x4 : List Val) : Option (List Val) :=
  some x4
def EG (sx : List Val) (mL : List (Int × Int)) : Option (List Val) :=
  upto (zK mL) CF 0 ((sx.length : Int)).toNat sx
theorem JA (w0 : World) (M : BS) (hM : ∀ b, M b → b < w0.heap.size) (bq bm : Nat) (sv : Value) (sx : List Val) (hC : Chunk.holds w0 M (Chunk.own' (.own bM 51 sv sx : Chunk)) (.own bM 51 sv sx : Chunk)) (hap : ∀ b, Chunk.own' (.own bM 51 sv sx : Chunk) b → ¬ M b) (mL : List (Int × Int)) (hbm : uq w0 bm (List.map (fun p => (p.1, (fun x => Value.int .i64 x) p.2)) mL)) (nbm : ¬ Chunk.own' (.own bM 51 sv sx : Chunk) bm) (hbq : ∃ E, w0.heap[bq]? = some (.cells #[(.map (some bm))] E (0, 0))) (nbq : ¬ Chunk.own' (.own bM 51 sv sx : Chunk) bq) (r : List Val) (hs : EG sx mL = some r) :
    Calls Tryz.prog 50 #[sv, (.pointer (some ⟨bq, 0, none⟩))] w0 (fun e w' => aO (Chunk.own' (.own bM 51 sv sx : Chunk)) w0 w' ∧ e = .returned (.tuple #[]) ∧ Chunk.holds w' M (Chunk.own' (.own bM 51 sv r : Chunk)) (.own bM 51 sv r : Chunk) ∧ (∀ b, Chunk.own' (.own bM 51 sv r : Chunk) b → b < w0.heap.size → Chunk.own' (.own bM 51 sv sx : Chunk) b)) := by
 refine aH (args := [sv, (.pointer (some ⟨bq, 0, none⟩))]) Tryz.func50 rfl Tryz.ntmps50 (bB rfl) ?_
 have h := SH.Eb hM hC hap
 replace h := h.xC 3 (cs := [(.map (some bm))]) hbq nbq yG
 have nbqK := nbq
 have Xi := nbm
 generalize Iw : (.own bM 51 sv sx : Chunk).own' = K0 at h nbqK Xi
 refine nG (aa (ag (v := sv) rfl) (aa (bC dz rfl (h.dE 1 rfl)) (aa (ag (v := (I6 0)) rfl) (nN (aI ?_)))))
 have hli6 := (h.dE 1 rfl).bG
 refine fe (σ := Nat × Int × List Val) (inl ([3, 4] ++ rg 7 17)) (fun ⟨k5, i6, x4⟩ => [(7, (I6 i6))]) (fun ⟨k5, i6, x4⟩ w => SH w0 M K0 w (hset [(1, .own bM 51 sv x4), (2, .no), (3, .pt bq 0 [(.map (some bm))])]) ∧ i6 = (k5 : Int) ∧ upto (zK mL) CF i6 (((sx.length : Int)).toNat - k5) x4 = some r) (fun ⟨k5, i6, x4⟩ => ((sx.length : Int)).toNat - k5) ⟨0, 0, sx⟩ ⟨rfl, trivial⟩ ?_ ?_
 exact ⟨h.cn _, rfl, hs⟩
 rintro ⟨k5, i6, x4⟩ w cZ ⟨h, hik, hs⟩
 refine nG ?_
 refine aa (dm rfl rfl) (nN ?_)
 refine aK (gF rfl (fun e10 => ?_) (fun e10 => ?_))
 refine aF (aj ?_)
 rw [pW (by have := nX e10; omega)] at hs
 generalize Pf : upto (zK mL) CF (i6 + 1) (((sx.length : Int)).toNat - (k5 + 1)) = DT at hs
 have Pg : jg (i6 + 1) := (by have := nX e10; have := hli6; exact jg.mk (by omega) (by omega))
 refine bQ (σ := List Val) (inl ([3, 4] ++ rg 9 14)) (fun Ir => []) (fun Ir w => SH w0 M K0 w (hset [(1, .own bM 51 sv Ir), (2, .no), (3, .pt bq 0 [(.map (some bm))])]) ∧ zJ DT Ir = some r) ?_ ?_
 rintro Ir w cZ ⟨h, hs⟩
 refine az (aa (bU rfl rfl Pg) (aa (ag (v := (I6 ((i6 + 1)))) rfl) (aB (ak ?_))))
 subst Pf
 exact iW ⟨k5 + 1, i6 + 1, Ir⟩ ⟨h.cn _, by omega, hs⟩ (by have := nX e10; dsimp only; omega)
 refine aI (nG (aa (ag (v := (I6 i6)) rfl) ?_))
 obtain ⟨BL, e14, hs⟩ := aJ hs
 obtain ⟨b16, q17, i15⟩ := h.II 1 rfl dz rfl (aU e14).1 (aU e14).2
 refine aa (i15 _ _ _ _ _ _ _ _ _ rfl rfl) ?_
 obtain ⟨cs18, m19, Pw⟩ := h.NT 1 rfl q17 (aU e14).2
 obtain rfl := Pw
 refine aa (Cg (k := 0) (vs := [(I6 BL.kind), (I6 BL.n)]) m19 ik rfl rfl rfl (bB rfl)) (bL h 4 ik fun w FE h => aa (ae (v := (I6 i6)) rfl) (dS (vs := [(I6 BL.kind), (I6 BL.n)]) h 4 [(I6 BL.kind), (I6 BL.n)] rfl ik rfl rfl rfl rfl rfl (ai rfl (ai rfl aZ)) fun w h => nJ (aa (ah Bq rfl) (aa (aC h 4 rfl aS rfl rfl) (aa (bH rfl rfl) (nN (aG hs rfl (fun c22 hs => ?_) (fun c22 hs => ?_))))))))
 refine az (aa (ag (v := sv) rfl) (aa (ag (v := (I6 i6)) rfl) (aa (dY (k := 0) h 3 rfl Mc rfl rfl) (aa (ah nU rfl) (aa (aC h 4 rfl aS rfl rfl) (aa (TR (f := (fun x => Value.int .i64 x)) (zz := (0 : Int)) mL ((hbm).keep h.keep Xi) Ma rfl rfl rfl) ?_))))))
 obtain ⟨WJ, q25, i23⟩ := h.II 1 rfl dz rfl (aU e14).1 (aU e14).2
 refine aa (i23 _ _ _ _ _ _ _ _ _ rfl rfl) (aa (ah nU rfl) (Oj (a' := { BL with n := ((lk BL.n mL).getD (0 : Int)) }) h 1 rfl q25 rfl (aU e14).2 aS rfl rfl rfl rfl (by rintro _ rfl; rfl) fun w h => aB (au (ak ?_))))
 exact bO (x4.set (i6).toNat { BL with n := ((lk BL.n mL).getD (0 : Int)) }) ⟨h.cn _, hs⟩
 refine aF (au (ak ?_))
 exact bO x4 ⟨h.cn _, hs⟩
 rw [pX (by have := of_decide_eq_false e10; omega)] at hs
 refine jd (bK (bK (eF (IB Tryz.results50 ?_))))
 obtain rfl := gM hs
 subst Iw
 obtain ⟨o1, o2, o3⟩ := h.Ah 1 (C := (.own bM 51 sv x4 : Chunk)) rfl trivial
 exact ⟨o2, rfl, o1, o3⟩
def tN (xu : List (Int × Int)) (i127 : Int) (CG : List (List Val)) (SS : List (List Val) → Option LX.State) : Option LX.State :=
  (idx CG i127).bind fun Al => (EG Al xu).bind fun P9 => SS (CG.set (i127).toNat P9)
def uL (Dh : List LX.Frame) (rP : LX.State) (CG : List (List Val)) : Option LX.State :=
  some (⟨Dh, CG, rP.status, rP.bN⟩ : LX.State)
def ru (xu : List (Int × Int)) (i99 : Int) (Dh : List LX.Frame) (SV : List LX.Frame → Option LX.State) : Option LX.State :=
  (idx Dh i99).bind fun x105 => (EG x105.regs xu).bind fun CE => SV (Dh.set (i99).toNat ({ x105 with regs := CE }))
def uM (xu : List (Int × Int)) (rP : LX.State) (Ba : List (List Val)) (Dh : List LX.Frame) : Option LX.State :=
  upto (tN xu) (uL Dh rP) 0 ((Ba.length : Int)).toNat Ba
def mU (rP : LX.State) (i67 : Int) (Qa : Int) (s : List (List Val) × List Int × List (Int × Int)) (Xj : List (List Val) × List Int × List (Int × Int) → Option LX.State) : Option LX.State :=
  match s with | (Ba, N7, xu) => (idx rP.cells Qa).bind fun SX => gD (Qa ∉ N7) (gD (Room 24 Ba [SX]) (Xj ((Ba ++ [SX]), (N7 ++ [Qa]), (xD Qa i67 xu))))
def o7 (rP : LX.State) (s : List (List Val) × List Int × List (Int × Int)) : Option LX.State :=
  match s with | (Ba, N7, xu) => upto (ru xu) (uM xu rP Ba) 0 ((rP.frames.length : Int)).toNat rP.frames
def o8 (BL : LX.Frame) (yn : List Val) (Xk : List Val → Option LX.State) : Option LX.State :=
  gD (Room 16 yn BL.regs) (Xk (yn ++ BL.regs))
def uN (N : Nat) (a : LX.State) (yn : List Val) : Option LX.State :=
  (xU N a.cells yn).bind fun y28 => bif decide ((y28.2 : Int) ≠ 0) then none else (DX a).bind fun rP => eU (mU rP) (o7 rP) 0 y28.1 ([], ([] : List Int), ([] : List (Int × Int)))
def tO (N : Nat) (a : LX.State) : Option LX.State :=
  each o8 (uN N a) a.frames []
theorem xV (N : Nat) (w0 : World) (M : BS) (hM : ∀ b, M b → b < w0.heap.size) (a : LX.State) (Bb BI : Value) (ha0 : eY eG w0 BE M Bb a.frames) (ha1 : eY (oN bM) w0 BE M BI a.cells) (r : LX.State) (hs : tO N a = some r) :
    Calls Tryz.prog 20 #[(.agg #[Bb, BI, (I6 a.status), (I6 a.bN)])] w0 (fun e w' => Grow w0 w' ∧ ∃ wU, ∃ Aw, ∃ BH, ∃ K4, e = .returned (.agg #[wU, Aw, .int .i64 r.status, .int .i64 r.bN]) ∧ Chunk.holds w' M (Chunk.own' ((cU wU Aw r.frames BH r.cells K4) : Chunk)) ((cU wU Aw r.frames BH r.cells K4) : Chunk) ∧ (∀ b, Chunk.own' ((cU wU Aw r.frames BH r.cells K4) : Chunk) b → w0.heap.size ≤ b)) := by
 refine aH (args := [(.agg #[Bb, BI, (I6 a.status), (I6 a.bN)])]) Tryz.func20 rfl Tryz.ntmps20 (bB rfl) ?_
 have h := SH.init hM
 replace h := h.dR 1 ha0 aT
 replace h := h.dR 2 ha1 (bA aT)
 refine nG (ql (cs := [Bb, BI, (I6 a.status), (I6 a.bN)]) h 3 rfl rfl fun w b1 h => bL h 4 cO fun w b2 h => nJ (aa (ae (v := (.slice none 0 0)) rfl) (nK (aa (ah kG rfl) (aa (aC h 3 rfl qJ rfl rfl) (aa (bC fB rfl (h.fT 1 rfl)) (aa (ag (v := (I6 0)) rfl) (nN (aI ?_)))))))))
 replace h := h.vS (R := bM) (E := 51) 8
 refine fe (σ := Nat × Int × Value × List Val) (inl ([3, 5] ++ rg 20 9)) (fun ⟨k11, i12, v9, yn⟩ => [(3, v9), (20, (I6 i12))]) (fun ⟨k11, i12, v9, yn⟩ w => SH w0 M BE w (hset [(1, .sr eG Bb a.frames), (2, .sr (oN bM) BI a.cells), (3, .blk b1 [Bb, BI, (I6 a.status), (I6 a.bN)]), (4, .blk b2 [(.slice none 0 0), (.slice none 0 0), (I6 0), (I6 0)]), (8, .own bM 51 v9 yn)]) ∧ i12 = (k11 : Int) ∧ each o8 (uN N a) (a.frames.drop k11) yn = some r) (fun ⟨k11, i12, v9, yn⟩ => a.frames.length - k11) ⟨0, 0, (.slice none 0 0), []⟩ ⟨rfl, rfl, trivial⟩ ?_ ?_
 exact ⟨h.cn _, rfl, hs⟩
 rintro ⟨k11, i12, v9, yn⟩ w cZ ⟨h, hik, hs⟩
 refine nG ?_
 refine aa (dm rfl rfl) (nN ?_)
 refine aK (gF rfl (fun e16 => ?_) (fun e16 => ?_))
 refine aF (aj ?_)
 obtain ⟨BL, e17a, e17b⟩ := fH (hik ▸ e16)
 rw [e17b, cz] at hs
 generalize Xl : each o8 (uN N a) (a.frames.drop (k11 + 1)) = Xk at hs
 have e17r := fK ((h.fT 1 rfl)).bG hik e16
 refine aK (aI (nG ?_))
 obtain ⟨b19, o20, UX, h, UY, i18⟩ := h.xx 1 9 rfl fB rfl (ic hik) (fJ hik e17a)
 obtain ⟨u23, rfl, g24⟩ := sN UY
 replace h := h.bD 10 g24.up
 refine aa (i18 _ _ _ _ _ _ _ _ _ rfl rfl) (aa (iH (k := 0) (vs := [(I6 BL.proc), (I6 BL.at_), u23, (I6 BL.kL)]) h 9 rfl ja rfl rfl rfl (bB rfl)) (bL h 11 ja fun w b25 h => dS (vs := [(I6 BL.proc), (I6 BL.at_), u23, (I6 BL.kL)]) h 11 [(I6 BL.proc), (I6 BL.at_), u23, (I6 BL.kL)] rfl ja rfl rfl rfl rfl rfl (ai rfl (ai rfl (ai (h.fq 10 rfl).one (ai rfl aZ)))) fun w h => nN (az (aa (ag (v := v9) rfl) (aa (ah p9 rfl) (aa (aC h 11 rfl pM rfl rfl) ?_))))))
 obtain ⟨a26, hs⟩ := aW hs
 refine jm (R := bM) (m := BL.regs) h 8 rfl (h.mY 10 rfl) wE rfl rfl rfl a26.1 a26.2 fun w u27 h => aa (ae (v := u27) rfl) (aB (au (aj (az (aa (bU rfl rfl e17r) (aa (ag (v := (I6 ((i12 + 1)))) rfl) (aB (ak ?_))))))))
 subst Xl
 exact iW ⟨k11 + 1, i12 + 1, u27, (yn ++ BL.regs)⟩ ⟨h.cn _, by omega, hs⟩ (by have := nX e16; dsimp only; omega)
 rw [fI (hik ▸ e16), fw] at hs
 refine nE (aa (ah kH rfl) (aa (aC h 3 rfl oh rfl rfl) (aa (ag (v := v9) rfl) ?_)))
 obtain ⟨y28, e29, hs⟩ := aJ hs
 refine aM Ub rfl rfl (Ib N _ _ h.lt BI a.cells (h.fT 2 rfl) v9 yn (h.dE 8 rfl) _ e29) ?_
 rintro _ w ⟨NY, u30, rfl, g31, UL⟩
 refine ⟨_, rfl, ?_⟩
 replace h := h.jv 12 NY g31 UL
 refine aa (ag (v := (.tuple #[u30, (I6 y28.2)])) rfl) (aa (bz rfl rfl) (aa (bz rfl rfl) (aa (ae (v := u30) rfl) (aa (ae (v := (I6 y28.2)) rfl) (nK (aa (ag (v := (I6 y28.2)) rfl) (aa (iK rfl rfl) (nN (aG hs rfl (fun c34 hs => ?_) (fun c34 hs => ?_))))))))))
 refine nG (aa (fu (vs := [Bb, BI, (I6 a.status), (I6 a.bN)]) h 3 rfl cO rfl rfl rfl) (dS (vs := [Bb, BI, (I6 a.status), (I6 a.bN)]) h 4 [Bb, BI, (I6 a.status), (I6 a.bN)] rfl cO rfl rfl rfl rfl rfl (ai (h.Mv 1 rfl).one (ai (h.Mv 2 rfl).one (ai rfl (ai rfl aZ)))) fun w h => nR (ax ?_)))
 cases hs
 refine nS (aa (fu (vs := [Bb, BI, (I6 a.status), (I6 a.bN)]) h 3 rfl cO rfl rfl rfl) ?_)
 obtain ⟨rP, e36, hs⟩ := aJ hs
 refine aM Uc rfl rfl (Nk _ _ h.lt a Bb BI (h.fT 1 rfl) (h.fT 2 rfl) _ e36) ?_
 rintro _ w ⟨Z9, u37, QU, Ic, K6, rfl, h41, h42⟩
 refine ⟨_, rfl, ?_⟩
 replace h := h.IZ 13 (C := (cU u37 QU rP.frames Ic rP.cells K6)) Z9 ⟨⟨⟨trivial, trivial⟩, trivial⟩, trivial⟩ h41 h42
 replace h := h.iX 13 16 (by decide) rfl rfl
 replace h := h.iX 13 15 (by decide) rfl rfl
 replace h := h.iX 13 14 (by decide) rfl rfl
 refine dS (vs := [u37, QU, (I6 rP.status), (I6 rP.bN)]) h 3 [u37, QU, (I6 rP.status), (I6 rP.bN)] rfl cO rfl rfl rfl rfl rfl (ai (h.fD 13 rfl).one (ai (h.fD 15 rfl).one (ai rfl (ai rfl aZ)))) fun w h => nJ (zo h 17 fun w QS h => nZ h 18 Mc fun w QT h => dV h 18 [(.map (some QS))] rfl Mc rfl rfl rfl rfl rfl fun w h => nJ (aa (ae (v := (.slice none 0 0)) rfl) (nK (aa (ag (v := u30) rfl) (aa (bC bP rfl (h.dE 12 rfl)) (aa (ag (v := (I6 0)) rfl) (nN (aI ?_))))))))
 replace h := h.freeze 12 rfl
 replace h := h.TN 16 rfl
 replace h := h.vS (R := (iI Val).raw) (E := 47) 25
 replace h := h.TK (R := bM) (Es := 51) 26
 refine fe (σ := Nat × Int × Value × List Value × List (List Val) × List Int × List (Int × Int)) (inl ([9, 10, 11] ++ rg 44 17)) (fun ⟨SY, i67, v61, DF, Ba, N7, xu⟩ => [(9, v61), (44, (I6 i67))]) (fun ⟨SY, i67, v61, DF, Ba, N7, xu⟩ w => SH w0 M BE w (hset [(3, .blk b1 [u37, QU, (I6 rP.status), (I6 rP.bN)]), (4, .blk b2 [(.slice none 0 0), (.slice none 0 0), (I6 0), (I6 0)]), (12, .rd cu u30 y28.1), (13, .own gN.raw 49 u37 (List.zip rP.frames Ic)), (14, .gZ (dM bM 51 hn Ic (List.map gN.sub rP.frames))), (15, .own (iI Val).raw 47 QU (List.zip rP.cells K6)), (16, .gZ (dM bM 51 (hmv N7) K6 (List.map (iI Val).sub rP.cells))), (17, .mp QS (List.map (fun p => (p.1, (fun x => Value.int .i64 x) p.2)) xu)), (18, .blk QT [(.map (some QS))]), (25, .own (iI Val).raw 47 v61 (List.zip Ba DF)), (26, .gZ (dM bM 51 hn DF (List.map (iI Val).sub Ba)))]) ∧ i67 = (SY : Int) ∧ eU (mU rP) (o7 rP) i67 (y28.1.drop SY) (Ba, N7, xu) = some r) (fun ⟨SY, i67, v61, DF, Ba, N7, xu⟩ => y28.1.length - SY) ⟨0, 0, (.slice none 0 0), ([] : List Value), [], ([] : List Int), ([] : List (Int × Int))⟩ ⟨rfl, rfl, trivial⟩ ?_ ?_
 exact ⟨h.cn _, rfl, hs⟩
 rintro ⟨SY, i67, v61, DF, Ba, N7, xu⟩ w cZ ⟨h, hik, hs⟩
 refine nG ?_
 refine aa (dm rfl rfl) (nN ?_)
 refine aK (gF rfl (fun RN => ?_) (fun RN => ?_))
 refine aF (aj ?_)
 obtain ⟨Qa, e72a, e72b⟩ := fH (hik ▸ RN)
 rw [e72b, jh] at hs
 generalize Xm : eU (mU rP) (o7 rP) (i67 + 1) (y28.1.drop (SY + 1)) = Xj at hs
 have e72r := fK ((h.mY 12 rfl)).bG hik RN
 refine aK (aI (nG (aa (ag (v := (I6 i67)) rfl) ?_)))
 obtain ⟨b74, o75, cs76, h, r77, i73⟩ := h.FU 12 27 rfl bP rfl (ic hik) (fJ hik e72a)
 obtain rfl := r77
 refine aa (i73 _ _ _ _ _ _ _ _ _ rfl rfl) (aa (dY (k := 0) h 27 rfl aS rfl rfl) (aa (ae (v := (I6 i67)) rfl) (aa (ae (v := (I6 Qa)) rfl) (nJ (aa (aC h 18 rfl Mc rfl rfl) (aa (ag (v := (I6 Qa)) rfl) (aa (ag (v := (I6 i67)) rfl) (yA (nT := (List.map (fun p => (p.1, (fun x => Value.int .i64 x) p.2)) (xD Qa i67 xu))) h 17 rfl Ma rfl rfl rfl (zw (f := (fun x => Value.int .i64 x)) _) fun w h => nN (az (aa (ag (v := v61) rfl) (aa (ah kH rfl) (aa (aC h 3 rfl oh rfl rfl) (aa (ag (v := (I6 Qa)) rfl) ?_)))))))))))))
 obtain ⟨SX, Xn, hs⟩ := aJ hs
 obtain ⟨a83, hs⟩ := aW hs
 obtain ⟨Xo, e85, h⟩ := h.Ri 16 28 SX rfl rfl (by decide) (aU Xn).1 (aU Xn).2 a83 rfl
 obtain ⟨b81, q82, i80⟩ := h.II 15 rfl eZ rfl (aU Xn).1 (mo (aU Xn).2 e85)
 refine aa (i80 _ _ _ _ _ _ _ _ _ rfl rfl) ?_
 obtain ⟨cs86, m87, r88⟩ := h.NT 15 rfl q82 (mo (aU Xn).2 e85)
 obtain ⟨rfl, -⟩ := r88
 refine aa (CZ (k := 0) m87 pM rfl rfl) ?_
 have Xp : (Value.oneCell' Xo) = true := (h.fD 28 rfl).one
 refine pK (R := (iI Val).raw) (vs := [Xo]) (xs := List.zip [SX] [Xo]) h 29 ng rfl rfl rfl ⟨⟨nA Xp, Xp⟩, trivial⟩ rfl fun w Xq h => ?_
 replace h := h.Q9 (N := (iI Val)) 28 SX rfl rfl
 obtain ⟨a90, hs⟩ := aW hs
 have z92 := h.pz 26 rfl
 have Xr := h.pz 28 rfl
 refine jm (R := (iI Val).raw) (m := List.zip [SX] [Xo]) h 25 rfl (h.dE 29 rfl) ng rfl rfl rfl (by rw [qI z92, qI Xr]; exact a90.1) (by rw [qI z92, qI Xr]; exact a90.2) fun w Ux h => ?_
 replace h := (h.Q7 26 28 rfl rfl (by decide)).rJ 29
 rw [Q8 z92, ← List.map_append] at h
 obtain ⟨us93, Xt⟩ : ∃ z, z = DF ++ [Xo] := ⟨_, rfl⟩
 rw [← Xt] at h
 refine aa (ae (v := Ux) rfl) (aB (au (aj (az (aa (bU rfl rfl e72r) (aa (ag (v := (I6 ((i67 + 1)))) rfl) (aB (ak ?_))))))))
 subst Xm
 exact iW ⟨SY + 1, i67 + 1, Ux, us93, (Ba ++ [SX]), (N7 ++ [Qa]), (xD Qa i67 xu)⟩ ⟨h.cn _, by omega, hs⟩ (by have := nX RN; dsimp only; omega)
 rw [fI (hik ▸ RN), oO] at hs
 refine nE (aa (qc (c1 := []) (c2 := [(.pointer (some ⟨QT, 0, none⟩))]) rfl rfl) (aa (ae (v := (.func (.func 50) #[] #[(.pointer (some ⟨QT, 0, none⟩))])) rfl) (nK (aa (ah kG rfl) (aa (aC h 3 rfl qJ rfl rfl) (aa (yF (N := gN) fB rfl (h.dE 13 rfl) (h.pz 14 rfl)) (aa (ag (v := (I6 0)) rfl) (nN (aI ?_)))))))))
 have Xu := El (h.dE 13 rfl) (h.pz 14 rfl)
 refine fe (σ := Nat × Int × List LX.Frame) (inl ([14] ++ rg 65 9)) (fun ⟨S9, i99, Dh⟩ => [(65, (I6 i99))]) (fun ⟨S9, i99, Dh⟩ w => SH w0 M BE w (hset [(3, .blk b1 [u37, QU, (I6 rP.status), (I6 rP.bN)]), (4, .blk b2 [(.slice none 0 0), (.slice none 0 0), (I6 0), (I6 0)]), (13, .own gN.raw 49 u37 (List.zip Dh Ic)), (14, .gZ (dM bM 51 hn Ic (List.map gN.sub Dh))), (15, .own (iI Val).raw 47 QU (List.zip rP.cells K6)), (16, .gZ (dM bM 51 (hmv N7) K6 (List.map (iI Val).sub rP.cells))), (17, .mp QS (List.map (fun p => (p.1, (fun x => Value.int .i64 x) p.2)) xu)), (18, .blk QT [(.map (some QS))]), (25, .own (iI Val).raw 47 v61 (List.zip Ba DF)), (26, .gZ (dM bM 51 hn DF (List.map (iI Val).sub Ba)))]) ∧ i99 = (S9 : Int) ∧ upto (ru xu) (uM xu rP Ba) i99 (((rP.frames.length : Int)).toNat - S9) Dh = some r) (fun ⟨S9, i99, Dh⟩ => ((rP.frames.length : Int)).toNat - S9) ⟨0, 0, rP.frames⟩ ⟨rfl, trivial⟩ ?_ ?_
 exact ⟨h.cn _, rfl, hs⟩
 rintro ⟨S9, i99, Dh⟩ w cZ ⟨h, hik, hs⟩
 refine nG ?_
 refine aa (dm rfl rfl) (nN ?_)
 refine aK (gF rfl (fun Qb => ?_) (fun Qb => ?_))
 refine aF (aj ?_)
 rw [pW (by have := nX Qb; omega)] at hs
 generalize UZ : upto (ru xu) (uM xu rP Ba) (i99 + 1) (((rP.frames.length : Int)).toNat - (S9 + 1)) = SV at hs
 have Xv : jg (i99 + 1) := (by have := nX Qb; have := Xu; exact jg.mk (by omega) (by omega))
 refine aK (aI (nG ?_))
 obtain ⟨x105, Qc, hs⟩ := aJ hs
 obtain ⟨K7, U0, h⟩ := h.DL 14 30 x105.regs rfl rfl (by decide) (aU Qc).2 rfl
 obtain ⟨b108, q109, i107⟩ := h.II 13 rfl fB rfl (aU Qc).1 (mo (aU Qc).2 U0)
 refine aa (i107 _ _ _ _ _ _ _ _ _ rfl rfl) ?_
 obtain ⟨cs112, m113, r114⟩ := h.NT 13 rfl q109 (mo (aU Qc).2 U0)
 obtain ⟨rfl, -⟩ := r114
 refine aa (Cg (k := 0) (vs := [(I6 x105.proc), (I6 x105.at_), K7, (I6 x105.kL)]) m113 ja rfl rfl rfl (bB rfl)) (bL h 31 ja fun w b115 h => dS (vs := [(I6 x105.proc), (I6 x105.at_), K7, (I6 x105.kL)]) h 31 [(I6 x105.proc), (I6 x105.at_), K7, (I6 x105.kL)] rfl ja rfl rfl rfl rfl rfl (ai rfl (ai rfl (ai (h.fD 30 rfl).one (ai rfl aZ)))) fun w h => nN (az (aa (ag (v := (.func (.func 50) #[] #[(.pointer (some ⟨QT, 0, none⟩))])) rfl) (aa (ah p9 rfl) (aa (aC h 31 rfl pM rfl rfl) ?_)))))
 obtain ⟨l116a, l116b, Xw⟩ := h.mf 30 (C := (.own bM 51 K7 x105.regs : Chunk)) rfl trivial
 obtain ⟨CE, e118, hs⟩ := aJ hs
 refine aM OW rfl rfl (JA _ _ Xw QT QS K7 x105.regs l116a l116b xu (h.Kc 17 rfl) (fun hb => h.apart 30 17 (by decide) _ hb rfl) (h.pJ 18 rfl) (fun hb => h.apart 30 18 (by decide) _ hb rfl) _ e118) ?_
 rintro _ w ⟨k119, rfl, h120, h121⟩
 refine ⟨_, rfl, ?_⟩
 replace h := h.back 30 (C := (.own bM 51 K7 x105.regs : Chunk)) (C' := (.own bM 51 K7 CE : Chunk)) rfl trivial h120 k119 h121
 refine aB (au (aj (az (aa (bU rfl rfl Xv) (aa (ag (v := (I6 ((i99 + 1)))) rfl) (aB ?_))))))
 replace h := h.LU 13 14 30 ({ x105 with regs := CE }) rfl rfl rfl (by decide) (by decide) (by decide) (aU Qc).2 U0 rfl
 refine ak ?_
 subst UZ
 exact iW ⟨S9 + 1, i99 + 1, (Dh.set (i99).toNat ({ x105 with regs := CE }))⟩ ⟨h.cn _, by omega, hs⟩ (by have := nX Qb; dsimp only; omega)
 rw [pX (by have := of_decide_eq_false Qb; omega)] at hs
 refine jd (bK (bK (eF (aj (aK (nG (aa (ag (v := v61) rfl) (aa (yF (N := (iI Val)) eZ rfl (h.dE 25 rfl) (h.pz 26 rfl)) (aa (ag (v := (I6 0)) rfl) (nN (aI ?_)))))))))))
 have U1 := El (h.dE 25 rfl) (h.pz 26 rfl)
 refine fe (σ := Nat × Int × List (List Val)) (inl ([16] ++ rg 76 8)) (fun ⟨JB, i127, CG⟩ => [(76, (I6 i127))]) (fun ⟨JB, i127, CG⟩ w => SH w0 M BE w (hset [(3, .blk b1 [u37, QU, (I6 rP.status), (I6 rP.bN)]), (4, .blk b2 [(.slice none 0 0), (.slice none 0 0), (I6 0), (I6 0)]), (13, .own gN.raw 49 u37 (List.zip Dh Ic)), (14, .gZ (dM bM 51 hn Ic (List.map gN.sub Dh))), (15, .own (iI Val).raw 47 QU (List.zip rP.cells K6)), (16, .gZ (dM bM 51 (hmv N7) K6 (List.map (iI Val).sub rP.cells))), (17, .mp QS (List.map (fun p => (p.1, (fun x => Value.int .i64 x) p.2)) xu)), (18, .blk QT [(.map (some QS))]), (25, .own (iI Val).raw 47 v61 (List.zip CG DF)), (26, .gZ (dM bM 51 hn DF (List.map (iI Val).sub CG)))]) ∧ i127 = (JB : Int) ∧ upto (tN xu) (uL Dh rP) i127 (((Ba.length : Int)).toNat - JB) CG = some r) (fun ⟨JB, i127, CG⟩ => ((Ba.length : Int)).toNat - JB) ⟨0, 0, Ba⟩ ⟨rfl, trivial⟩ ?_ ?_
 exact ⟨h.cn _, rfl, hs⟩
 rintro ⟨JB, i127, CG⟩ w cZ ⟨h, hik, hs⟩
 refine nG ?_
 refine aa (dm rfl rfl) (nN ?_)
 refine aK (gF rfl (fun Qd => ?_) (fun Qd => ?_))
 refine aF (aj ?_)
 rw [pW (by have := nX Qd; omega)] at hs
 generalize U2 : upto (tN xu) (uL Dh rP) (i127 + 1) (((Ba.length : Int)).toNat - (JB + 1)) = SS at hs
 have Xx : jg (i127 + 1) := (by have := nX Qd; have := U1; exact jg.mk (by omega) (by omega))
 refine aK (aI (nG ?_))
 obtain ⟨Al, Qe, hs⟩ := aJ hs
 obtain ⟨u138, Ng, h⟩ := h.DL 26 32 Al rfl rfl (by decide) (aU Qe).2 rfl
 obtain ⟨b136, q137, i135⟩ := h.II 25 rfl eZ rfl (aU Qe).1 (mo (aU Qe).2 Ng)
 refine aa (i135 _ _ _ _ _ _ _ _ _ rfl rfl) ?_
 obtain ⟨cs140, m141, r142⟩ := h.NT 25 rfl q137 (mo (aU Qe).2 Ng)
 obtain ⟨rfl, -⟩ := r142
 refine aa (CZ (k := 0) m141 pM rfl rfl) (aa (ae (v := u138) rfl) (nN (az (aa (ag (v := (.func (.func 50) #[] #[(.pointer (some ⟨QT, 0, none⟩))])) rfl) (aa (ag (v := u138) rfl) ?_)))))
 obtain ⟨Xy, Xz, XA⟩ := h.mf 32 (C := (.own bM 51 u138 Al : Chunk)) rfl trivial
 obtain ⟨P9, e145, hs⟩ := aJ hs
 refine aM OW rfl rfl (JA _ _ XA QT QS u138 Al Xy Xz xu (h.Kc 17 rfl) (fun hb => h.apart 32 17 (by decide) _ hb rfl) (h.pJ 18 rfl) (fun hb => h.apart 32 18 (by decide) _ hb rfl) _ e145) ?_
 rintro _ w ⟨k146, rfl, h147, h148⟩
 refine ⟨_, rfl, ?_⟩
 replace h := h.back 32 (C := (.own bM 51 u138 Al : Chunk)) (C' := (.own bM 51 u138 P9 : Chunk)) rfl trivial h147 k146 h148
 refine aB (au (aj (az (aa (bU rfl rfl Xx) (aa (ag (v := (I6 ((i127 + 1)))) rfl) (aB ?_))))))
 replace h := h.LU 25 26 32 P9 rfl rfl rfl (by decide) (by decide) (by decide) (aU Qe).2 Ng rfl
 refine ak ?_
 subst U2
 exact iW ⟨JB + 1, i127 + 1, (CG.set (i127).toNat P9)⟩ ⟨h.cn _, by omega, hs⟩ (by have := nX Qd; dsimp only; omega)
 rw [pX (by have := of_decide_eq_false Qd; omega)] at hs
 refine nE (aa (ag (v := v61) rfl) (aa (ah kH rfl) (dV h 3 [u37, v61, (I6 rP.status), (I6 rP.bN)] rfl oh rfl rfl rfl rfl (h.fD 25 rfl).one fun w h => nJ (aa (fu (vs := [u37, v61, (I6 rP.status), (I6 rP.bN)]) h 3 rfl cO rfl rfl rfl) (dS (vs := [u37, v61, (I6 rP.status), (I6 rP.bN)]) h 4 [u37, v61, (I6 rP.status), (I6 rP.bN)] rfl cO rfl rfl rfl rfl rfl (ai (h.fD 13 rfl).one (ai (h.fD 25 rfl).one (ai rfl (ai rfl aZ)))) fun w h => nR (Sy (vs := [u37, v61, (I6 rP.status), (I6 rP.bN)]) Tryz.results20 rfl h 4 rfl cO rfl ?_))))))
 replace h := h.pair 13 14 (by decide)
 replace h := h.pair 13 25 (by decide)
 replace h := h.pair 13 26 (by decide)
 obtain rfl := gM hs
 obtain ⟨o1, o2, o3⟩ := h.Ah 13 (C := (cU u37 v61 Dh Ic CG DF)) rfl ⟨⟨⟨trivial, trivial⟩, trivial⟩, trivial⟩
 exact ⟨o2, u37, v61, Ic, DF, rfl, o1, G7 o3⟩
end
end Go.Proofs.YtfclkapelkhlpaaGreatDoor
namespace Go.Proofs.YtfclkapelkhlpaaGreatDoor
open Go Go.Proofs Go.LX
noncomputable section
def lK (a : List Int) (b : List Int) (i3 : Int) (s : Unit) (Dw : Unit → Option Bool) : Option Bool :=
  (idx a i3).bind fun x9 => (idx b i3).bind fun lJ => bif decide ((x9 : Int) ≠ lJ) then some false else Dw ()
def pG (s : Unit) : Option Bool :=
  some true
def slices_Equal_int (a : List Int) (b : List Int) : Option Bool :=
  bif decide (((a.length : Int) : Int) ≠ (b.length : Int)) then some false else upto (lK a b) pG 0 ((a.length : Int)).toNat ()
theorem AA (w0 : World) (M : BS) (hM : ∀ b, M b → b < w0.heap.size) (va : Value) (a : List Int) (ha : eY cu w0 BE M va a) (vb : Value) (b : List Int) (hb : eY cu w0 BE M vb b) (r : Bool) (hs : slices_Equal_int a b = some r) :
    Calls Tryz.prog 18 #[va, vb] w0 (fun e w' => Grow w0 w' ∧ e = .returned (.bool r)) := by
 refine aH (args := [va, vb]) Tryz.func18 rfl Tryz.ntmps18 (bB rfl) ?_
 have h := SH.init hM
 replace h := h.dR 1 ha aT
 replace h := h.dR 2 hb (bA aT)
 have tZ := ha.bG
 have FB := hb.bG
 refine nG (aa (ae (v := (.bool (false))) rfl) (nK (aa (ag (v := va) rfl) (aa (bC bP rfl (h.fT 1 rfl)) (aa (ag (v := vb) rfl) (aa (bC bP rfl (h.fT 2 rfl)) (aa (iK rfl rfl) (nN (aG hs rfl (fun c1 hs => ?_) (fun c1 hs => ?_))))))))))
 refine nG (aa (ae (v := (.bool (false))) rfl) (nR (ax (bE (v := (.bool (false))) Tryz.results18 rfl ?_))))
 obtain rfl := gM hs
 exact ⟨h.grown, rfl⟩
 refine aF (aj (aK (nG (aa (ag (v := va) rfl) (aa (bC bP rfl (h.fT 1 rfl)) (aa (ag (v := (I6 0)) rfl) (nN (aI ?_))))))))
 have U3 := (h.fT 1 rfl).bG
 refine fe (σ := Nat × Int) (inl ([4, 5] ++ rg 13 13)) (fun ⟨k2, i3⟩ => [(13, (I6 i3))]) (fun ⟨k2, i3⟩ w => SH w0 M BE w (hset [(1, .sr cu va a), (2, .sr cu vb b)]) ∧ i3 = (k2 : Int) ∧ upto (lK a b) pG i3 (((a.length : Int)).toNat - k2) () = some r) (fun ⟨k2, i3⟩ => ((a.length : Int)).toNat - k2) ⟨0, 0⟩ ⟨rfl, trivial⟩ ?_ ?_
 exact ⟨h.cn _, rfl, hs⟩
 rintro ⟨k2, i3⟩ w cZ ⟨h, hik, hs⟩
 refine nG ?_
 refine aa (dm rfl rfl) (nN ?_)
 refine aK (gF rfl (fun e7 => ?_) (fun e7 => ?_))
 refine aF (aj ?_)
 rw [pW (by have := nX e7; omega)] at hs
 generalize Ep : upto (lK a b) pG (i3 + 1) (((a.length : Int)).toNat - (k2 + 1)) = Dw at hs
 have O6 : jg (i3 + 1) := (by have := nX e7; have := U3; exact jg.mk (by omega) (by omega))
 refine aK (aI (nG (aa (ag (v := (I6 i3)) rfl) (aa (ae (v := (I6 i3)) rfl) (nN (aK (D6 mixed (by kernel_rfl) h fun w h => dX (ag (v := va) rfl) (dX (ag (v := (I6 i3)) rfl) ?_))))))))
 obtain ⟨x9, e10, hs⟩ := aJ hs
 obtain ⟨b12, o13, W9, h, Xa, i11⟩ := h.xx 1 3 rfl bP rfl (aU e10).1 (aU e10).2
 obtain rfl := Xa
 refine dX (i11 _ _ _ _ _ _ _ _ _ rfl rfl) (dX (dY (k := 0) h 3 rfl aS rfl rfl) (dX (ag (v := vb) rfl) (dX (ag (v := (I6 i3)) rfl) ?_)))
 obtain ⟨lJ, e17, hs⟩ := aJ hs
 obtain ⟨b19, o20, UX, h, UY, i18⟩ := h.xx 2 4 rfl bP rfl (aU e17).1 (aU e17).2
 obtain rfl := UY
 refine dX (i18 _ _ _ _ _ _ _ _ _ rfl rfl) (dX (dY (k := 0) h 4 rfl aS rfl rfl) (dX (iK rfl rfl) (D7 (aj (aG hs rfl (fun c23 hs => ?_) (fun c23 hs => ?_))))))
 refine nG (aa (ae (v := (.bool (false))) rfl) (nR (aD (ax (ax (aD (ax (bE (v := (.bool (false))) Tryz.results18 rfl ?_))))))))
 obtain rfl := gM hs
 exact ⟨h.grown, rfl⟩
 refine aF (au (aj (az (aa (bU rfl rfl O6) (aa (ag (v := (I6 ((i3 + 1)))) rfl) (aB (ak ?_)))))))
 subst Ep
 exact iW ⟨k2 + 1, i3 + 1⟩ ⟨h.cn _, by omega, hs⟩ (by have := nX e7; dsimp only; omega)
 rw [pX (by have := of_decide_eq_false e7; omega)] at hs
 refine nE (aa (ae (v := (.bool (true))) rfl) (nR (bE (v := (.bool (true))) Tryz.results18 rfl ?_)))
 obtain rfl := gM hs
 exact ⟨h.grown, rfl⟩
def kK (a : List Val) (b : List Val) (i3 : Int) (s : Unit) (Dw : Unit → Option Bool) : Option Bool :=
  (idx a i3).bind fun x9 => (idx b i3).bind fun lJ => bif !(decide (x9.kind = lJ.kind) && decide (x9.n = lJ.n)) then some false else Dw ()
def nQ (s : Unit) : Option Bool :=
  some true
def iO (a : List Val) (b : List Val) : Option Bool :=
  bif decide (((a.length : Int) : Int) ≠ (b.length : Int)) then some false else upto (kK a b) nQ 0 ((a.length : Int)).toNat ()
theorem tQ (w0 : World) (M : BS) (hM : ∀ b, M b → b < w0.heap.size) (va : Value) (a : List Val) (ha : eY bM w0 BE M va a) (vb : Value) (b : List Val) (hb : eY bM w0 BE M vb b) (r : Bool) (hs : iO a b = some r) :
    Calls Tryz.prog 47 #[va, vb] w0 (fun e w' => Grow w0 w' ∧ e = .returned (.bool r)) := by
 refine aH (args := [va, vb]) Tryz.func47 rfl Tryz.ntmps47 (bB rfl) ?_
 have h := SH.init hM
 replace h := h.dR 1 ha aT
 replace h := h.dR 2 hb (bA aT)
 have tZ := ha.bG
 have FB := hb.bG
 refine nG (aa (ae (v := (.bool (false))) rfl) (nK (aa (ag (v := va) rfl) (aa (bC dz rfl (h.fT 1 rfl)) (aa (ag (v := vb) rfl) (aa (bC dz rfl (h.fT 2 rfl)) (aa (iK rfl rfl) (nN (aG hs rfl (fun c1 hs => ?_) (fun c1 hs => ?_))))))))))
 refine nG (aa (ae (v := (.bool (false))) rfl) (nR (ax (bE (v := (.bool (false))) Tryz.results47 rfl ?_))))
 obtain rfl := gM hs
 exact ⟨h.grown, rfl⟩
 refine aF (aj (aK (nG (aa (ag (v := va) rfl) (aa (bC dz rfl (h.fT 1 rfl)) (aa (ag (v := (I6 0)) rfl) (nN (aI ?_))))))))
 have U3 := (h.fT 1 rfl).bG
 refine fe (σ := Nat × Int) (inl ([4, 5] ++ rg 13 13)) (fun ⟨k2, i3⟩ => [(13, (I6 i3))]) (fun ⟨k2, i3⟩ w => SH w0 M BE w (hset [(1, .sr bM va a), (2, .sr bM vb b)]) ∧ i3 = (k2 : Int) ∧ upto (kK a b) nQ i3 (((a.length : Int)).toNat - k2) () = some r) (fun ⟨k2, i3⟩ => ((a.length : Int)).toNat - k2) ⟨0, 0⟩ ⟨rfl, trivial⟩ ?_ ?_
 exact ⟨h.cn _, rfl, hs⟩
 rintro ⟨k2, i3⟩ w cZ ⟨h, hik, hs⟩
 refine nG ?_
 refine aa (dm rfl rfl) (nN ?_)
 refine aK (gF rfl (fun e7 => ?_) (fun e7 => ?_))
 refine aF (aj ?_)
 rw [pW (by have := nX e7; omega)] at hs
 generalize Ep : upto (kK a b) nQ (i3 + 1) (((a.length : Int)).toNat - (k2 + 1)) = Dw at hs
 have O6 : jg (i3 + 1) := (by have := nX e7; have := U3; exact jg.mk (by omega) (by omega))
 refine aK (aI (nG (aa (ag (v := (I6 i3)) rfl) (aa (ae (v := (I6 i3)) rfl) (nN (aK (D6 mixed (by kernel_rfl) h fun w h => dX (ag (v := va) rfl) (dX (ag (v := (I6 i3)) rfl) ?_))))))))
 obtain ⟨x9, e10, hs⟩ := aJ hs
 obtain ⟨b12, o13, W9, h, Xa, i11⟩ := h.xx 1 3 rfl dz rfl (aU e10).1 (aU e10).2
 obtain rfl := Xa
 refine dX (i11 _ _ _ _ _ _ _ _ _ rfl rfl) (dX (iH (k := 0) (vs := [(I6 x9.kind), (I6 x9.n)]) h 3 rfl ik rfl rfl rfl (bB rfl)) (dX (ag (v := vb) rfl) (dX (ag (v := (I6 i3)) rfl) ?_)))
 obtain ⟨lJ, e17, hs⟩ := aJ hs
 obtain ⟨b19, o20, UX, h, UY, i18⟩ := h.xx 2 4 rfl dz rfl (aU e17).1 (aU e17).2
 obtain rfl := UY
 refine dX (i18 _ _ _ _ _ _ _ _ _ rfl rfl) (dX (iH (k := 0) (vs := [(I6 lJ.kind), (I6 lJ.n)]) h 4 rfl ik rfl rfl rfl (bB rfl)) (dX (Ty Rx rfl rfl) (D7 (aj (aG hs rfl (fun c23 hs => ?_) (fun c23 hs => ?_))))))
 refine nG (aa (ae (v := (.bool (false))) rfl) (nR (aD (ax (ax (aD (ax (bE (v := (.bool (false))) Tryz.results47 rfl ?_))))))))
 obtain rfl := gM hs
 exact ⟨h.grown, rfl⟩
 refine aF (au (aj (az (aa (bU rfl rfl O6) (aa (ag (v := (I6 ((i3 + 1)))) rfl) (aB (ak ?_)))))))
 subst Ep
 exact iW ⟨k2 + 1, i3 + 1⟩ ⟨h.cn _, by omega, hs⟩ (by have := nX e7; dsimp only; omega)
 rw [pX (by have := of_decide_eq_false e7; omega)] at hs
 refine nE (aa (ae (v := (.bool (true))) rfl) (nR (bE (v := (.bool (true))) Tryz.results47 rfl ?_)))
 obtain rfl := gM hs
 exact ⟨h.grown, rfl⟩
def uO (b : List (List Val)) (i3 : Int) (x4 : List Val) (s : Unit) (Dw : Unit → Option Bool) : Option Bool :=
  (idx b i3).bind fun lJ => (iO x4 lJ).bind fun y25 => bif (!y25) then some false else Dw ()
def xW (s : Unit) : Option Bool :=
  some true
def zL (a : List (List Val)) (b : List (List Val)) : Option Bool :=
  bif decide (((a.length : Int) : Int) ≠ (b.length : Int)) then some false else eU (uO b) xW 0 a ()
theorem JC (w0 : World) (M : BS) (hM : ∀ b, M b → b < w0.heap.size) (va : Value) (a : List (List Val)) (ha : eY (oN bM) w0 BE M va a) (vb : Value) (b : List (List Val)) (hb : eY (oN bM) w0 BE M vb b) (r : Bool) (hs : zL a b = some r) :
    Calls Tryz.prog 44 #[va, vb] w0 (fun e w' => Grow w0 w' ∧ e = .returned (.bool r)) := by
 refine aH (args := [va, vb]) Tryz.func44 rfl Tryz.ntmps44 (bB rfl) ?_
 have h := SH.init hM
 replace h := h.dR 1 ha aT
 replace h := h.dR 2 hb (bA aT)
 have tZ := ha.bG
 have FB := hb.bG
 refine nG (aa (ae (v := (.bool (false))) rfl) (nJ (aa (ag (v := va) rfl) (aa (ag (v := vb) rfl) (jo (args := [va, vb, (.func (.func 79) #[] #[])]) Ug rfl rfl (aH (args := [va, vb, (.func (.func 79) #[] #[])]) Tryz.func78 rfl Tryz.ntmps78 (bB rfl) (nG (aa (ae (v := (.bool (false))) rfl) (nK (aa (ag (v := va) rfl) (aa (bC eZ rfl (h.fT 1 rfl)) (aa (ag (v := vb) rfl) (aa (bC eZ rfl (h.fT 2 rfl)) (aa (iK rfl rfl) ?_))))))))))))))
 refine nN (aG hs rfl (fun c1 hs => ?_) (fun c1 hs => ?_))
 refine nG (aa (ae (v := (.bool (false))) rfl) (nR (ax (bE (v := (.bool (false))) Tryz.results78 rfl (⟨_, rfl, ?_⟩)))))
 refine aa (ae (v := (.bool (false))) rfl) (nR (bE (v := (.bool (false))) Tryz.results44 rfl ?_))
 obtain rfl := gM hs
 exact ⟨h.grown, rfl⟩
 refine aF (aj (aK (nG (aa (ag (v := va) rfl) (aa (bC eZ rfl (h.fT 1 rfl)) (aa (ag (v := (I6 0)) rfl) (nN (aI (fe (σ := Nat × Int) (inl ([6, 7, 8, 9] ++ rg 17 15)) (fun ⟨k2, i3⟩ => [(17, (I6 i3))]) (fun ⟨k2, i3⟩ w => SH w0 M BE w (hset [(1, .sr (oN bM) va a), (2, .sr (oN bM) vb b)]) ∧ i3 = (k2 : Int) ∧ eU (uO b) xW i3 (a.drop k2) () = some r) (fun ⟨k2, i3⟩ => a.length - k2) ⟨0, 0⟩ ⟨rfl, trivial⟩ ?_ ?_)))))))))
 exact ⟨h.cn _, rfl, hs⟩
 rintro ⟨k2, i3⟩ w cZ ⟨h, hik, hs⟩
 refine nG ?_
 refine aa (dm rfl rfl) (nN ?_)
 refine aK (gF rfl (fun e7 => ?_) (fun e7 => ?_))
 refine aF (aj ?_)
 obtain ⟨x4, Uk, Ul⟩ := fH (hik ▸ e7)
 rw [Ul, jh] at hs
 generalize Ep : eU (uO b) xW (i3 + 1) (a.drop (k2 + 1)) = Dw at hs
 have O6 := fK ((h.fT 1 rfl)).bG hik e7
 refine aK (aI (nG (aa (ag (v := (I6 i3)) rfl) ?_)))
 obtain ⟨b10, YK, Um, h, Un, i9⟩ := h.xx 1 3 rfl eZ rfl (ic hik) (fJ hik Uk)
 obtain ⟨Gb, rfl, g15⟩ := Un
 replace h := h.bD 4 g15.up
 refine aa (i9 _ _ _ _ _ _ _ _ _ rfl rfl) (aa (dY (k := 0) h 3 rfl pM rfl rfl) (aa (ae (v := (I6 i3)) rfl) (aa (ae (v := Gb) rfl) (nJ (aa (ag (v := vb) rfl) (aa (ag (v := (I6 i3)) rfl) ?_))))))
 obtain ⟨lJ, e17, hs⟩ := aJ hs
 obtain ⟨b19, o20, UX, h, UY, i18⟩ := h.xx 2 5 rfl eZ rfl (aU e17).1 (aU e17).2
 obtain ⟨u23, rfl, g24⟩ := UY
 replace h := h.bD 6 g24.up
 refine aa (i18 _ _ _ _ _ _ _ _ _ rfl rfl) (aa (dY (k := 0) h 5 rfl pM rfl rfl) (aa (ae (v := u23) rfl) (nJ (aa (ag (v := (.func (.func 79) #[] #[])) rfl) (aa (ag (v := Gb) rfl) (aa (ag (v := u23) rfl) (jo (args := [Gb, u23]) Uh rfl rfl (aH (args := [Gb, u23]) Tryz.func79 rfl Tryz.ntmps79 (bB rfl) (nG (aa (ae (v := (.bool (false))) rfl) (nJ (aa (ag (v := Gb) rfl) (aa (ag (v := u23) rfl) ?_)))))))))))))
 obtain ⟨y25, e26, hs⟩ := aJ hs
 refine aM OV rfl rfl (tQ _ _ h.lt Gb x4 (h.mY 4 rfl) u23 lJ (h.mY 6 rfl) _ e26) ?_
 rintro _ w ⟨k27, rfl⟩
 refine ⟨_, rfl, ?_⟩
 replace h := h.grow k27
 refine aa (ae (v := (.bool (y25))) rfl) (nR (bE (v := (.bool (y25))) Tryz.results79 rfl (⟨_, rfl, ?_⟩)))
 refine aa (fU rfl) (nN (aG hs rfl (fun c28 hs => ?_) (fun c28 hs => ?_)))
 refine nG (aa (ae (v := (.bool (false))) rfl) (nR (aD (ax (ax (aD (ax (bE (v := (.bool (false))) Tryz.results78 rfl (⟨_, rfl, ?_⟩)))))))))
 refine aa (ae (v := (.bool (false))) rfl) (nR (bE (v := (.bool (false))) Tryz.results44 rfl ?_))
 obtain rfl := gM hs
 exact ⟨h.grown, rfl⟩
 refine aF (au (aj (az (aa (bU rfl rfl O6) (aa (ag (v := (I6 ((i3 + 1)))) rfl) (aB (ak ?_)))))))
 subst Ep
 exact iW ⟨k2 + 1, i3 + 1⟩ ⟨h.cn _, by omega, hs⟩ (by have := nX e7; dsimp only; omega)
 rw [fI (hik ▸ e7), oO] at hs
 refine nE (aa (ae (v := (.bool (true))) rfl) (nR (bE (v := (.bool (true))) Tryz.results78 rfl (⟨_, rfl, ?_⟩))))
 refine aa (ae (v := (.bool (true))) rfl) (nR (bE (v := (.bool (true))) Tryz.results44 rfl ?_))
 obtain rfl := gM hs
 exact ⟨h.grown, rfl⟩
def qA (lD : Unit → Option Bool) (x34 : Bool) : Option Bool :=
  bif x34 then some false else lD ()
def vP (b : LX.State) (i10 : Int) (dx : LX.Frame) (s : Unit) (lD : Unit → Option Bool) : Option Bool :=
  (idx b.frames i10).bind fun x24 => bif ((decide ((dx.proc : Int) = x24.proc) && decide ((dx.at_ : Int) = x24.at_)) && decide ((dx.kL : Int) = x24.kL)) then (iO dx.regs x24.regs).bind fun y39 => qA lD (!y39) else qA lD true
def yY (s : Unit) : Option Bool :=
  some true
def xX (a : LX.State) (b : LX.State) : Option Bool :=
  bif (decide ((a.status : Int) = b.status) && decide ((a.bN : Int) = b.bN)) then (zL a.cells b.cells).bind fun y4 => bif y4 then bif decide (((a.frames.length : Int) : Int) ≠ (b.frames.length : Int)) then some false else eU (vP b) yY 0 a.frames () else some false else some false
theorem CJ (w0 : World) (M : BS) (hM : ∀ b, M b → b < w0.heap.size) (a : LX.State) (Bb BI : Value) (ha0 : eY eG w0 BE M Bb a.frames) (ha1 : eY (oN bM) w0 BE M BI a.cells) (b : LX.State) (vb0 vb1 : Value) (hb0 : eY eG w0 BE M vb0 b.frames) (hb1 : eY (oN bM) w0 BE M vb1 b.cells) (r : Bool) (hs : xX a b = some r) :
    Calls Tryz.prog 19 #[(.agg #[Bb, BI, (I6 a.status), (I6 a.bN)]), (.agg #[vb0, vb1, (I6 b.status), (I6 b.bN)])] w0 (fun e w' => Grow w0 w' ∧ e = .returned (.bool r)) := by
 refine aH (args := [(.agg #[Bb, BI, (I6 a.status), (I6 a.bN)]), (.agg #[vb0, vb1, (I6 b.status), (I6 b.bN)])]) Tryz.func19 rfl Tryz.ntmps19 (bB rfl) ?_
 have h := SH.init hM
 replace h := h.dR 1 ha0 aT
 replace h := h.dR 2 ha1 (bA aT)
 replace h := h.dR 3 hb0 (bA (bA aT))
 replace h := h.dR 4 hb1 (bA (bA (bA aT)))
 refine nG (ql (cs := [Bb, BI, (I6 a.status), (I6 a.bN)]) h 5 rfl rfl fun w b1 h => ql (cs := [vb0, vb1, (I6 b.status), (I6 b.bN)]) h 6 rfl rfl fun w b2 h => aa (ae (v := (.bool (false))) rfl) (nJ (aa (ah vN rfl) (aa (aC h 5 rfl aS rfl rfl) (aa (ah vN rfl) (aa (aC h 6 rfl aS rfl rfl) (aa (bH rfl rfl) (aa (ag (v := (.bool (decide ((a.status : Int) = b.status)))) rfl) (aA rfl rfl (fun q => ah xE rfl) (aA rfl rfl (fun q => aC h 5 rfl aS (bZ q) rfl) (aA rfl rfl (fun q => ah xE rfl) (aA rfl rfl (fun q => aC h 6 rfl aS (bZ q) rfl) (aA rfl rfl (fun q => bH (bZ q) (bZ q)) (aa (gG rfl rfl mX) (aa (ag (v := (.bool ((decide ((a.status : Int) = b.status) && decide ((a.bN : Int) = b.bN))))) rfl) (mi (b := (decide ((a.status : Int) = b.status) && decide ((a.bN : Int) = b.bN))) hs (fun c3 hs => ?_) (fun c3 hs => ?_)))))))))))))))))
 refine dB rfl (cB c3) (aa (ah kH rfl) (dB rfl (cB c3) (aa (aC h 5 rfl oh rfl rfl) (dB rfl (cB c3) (aa (ah kH rfl) (dB rfl (cB c3) (aa (aC h 6 rfl oh rfl rfl) (dB rfl (cB c3) ?_))))))))
 obtain ⟨y4, e5, hs⟩ := aJ hs
 refine aM TZ rfl rfl (JC _ _ h.lt BI a.cells (h.fT 2 rfl) vb1 b.cells (h.fT 4 rfl) _ e5) ?_
 rintro _ w ⟨k6, rfl⟩
 refine ⟨_, rfl, ?_⟩
 replace h := h.grow k6
 refine aa (fo (b := true) (v := (.bool (y4))) (cB c3) rfl) (aa (ag (v := (.bool (y4))) rfl) (mi (b := y4) hs (fun c7 hs => ?_) (fun c7 hs => ?_)))
 refine dB rfl (cB c7) (aa (ah kG rfl) (dB rfl (cB c7) (aa (aC h 5 rfl qJ rfl rfl) (dB rfl (cB c7) (aa (ah kG rfl) (dB rfl (cB c7) (aa (aC h 6 rfl qJ rfl rfl) (dB rfl (cB c7) (jo (args := [Bb, vb0, (.func (.func 46) #[] #[])]) T9 rfl rfl (aH (args := [Bb, vb0, (.func (.func 46) #[] #[])]) Tryz.func45 rfl Tryz.ntmps45 (bB rfl) (nG (aa (ae (v := (.bool (false))) rfl) (nK (aa (ag (v := Bb) rfl) (aa (bC fB rfl (h.fT 1 rfl)) (aa (ag (v := vb0) rfl) (aa (bC fB rfl (h.fT 3 rfl)) (aa (iK rfl rfl) ?_))))))))))))))))))
 refine nN (aG hs rfl (fun c8 hs => ?_) (fun c8 hs => ?_))
 refine nG (aa (ae (v := (.bool (false))) rfl) (nR (ax (bE (v := (.bool (false))) Tryz.results45 rfl (⟨_, rfl, ?_⟩)))))
 refine aa (fo (b := true) (v := (.bool (false))) (cB c7) rfl) (aa (ae (v := (.bool (false))) rfl) (nR (bE (v := (.bool (false))) Tryz.results19 rfl ?_)))
 obtain rfl := gM hs
 exact ⟨h.grown, rfl⟩
 refine aF (aj (aK (nG (aa (ag (v := Bb) rfl) (aa (bC fB rfl (h.fT 1 rfl)) (aa (ag (v := (I6 0)) rfl) (nN (aI (fe (σ := Nat × Int) (inl ([6, 7, 8, 9] ++ rg 17 15)) (fun ⟨k9, i10⟩ => [(17, (I6 i10))]) (fun ⟨k9, i10⟩ w => SH w0 M BE w (hset [(1, .sr eG Bb a.frames), (3, .sr eG vb0 b.frames)]) ∧ i10 = (k9 : Int) ∧ eU (vP b) yY i10 (a.frames.drop k9) () = some r) (fun ⟨k9, i10⟩ => a.frames.length - k9) ⟨0, 0⟩ ⟨rfl, trivial⟩ ?_ ?_)))))))))
 exact ⟨h.cn _, rfl, hs⟩
 rintro ⟨k9, i10⟩ w cZ ⟨h, hik, hs⟩
 refine nG ?_
 refine aa (dm rfl rfl) (nN ?_)
 refine aK (gF rfl (fun e14 => ?_) (fun e14 => ?_))
 refine aF (aj ?_)
 obtain ⟨dx, Hr, Ht⟩ := fH (hik ▸ e14)
 rw [Ht, jh] at hs
 generalize BA : eU (vP b) yY (i10 + 1) (a.frames.drop (k9 + 1)) = lD at hs
 have Hu := fK ((h.fT 1 rfl)).bG hik e14
 refine aK (aI (nG (aa (ag (v := (I6 i10)) rfl) ?_)))
 obtain ⟨b17, Yc, RF, h, Pw, i16⟩ := h.xx 1 7 rfl fB rfl (ic hik) (fJ hik Hr)
 obtain ⟨u21, rfl, g22⟩ := sN Pw
 replace h := h.bD 8 g22.up
 refine aa (i16 _ _ _ _ _ _ _ _ _ rfl rfl) (aa (iH (k := 0) (vs := [(I6 dx.proc), (I6 dx.at_), u21, (I6 dx.kL)]) h 7 rfl ja rfl rfl rfl (bB rfl)) (bL h 9 ja fun w Aa h => aa (ae (v := (I6 i10)) rfl) (dS (vs := [(I6 dx.proc), (I6 dx.at_), u21, (I6 dx.kL)]) h 9 [(I6 dx.proc), (I6 dx.at_), u21, (I6 dx.kL)] rfl ja rfl rfl rfl rfl rfl (ai rfl (ai rfl (ai (h.fq 8 rfl).one (ai rfl aZ)))) fun w h => nJ (aa (ag (v := vb0) rfl) (aa (ag (v := (I6 i10)) rfl) ?_)))))
 obtain ⟨x24, e25, hs⟩ := aJ hs
 obtain ⟨b27, o28, cs29, h, WR, i26⟩ := h.xx 3 10 rfl fB rfl (aU e25).1 (aU e25).2
 obtain ⟨u31, rfl, UL⟩ := sN WR
 replace h := h.bD 11 UL.up
 refine aa (i26 _ _ _ _ _ _ _ _ _ rfl rfl) (aa (iH (k := 0) (vs := [(I6 x24.proc), (I6 x24.at_), u31, (I6 x24.kL)]) h 10 rfl ja rfl rfl rfl (bB rfl)) (bL h 12 ja fun w Vv h => dS (vs := [(I6 x24.proc), (I6 x24.at_), u31, (I6 x24.kL)]) h 12 [(I6 x24.proc), (I6 x24.at_), u31, (I6 x24.kL)] rfl ja rfl rfl rfl rfl rfl (ai rfl (ai rfl (ai (h.fq 11 rfl).one (ai rfl aZ)))) fun w h => nN (bQ (σ := Bool) (inl [26, 27, 28, 29, 30]) (fun x34 => [(30, (.bool (x34)))]) (fun x34 w => SH w0 M BE w (hset [(1, .sr eG Bb a.frames), (3, .sr eG vb0 b.frames)]) ∧ qA lD x34 = some r) ?_ ?_)))
 rintro x34 w cZ ⟨h, hs⟩
 refine aG hs rfl (fun Us hs => ?_) (fun Us hs => ?_)
 refine nG (aa (ae (v := (.bool (false))) rfl) (nR (aD (ax (ax (aD (ax (bE (v := (.bool (false))) Tryz.results45 rfl (⟨_, rfl, ?_⟩)))))))))
 refine aa (fo (b := true) (v := (.bool (false))) (cB c7) rfl) (aa (ae (v := (.bool (false))) rfl) (nR (bE (v := (.bool (false))) Tryz.results19 rfl ?_)))
 obtain rfl := gM hs
 exact ⟨h.grown, rfl⟩
 refine aF (au (aj (az (aa (bU rfl rfl Hu) (aa (ag (v := (I6 ((i10 + 1)))) rfl) (aB (ak ?_)))))))
 subst BA
 exact iW ⟨k9 + 1, i10 + 1⟩ ⟨h.cn _, by omega, hs⟩ (by have := nX e14; dsimp only; omega)
 refine az (aa (ag (v := (.func (.func 46) #[] #[])) rfl) (aa (fu (vs := [(I6 dx.proc), (I6 dx.at_), u21, (I6 dx.kL)]) h 9 rfl ja rfl rfl rfl) (aa (fu (vs := [(I6 x24.proc), (I6 x24.at_), u31, (I6 x24.kL)]) h 12 rfl ja rfl rfl rfl) (jo (args := [(.agg #[(I6 dx.proc), (I6 dx.at_), u21, (I6 dx.kL)]), (.agg #[(I6 x24.proc), (I6 x24.at_), u31, (I6 x24.kL)])]) Ua rfl rfl (aH (args := [(.agg #[(I6 dx.proc), (I6 dx.at_), u21, (I6 dx.kL)]), (.agg #[(I6 x24.proc), (I6 x24.at_), u31, (I6 x24.kL)])]) Tryz.func46 rfl Tryz.ntmps46 (bB rfl) (nG (ql (cs := [(I6 dx.proc), (I6 dx.at_), u21, (I6 dx.kL)]) h 13 rfl rfl fun w b36 h => ql (cs := [(I6 x24.proc), (I6 x24.at_), u31, (I6 x24.kL)]) h 14 rfl rfl fun w b37 h => aa (ae (v := (.bool (false))) rfl) (nJ (aa (ah xG rfl) (aa (aC h 13 rfl aS rfl rfl) (aa (ah xG rfl) (aa (aC h 14 rfl aS rfl rfl) (aa (bH rfl rfl) (aa (ag (v := (.bool (decide ((dx.proc : Int) = x24.proc)))) rfl) (aA rfl rfl (fun q => ah zx rfl) (aA rfl rfl (fun q => aC h 13 rfl aS (bZ q) rfl) (aA rfl rfl (fun q => ah zx rfl) ?_)))))))))))))))))
 refine aA rfl rfl (fun q => aC h 14 rfl aS (bZ q) rfl) (aA rfl rfl (fun q => bH (bZ q) (bZ q)) (aa (gG rfl rfl mX) (aa (ag (v := (.bool ((decide ((dx.proc : Int) = x24.proc) && decide ((dx.at_ : Int) = x24.at_))))) rfl) (aA rfl rfl (fun q => ah xH rfl) (aA rfl rfl (fun q => aC h 13 rfl aS (bZ q) rfl) (aA rfl rfl (fun q => ah xH rfl) (aA rfl rfl (fun q => aC h 14 rfl aS (bZ q) rfl) (aA rfl rfl (fun q => bH (bZ q) (bZ q)) (aa (gG rfl rfl mX) (aa (ag (v := (.bool (((decide ((dx.proc : Int) = x24.proc) && decide ((dx.at_ : Int) = x24.at_)) && decide ((dx.kL : Int) = x24.kL))))) rfl) (mi (b := ((decide ((dx.proc : Int) = x24.proc) && decide ((dx.at_ : Int) = x24.at_)) && decide ((dx.kL : Int) = x24.kL))) hs (fun Kv hs => ?_) (fun Kv hs => ?_))))))))))))
 refine dB rfl (cB Kv) (aa (ah p9 rfl) (dB rfl (cB Kv) (aa (aC h 13 rfl pM rfl rfl) (dB rfl (cB Kv) (aa (ah p9 rfl) (dB rfl (cB Kv) (aa (aC h 14 rfl pM rfl rfl) (dB rfl (cB Kv) ?_))))))))
 obtain ⟨y39, e40, hs⟩ := aJ hs
 refine aM OV rfl rfl (tQ _ _ h.lt u21 dx.regs (h.mY 8 rfl) u31 x24.regs (h.mY 11 rfl) _ e40) ?_
 rintro _ w ⟨Y2, rfl⟩
 refine ⟨_, rfl, ?_⟩
 replace h := h.grow Y2
 refine aa (fo (b := true) (v := (.bool (y39))) (cB Kv) rfl) (aa (ae (v := (.bool (y39))) rfl) (nR (bE (v := (.bool (y39))) Tryz.results46 rfl (⟨_, rfl, ?_⟩))))
 refine aa (fU rfl) (aB (ak ?_))
 exact bO (!y39) ⟨h.cn _, hs⟩
 refine uZ rfl (cB Kv) rfl (uZ rfl (cB Kv) rfl (uZ rfl (cB Kv) rfl (uZ rfl (cB Kv) rfl (uZ rfl (cB Kv) rfl (aa (fo (b := false) (v := (.bool (false))) (cB Kv) rfl) (aa (ae (v := (.bool (false))) rfl) (nR (bE (v := (.bool (false))) Tryz.results46 rfl (⟨_, rfl, ?_⟩)))))))))
 refine aa (fU rfl) (aB (ak ?_))
 exact bO true ⟨h.cn _, hs⟩
 rw [fI (hik ▸ e14), oO] at hs
 refine nE (aa (ae (v := (.bool (true))) rfl) (nR (bE (v := (.bool (true))) Tryz.results45 rfl (⟨_, rfl, ?_⟩))))
 refine aa (fo (b := true) (v := (.bool (true))) (cB c7) rfl) (aa (ae (v := (.bool (true))) rfl) (nR (bE (v := (.bool (true))) Tryz.results19 rfl ?_)))
 obtain rfl := gM hs
 exact ⟨h.grown, rfl⟩
 refine uZ rfl (cB c7) rfl (uZ rfl (cB c7) rfl (uZ rfl (cB c7) rfl (uZ rfl (cB c7) rfl (uZ rfl (cB c7) rfl (aa (fo (b := false) (v := (.bool (false))) (cB c7) rfl) (aa (ae (v := (.bool (false))) rfl) (nR (bE (v := (.bool (false))) Tryz.results19 rfl ?_))))))))
 obtain rfl := gM hs
 exact ⟨h.grown, rfl⟩
 refine uZ rfl (cB c3) rfl (uZ rfl (cB c3) rfl (uZ rfl (cB c3) rfl (uZ rfl (cB c3) rfl (uZ rfl (cB c3) rfl (aa (fo (b := false) (v := (.bool (false))) (cB c3) rfl) (aa (ag (v := (.bool (false))) rfl) (lv (b' := false) rfl rfl rfl (lv (b' := false) rfl rfl rfl (lv (b' := false) rfl rfl rfl (lv (b' := false) rfl rfl rfl (lv (b' := false) rfl rfl rfl (aa (fo (b := false) (v := (.bool (false))) rfl rfl) (aa (ae (v := (.bool (false))) rfl) (nR (bE (v := (.bool (false))) Tryz.results19 rfl ?_)))))))))))))))
 obtain rfl := gM hs
 exact ⟨h.grown, rfl⟩
def ry (a : Int) (b : Int) : Option Int :=
  gD (0 < b) (bif decide (((Int.tmod a b) : Int) < 0) then gD (jg ((Int.tmod a b) + b)) (some ((Int.tmod a b) + b)) else some (Int.tmod a b))
theorem CK (w0 : World) (M : BS) (hM : ∀ b, M b → b < w0.heap.size) (a : Int) (b : Int) (r : Int) (hs : ry a b = some r) :
    Calls Tryz.prog 16 #[(I6 a), (I6 b)] w0 (fun e w' => Grow w0 w' ∧ e = .returned (.int .i64 r)) := by
 refine aH (args := [(I6 a), (I6 b)]) Tryz.func16 rfl Tryz.ntmps16 (bB rfl) ?_
 have h := SH.init hM
 refine nG (aa (ae (v := (I6 0)) rfl) (nJ (aa (ag (v := (I6 a)) rfl) (aa (ag (v := (I6 b)) rfl) ?_))))
 obtain ⟨a1, hs⟩ := aW hs
 refine aa (VQ rfl rfl a1) (aa (ae (v := (I6 ((Int.tmod a b)))) rfl) (nK (aa (ag (v := (I6 ((Int.tmod a b)))) rfl) (aa (dm rfl rfl) (nN (aG hs rfl (fun c2 hs => ?_) (fun c2 hs => ?_)))))))
 refine az (aa (ag (v := (I6 ((Int.tmod a b)))) rfl) (aa (ag (v := (I6 b)) rfl) ?_))
 obtain ⟨a3, hs⟩ := aW hs
 refine aa (bU rfl rfl a3) (aa (ae (v := (I6 (((Int.tmod a b) + b)))) rfl) (nJ (aa (ag (v := (I6 (((Int.tmod a b) + b)))) rfl) (aa (ae (v := (I6 (((Int.tmod a b) + b)))) rfl) (nR (bE (v := (I6 (((Int.tmod a b) + b)))) Tryz.results16 rfl ?_))))))
 obtain rfl := gM hs
 exact ⟨h.grown, rfl⟩
 refine nS (aa (ag (v := (I6 ((Int.tmod a b)))) rfl) (aa (ae (v := (I6 ((Int.tmod a b)))) rfl) (nR (bE (v := (I6 ((Int.tmod a b)))) Tryz.results16 rfl ?_))))
 obtain rfl := gM hs
 exact ⟨h.grown, rfl⟩
end
end Go.Proofs.YtfclkapelkhlpaaGreatDoor
namespace Go.Proofs.YtfclkapelkhlpaaGreatDoor
open Go Go.Proofs Go.LX
noncomputable section
def kW (a : Val) (b : Int) (x2 : Bool) : Int :=
  bif x2 then 4 else bif (decide ((a.kind : Int) = 1) && (!(dP a.n))) then 3 else bif (decide ((a.kind : Int) = 2) && (!(aL a.n b))) then 5 else 0
def dh (a : Val) (b : Int) : Int :=
  bif (!(aP a.kind 0 2)) then kW a b (!(aP a.kind 0 2)) else kW a b (decide ((a.kind : Int) = 0) && decide ((a.n : Int) ≠ 0))
def iB (a : List (List Val)) (x20 : Val) (s : Unit) (RO : Unit → Int) : Int :=
  bif decide (((dh x20 (a.length : Int)) : Int) ≠ 0) then (dh x20 (a.length : Int)) else RO ()
def iC (Dw : Unit → Int) (s : Unit) : Int :=
  Dw ()
def iD (a : List (List Val)) (x4 : List Val) (s : Unit) (Dw : Unit → Int) : Int :=
  bif (!(aP (x4.length : Int) 1 4)) then 2 else each (iB a) (iC Dw) x4 ()
def iE (s : Unit) : Int :=
  0
def jA (a : List (List Val)) : Int :=
  bif decide ((24 : Int) < (a.length : Int)) then 2 else each (iD a) iE a ()
def ku (b : LX.State) (VC : Val) (s : Unit) (nx46 : Unit → Option Int) : Option Int :=
  bif decide (((dh VC (b.cells.length : Int)) : Int) ≠ 0) then some (dh VC (b.cells.length : Int)) else nx46 ()
def kv (H9 : Int → Option Int) (Ce : LX.Frame) (s : Unit) : Option Int :=
  H9 (Ce.regs.length : Int)
def eP (a : List bR) (Ce : LX.Frame) (b : LX.State) (H9 : Int → Option Int) (x30 : Bool) : Option Int :=
  bif x30 then some 3 else (idx a Ce.proc).bind fun x32 => bif decide (((Ce.regs.length : Int) : Int) ≠ x32.regs) then some 4 else each (ku b) (kv H9 Ce) Ce.regs ()
def dL (a : List bR) (b : LX.State) (Ce : LX.Frame) (Ir : Int) (H9 : Int → Option Int) : Option Int :=
  bif (!(aL Ce.proc (a.length : Int))) then some 5 else (idx a Ce.proc).bind fun Qf => bif (!(aL Ce.at_ (Qf.code.length : Int))) then eP a Ce b H9 true else eP a Ce b H9 (!(aL Ce.kL Ir))
def gz (Ir : Int) : Option Int :=
  some 0
def mV (a : List bR) (b : LX.State) : Option Int :=
  bif ((!(aP b.status 0 3)) || (!(dP b.bN))) then some 3 else bif (((decide ((b.bN : Int) ≠ 0) && decide ((b.status : Int) ≠ 3)) || (decide ((b.status : Int) = 1) && decide ((0 : Int) < (b.frames.length : Int)))) || (decide ((b.status : Int) ≠ 1) && decide (((b.frames.length : Int) : Int) = 0))) then some 4 else bif decide ((10 : Int) < (b.frames.length : Int)) then some 2 else bif decide (((jA b.cells) : Int) ≠ 0) then some (jA b.cells) else each (dL a b) gz b.frames 1
end
end Go.Proofs.YtfclkapelkhlpaaGreatDoor
namespace Go.Proofs.YtfclkapelkhlpaaGreatDoor
open Go Go.Proofs Go.LX
noncomputable section
abbrev K8 : List (Int × Str) := [(2, [118]), (4, [46]), (5, [110, 101, 119]), (6, [102]), (1, [])]
theorem bnd {α β : Type} (a : α) (f : α → Option β) : (some a).bind f = f a := rfl
theorem Nn {α σ : Type} {g : α → Option σ} {l : List α} (hu : ∀ p ∈ l, ∀ q ∈ l, g p ≠ none → g q ≠ none → p = q) {p : α} (hp : p ∈ l) {t : σ} (h : g p = some t) : l.findSome? g = some t := by
  cases e : l.findSome? g with
  | none =>
    rw [List.findSome?_eq_none_iff] at e
    rw [e p hp] at h; cases h
  | some u =>
    obtain ⟨q, hq, hqu⟩ := List.exists_of_findSome?_eq_some e
    have := hu p hp q hq (by rw [h]; simp) (by rw [hqu]; simp)
    subst this
    rw [h] at hqu; exact hqu.symm
theorem Gj {α σ : Type} {step : α → σ → Option σ} {g : α → Option σ} : ∀ {l : List α}, (∀ p ∈ l, ∀ s, step p s = some ((g p).getD s)) → (∀ p ∈ l, g p = none) → ∀ s, Ej step l s = some s
  | [], _, _, s => rfl
  | p :: l, h, hn, s => by
    unfold Ej
    rw [h p (by simp), hn p (by simp), Option.getD_none, bnd]
    exact Gj (fun q hq => h q (List.mem_cons_of_mem _ hq)) (fun q hq => hn q (List.mem_cons_of_mem _ hq)) s
theorem Gl {α σ : Type} {step : α → σ → Option σ} {g : α → Option σ} : ∀ {l : List α}, (∀ p ∈ l, ∀ s, step p s = some ((g p).getD s)) → (∀ p ∈ l, ∀ q ∈ l, g p ≠ none → g q ≠ none → p = q) → l.Nodup → ∀ s, Ej step l s = some ((l.findSome? g).getD s)
  | [], _, _, _, s => rfl
  | p :: l, h, hu, hn, s => by
    unfold Ej
    rw [h p (by simp), bnd]
    have hn' := List.nodup_cons.1 hn
    cases e : g p with
    | none =>
      rw [Option.getD_none, Gl (fun q hq => h q (List.mem_cons_of_mem _ hq)) (fun a ha b hb => hu a (List.mem_cons_of_mem _ ha) b (List.mem_cons_of_mem _ hb)) hn'.2 s, List.findSome?_cons, e]
    | some t =>
      rw [Option.getD_some, Gj (fun q hq => h q (List.mem_cons_of_mem _ hq)) (fun q hq => ?_) t, List.findSome?_cons, e]
      · rfl
      · cases e2 : g q with
        | none => rfl
        | some u =>
          have := hu p (by simp) q (List.mem_cons_of_mem _ hq) (by rw [e]; simp) (by rw [e2]; simp)
          subst this
          exact absurd hq hn'.1
theorem Np {α σ : Type} {step : α → σ → Option σ} {g : α → Option σ} {L : List α} (h : ∀ p ∈ L, ∀ s, step p s = some ((g p).getD s)) (hu : ∀ p ∈ L, ∀ q ∈ L, g p ≠ none → g q ≠ none → p = q) (hn : L.Nodup) (s : σ) : p8 step L s ((L.findSome? g).getD s) := by
  intro l hl
  rw [Gl (fun p hp => h p (hl.mem_iff.1 hp)) (fun p hp q hq => hu p (hl.mem_iff.1 hp) q (hl.mem_iff.1 hq)) (hl.nodup_iff.2 hn) s]
  congr 2
  cases e : L.findSome? g with
  | none =>
    rw [List.findSome?_eq_none_iff] at e ⊢
    exact fun x hx => e x (hl.mem_iff.1 hx)
  | some t =>
    obtain ⟨p, hp, ht⟩ := List.exists_of_findSome?_eq_some e
    exact Nn (fun p hp q hq => hu p (hl.mem_iff.1 hp) q (hl.mem_iff.1 hq)) (hl.mem_iff.2 hp) ht
def Yi (pe : Int × Str) (y : Int × Bool) (x : Bool) : Option (Int × Int) := bif x then some (pe.1, y.1) else none
def JD (s : Str) (pe : Int × Str) : Option (Option (Int × Int)) :=
  (strings_TrimPrefix s pe.2).bind fun Hw => (yD Hw).bind fun BB => bif (!BB.2) then (iG (⟨pe.1, BB.1⟩ : Tok)).bind fun pI => some (Yi pe BB (decide ((pI : Str) = s))) else some (Yi pe BB false)
theorem RQ (pe : Int × Str) (y : Int × Bool) (a b : Int) (x : Bool) : qQ pe y a b x = some ((Yi pe y x).getD (a, b)) := by
  unfold qQ Yi; cases x <;> rfl
theorem RS (s : Str) (pe : Int × Str) (st : Int × Int) : mK s pe st = (JD s pe).bind fun o => some (o.getD st) := by
  obtain ⟨a, b⟩ := st
  unfold mK JD
  simp only [RQ]
  cases strings_TrimPrefix s pe.2 with
  | none => rfl
  | some y =>
    simp only [bnd]
    cases yD y with
    | none => rfl
    | some z =>
      simp only [bnd]
      cases z.2 with
      | true => rfl
      | false =>
        simp only [Bool.not_false, cond_true]
        cases iG (⟨pe.1, z.1⟩ : Tok) <;> rfl
def gO (s : Str) (p : Int × Str) : Option (Int × Int) := (JD s p).join
def okW (s : Str) : Bool := K8.all (fun p => (JD s p).isSome) && K8.all (fun p => K8.all fun q => (gO s p).isNone || (gO s q).isNone || decide (p = q))
def XB (s : Str) : Int × Int := (K8.findSome? (gO s)).getD (0, 0)
theorem RU {s : Str} (h : okW s = true) : vK (mK s) K8 (0, 0) = some (XB s) := by
  unfold okW at h
  rw [Bool.and_eq_true, List.all_eq_true, List.all_eq_true] at h
  refine Kl (Np (g := gO s) (fun p hp st => ?_) (fun p hp q hq h1 h2 => ?_) (by decide) (0, 0))
  · have h1 := h.1 p hp
    rw [RS]
    unfold gO
    cases e : JD s p with
    | none => rw [e] at h1; cases h1
    | some o => cases o <;> rfl
  · have := List.all_eq_true.1 (h.2 p hp) q hq
    rw [Bool.or_eq_true, Bool.or_eq_true] at this
    rcases this with (e | e) | e
    · exact absurd (Option.isNone_iff_eq_none.1 e) h1
    · exact absurd (Option.isNone_iff_eq_none.1 e) h2
    · exact nX e
def Qg (s : Str) : Option (Int × Int) := bif okW s then some (XB s) else vK (mK s) K8 (0, 0)
theorem Qh (s : Str) : Qg s = vK (mK s) K8 (0, 0) := by
  unfold Qg
  cases e : okW s with
  | false => rfl
  | true => exact (RU e).symm
def r9 (N : Nat) (zT : List Tok) (F : List dO) (xn : Int) (wM : (List Tok × Int × Bool × Int) → Option (List Tok × cK)) (x29 : Str) (DU : Bool) (y31 : Int) : Option (List Tok × cK) :=
  (Qg x29).bind fun Jl => (BC N x29 zT F y31 xn wM DU) Jl
theorem EH : @r9 = @qR := by
  funext a b c d e f g h
  unfold r9 qR
  rw [Qh]
def wm (N : Nat) (W : List Str) (F : List dO) (s : List Tok × Int × Bool × Int) (wM : List Tok × Int × Bool × Int → Option (List Tok × cK)) : Option (List Tok × cK) :=
  match s with | (zT, xn, KE, y20) => bif (decide ((0 : Int) < xn) && KE) then bif decide (((W.length : Int) : Int) ≤ y20) then r9 N zT F xn wM [] false y20 else gD (jg (y20 + 1)) (gD (jg ((y20 + 1) - 1)) ((idx W ((y20 + 1) - 1)).bind fun x103 => r9 N zT F xn wM x103 KE (y20 + 1))) else some (zT, (⟨y20, KE⟩ : cK))
theorem EI : @wm = @qU := by
  unfold wm qU
  rw [EH]
def BM (N : Nat) (sx : cK) (W : List Str) (F : List dO) : Option (List Tok × cK) :=
  again (wm N W F) N ([], 1, sx.ok, sx.at_)
theorem Gm : @BM = @BD := by
  unfold BM BD
  rw [EI]
def si (N : Nat) (F0 : cK → List Str → List dO → Int → Option (List aR × cK)) (kJ : Int) (W : List Str) (F : List dO) (a : Int) (lJ : List aR) (wz : Int) (j4 : (List aR × Int × Bool) → Option (List aR × cK)) (KL : Int) (KM : Bool) (xm : List Tok) : Option (List aR × cK) :=
  bif decide (((kJ + 1) : Int) = 2) then (BM N (⟨KL, KM⟩ : cK) W F).bind fun Hw => qV F0 kJ a W F lJ wz xm j4 Hw.2.at_ Hw.2.ok Hw.1 else qV F0 kJ a W F lJ wz xm j4 KL KM []
theorem EJ : @si = @qW := by
  unfold si qW
  rw [Gm]
def pU (N : Nat) (F0 : cK → List Str → List dO → Int → Option (List aR × cK)) (kJ : Int) (W : List Str) (F : List dO) (a : Int) (lJ : List aR) (j4 : (List aR × Int × Bool) → Option (List aR × cK)) (nL : Int) (xL : Bool) (wz : Int) : Option (List aR × cK) :=
  bif decide (((kJ + 1) : Int) ≠ 4) then (BM N (⟨nL, xL⟩ : cK) W F).bind fun y95 => si N F0 kJ W F a lJ wz j4 y95.2.at_ y95.2.ok y95.1 else si N F0 kJ W F a lJ wz j4 nL xL []
theorem EK : @pU = @oV := by
  unfold pU oV
  rw [Gm, EJ]
def sj (N : Nat) (F0 : cK → List Str → List dO → Int → Option (List aR × cK)) (lJ : List aR) (W : List Str) (F : List dO) (a : Int) (j4 : (List aR × Int × Bool) → Option (List aR × cK)) (x27 : Str) (y28 : Int) (y29 : Bool) : Option (List aR × cK) :=
  bif decide ((x27 : Str) = [125]) then some (lJ, (⟨y28, y29⟩ : cK)) else (Bl [115, 101, 116, 32, 112, 117, 116, 32, 115, 97, 121, 32, 112, 97, 117, 115, 101, 32, 103, 111, 32, 105, 102, 32, 119, 104, 105, 108, 101, 32, 114, 101, 116, 117, 114, 110]).bind fun y31 => (slices_Index_string y31 x27).bind fun kJ => gD (jg (kJ + 1)) (bif (!(y29 && decide ((0 : Int) < (kJ + 1)))) then some ([], (⟨y28, (y29 && decide ((0 : Int) < (kJ + 1)))⟩ : cK)) else bif decide (((kJ + 1) : Int) ≤ 2) then bif decide (((W.length : Int) : Int) ≤ y28) then (yD []).bind fun y104 => pU N F0 kJ W F a lJ j4 y28 false y104.1 else gD (jg (y28 + 1)) (gD (jg ((y28 + 1) - 1)) ((idx W ((y28 + 1) - 1)).bind fun KN => (yD KN).bind fun KO => pU N F0 kJ W F a lJ j4 (y28 + 1) (y29 && decide ((0 : Int) < (kJ + 1))) KO.1)) else pU N F0 kJ W F a lJ j4 y28 (y29 && decide ((0 : Int) < (kJ + 1))) 0)
theorem EL : @sj = @qX := by
  unfold sj qX
  rw [EK]
def wo (N : Nat) (F0 : cK → List Str → List dO → Int → Option (List aR × cK)) (W : List Str) (F : List dO) (a : Int) (s : List aR × Int × Bool) (j4 : List aR × Int × Bool → Option (List aR × cK)) : Option (List aR × cK) :=
  match s with | (lJ, Dy, Fu) => bif Fu then bif decide (((W.length : Int) : Int) ≤ Dy) then sj N F0 lJ W F a j4 [] Dy false else gD (jg (Dy + 1)) (gD (jg ((Dy + 1) - 1)) ((idx W ((Dy + 1) - 1)).bind fun Jm => sj N F0 lJ W F a j4 Jm (Dy + 1) Fu)) else some ([], (⟨Dy, Fu⟩ : cK))
theorem EM : @wo = @qY := by
  unfold wo qY
  rw [EL]
def uP (N : Nat) (F0 : cK → List Str → List dO → Int → Option (List aR × cK)) (W : List Str) (F : List dO) (a : Int) (y1 : Int) (y2 : Bool) : Option (List aR × cK) :=
  again (wo N F0 W F a) N ([], y1, y2)
theorem FL : @uP = @sW := by
  unfold uP sW
  rw [EM]
def su (N : Nat) (F0 : cK → List Str → List dO → Int → Option (List aR × cK)) (W : List Str) (F : List dO) (a : Int) (Al : Bool) (Dz : Int) (Hz : Bool) : Option (List aR × cK) :=
  bif Al then uP N F0 W F a Dz false else uP N F0 W F a Dz Hz
theorem EN : @su = @qZ := by
  unfold su qZ
  rw [FL]
def vQ (N : Nat) (F0 : cK → List Str → List dO → Int → Option (List aR × cK)) (sx : cK) (W : List Str) (F : List dO) (a : Int) : Option (List aR × cK) :=
  bif decide (((W.length : Int) : Int) ≤ sx.at_) then su N F0 W F a true sx.at_ false else gD (jg (sx.at_ + 1)) (gD (jg ((sx.at_ + 1) - 1)) ((idx W ((sx.at_ + 1) - 1)).bind fun Jn => su N F0 W F a (decide ((Jn : Str) ≠ [123]) || decide ((6 : Int) < a)) (sx.at_ + 1) sx.ok))
theorem Ie : @vQ = @vk := by
  unfold vQ vk
  rw [EN]
def wY : Nat → cK → List Str → List dO → Int → Option (List aR × cK)
  | 0 => fun _ _ _ _ => none
  | N + 1 => vQ N (wY N)
theorem EO : ∀ N, wY N = sZ N
  | 0 => rfl
  | N + 1 => by show vQ N (wY N) = vk N (sZ N); rw [Ie, EO N]
def gV (N : Nat) (y1 : List Str) (pI : List dO) (i101 : Int) (jE : (List dO × Int × Bool) → Option (List dO × Int)) (DC : Int) (y112 : Bool) : Option (List dO × Int) :=
  (wY N (⟨DC, y112⟩ : cK) y1 pI 1).bind fun jf => (idx pI i101).bind fun uT => jE ((pI.set (i101).toNat { uT with body := jf.1 }), jf.2.at_, jf.2.ok)
theorem ug : @gV = @fV := by
  unfold gV fV
  rw [show @wY = @sZ from funext EO]
def gW (N : Nat) (y1 : List Str) (pI : List dO) (i101 : Int) (jE : (List dO × Int × Bool) → Option (List dO × Int)) (nk : Int) (HY : Bool) : Option (List dO × Int) :=
  bif decide (((y1.length : Int) : Int) ≤ nk) then gV N y1 pI i101 jE nk false else gD (jg (nk + 1)) (gD (jg ((nk + 1) - 1)) ((idx y1 ((nk + 1) - 1)).bind fun RH => gV N y1 pI i101 jE (nk + 1) HY))
theorem uh : @gW = @fZ := by
  unfold gW fZ
  rw [ug]
def gX (N : Nat) (y1 : List Str) (pI : List dO) (i101 : Int) (jE : (List dO × Int × Bool) → Option (List dO × Int)) (nu : Int) (HZ : Bool) : Option (List dO × Int) :=
  bif decide (((y1.length : Int) : Int) ≤ nu) then gW N y1 pI i101 jE nu false else gD (jg (nu + 1)) (gD (jg ((nu + 1) - 1)) ((idx y1 ((nu + 1) - 1)).bind fun RI => gW N y1 pI i101 jE (nu + 1) HZ))
theorem ui : @gX = @gm := by
  unfold gX gm
  rw [uh]
def gY (N : Nat) (y1 : List Str) (pI : List dO) (i101 : Int) (jE : (List dO × Int × Bool) → Option (List dO × Int)) (Jp : Bool) (DD : Int) (H5 : Bool) : Option (List dO × Int) :=
  bif Jp then gX N y1 pI i101 jE DD false else gX N y1 pI i101 jE DD H5
theorem uj : @gY = @gp := by
  unfold gY gp
  rw [ui]
def jB (N : Nat) (y1 : List Str) (i101 : Int) (s : List dO × Int × Bool) (jE : List dO × Int × Bool → Option (List dO × Int)) : Option (List dO × Int) :=
  match s with | (pI, y98, y99) => bif decide (((y1.length : Int) : Int) ≤ y98) then gY N y1 pI i101 jE true y98 false else gD (jg (y98 + 1)) (gD (jg ((y98 + 1) - 1)) ((idx y1 ((y98 + 1) - 1)).bind fun x152 => gY N y1 pI i101 jE (decide ((x152 : Str) ≠ [102, 117, 110])) (y98 + 1) y99))
theorem uk : @jB = @gq := by
  unfold jB gq
  rw [uj]
def jC (N : Nat) (y1 : List Str) (a : Str) (uI : List dO) (s : Unit) : Option (List dO × Int) :=
  upto (jB N y1) (iw N y1 a) 0 ((uI.length : Int)).toNat (uI, 0, true)
theorem um : @jC = @gu := by
  unfold jC gu
  rw [uk]
def jD (N : Nat) (y1 : List Str) (a : Str) (uI : List dO) : Option (List dO × Int) :=
  bif (decide (((uI.length : Int) : Int) = 0) || decide ((4 : Int) < (uI.length : Int))) then some ([], 1) else upto (iy uI) (jC N y1 a uI) 0 ((uI.length : Int)).toNat ()
theorem uo : @jD = @gy := by
  unfold jD gy
  rw [um]
def l7 (N : Nat) (a : Str) : Option (List dO × Int) :=
  (GV a [32]).bind fun y1 => eU (iA y1) (jD N y1 a) 0 y1 []
theorem wu : @l7 = @jy := by
  unfold l7 jy
  rw [uo]
def oI (N : Nat) : Option (List dO) :=
  (l7 N [102, 117, 110, 32, 48, 32, 49, 32, 123, 32, 115, 101, 116, 32, 48, 32, 51, 32, 119, 104, 105, 108, 101, 32, 118, 48, 32, 123, 32, 115, 97, 121, 32, 102, 49, 32, 118, 48, 32, 118, 48, 32, 103, 111, 32, 118, 48, 32, 112, 97, 117, 115, 101, 32, 115, 101, 116, 32, 48, 32, 45, 32, 118, 48, 32, 49, 32, 125, 32, 125, 32, 102, 117, 110, 32, 50, 32, 50, 32, 123, 32, 114, 101, 116, 117, 114, 110, 32, 42, 32, 118, 48, 32, 118, 49, 32, 125]).bind fun y1 => some y1.1
theorem yt : @oI = @jq := by
  unfold oI jq
  rw [wu]
abbrev NN : Nat := 70000
theorem Nq : jq NN = oI NN := by rw [yt]
end
end Go.Proofs.YtfclkapelkhlpaaGreatDoor
namespace Go.Proofs.YtfclkapelkhlpaaGreatDoor
open Go Go.Proofs Go.LX
theorem XC (a b : List Int) : slices_Equal_int a b = some (decide (a = b)) := by
  unfold slices_Equal_int
  by_cases h : a.length = b.length
  · rw [dF (by omega)]
    simp only [cond_false, Int.toNat_natCast]
    rw [FZ (fun x y => decide (x = y)) a b h rfl (fun i x y nx h1 h2 => by
      unfold lK
      rw [oP, oP, h1, h2]
      by_cases e : x = y <;> simp [e]), Bj (fun _ _ => rfl)]
  · rw [dT (by omega)]
    have : a ≠ b := fun e => h (by rw [e])
    rw [dF this]; rfl
theorem BN (a b : Int) : (decide (a < 0) || decide (b ≤ a)) = !aL a b := by
  unfold aL; rw [Bool.eq_iff_iff]; simp; try omega
theorem U4 {α : Type} (x : α) (l : List α) : idx (x :: l) 0 = some x := by simp [idx]
theorem Me {l : List Int} : l.length = 1 ↔ ∃ x, l = [x] := by
  match l with
  | [] => simp
  | [x] => simp
  | x :: y :: r => simp
def wy (i : Nat) (x : bR) : Int :=
  if (0 ≤ x.params ∧ x.params ≤ 3) ∧ (1 ≤ x.regs ∧ x.params ≤ x.regs ∧ x.regs ≤ 40) ∧ ¬ (i = 0 ∧ x.params ≠ 0) then (if 1 ≤ x.code.length ∧ x.code.length ≤ 2000 then 0 else 2) else 3
theorem U5 (i : Nat) (x : bR) (nx : Unit → Option Int) : gP (i : Int) x () nx = if wy i x ≠ 0 then some (wy i x) else nx () := by
  unfold gP wy
  by_cases h1 : (0 ≤ x.params ∧ x.params ≤ 3) ∧ (1 ≤ x.regs ∧ x.params ≤ x.regs ∧ x.regs ≤ 40) ∧ ¬ (i = 0 ∧ x.params ≠ 0)
  · have e : (((((decide ((x.params : Int) < 0) || decide ((3 : Int) < x.params)) || decide ((x.regs : Int) < 1)) || decide ((x.regs : Int) < x.params)) || decide ((40 : Int) < x.regs)) || (decide ((i : Int) = 0) && decide ((0 : Int) < x.params))) = false := by
      simp only [Bool.or_eq_false_iff, Bool.and_eq_false_iff, decide_eq_false_iff_not]; omega
    rw [e, if_pos h1]
    simp only [cond_false]
    by_cases h2 : 1 ≤ x.code.length ∧ x.code.length ≤ 2000
    · rw [if_pos h2, show (decide (((x.code.length : Int) : Int) = 0) || decide ((2000 : Int) < (x.code.length : Int))) = false by simp only [Bool.or_eq_false_iff, decide_eq_false_iff_not]; omega]
      rfl
    · rw [if_neg h2, show (decide (((x.code.length : Int) : Int) = 0) || decide ((2000 : Int) < (x.code.length : Int))) = true by simp only [Bool.or_eq_true, decide_eq_true_eq]; omega]
      rfl
  · have e : (((((decide ((x.params : Int) < 0) || decide ((3 : Int) < x.params)) || decide ((x.regs : Int) < 1)) || decide ((x.regs : Int) < x.params)) || decide ((40 : Int) < x.regs)) || (decide ((i : Int) = 0) && decide ((0 : Int) < x.params))) = true := by
      simp only [Bool.or_eq_true, Bool.and_eq_true, decide_eq_true_eq]; omega
    rw [e, if_neg h1]
    rfl
def heads : Nat → List bR → Int
  | _, [] => 0
  | i, x :: p => if wy i x ≠ 0 then wy i x else heads (i + 1) p
theorem EP (k : Unit → Option Int) : ∀ (p : List bR) (i : Nat), eU gP k (i : Int) p () = if heads i p ≠ 0 then some (heads i p) else k ()
  | [], i => by simp [heads, eU]
  | x :: p, i => by
    show gP (i : Int) x () (eU gP k ((i : Int) + 1) p) = _
    rw [U5, show ((i : Int) + 1) = ((i + 1 : Nat) : Int) by omega, EP k p (i + 1), heads]
    by_cases h : wy i x = 0 <;> simp [h]
end Go.Proofs.YtfclkapelkhlpaaGreatDoor
namespace Go.Proofs.YtfclkapelkhlpaaGreatDoor
open Go Go.Proofs Go.LX
def sD (x : bR) : Prop := 1 ≤ x.code.length ∧ x.code.length ≤ 2000
theorem cz {α σ ρ : Type} {body : α → σ → (σ → ρ) → ρ} {k : σ → ρ} (x : α) (l : List α) (s : σ) : each body k (x :: l) s = body x s (each body k l) := rfl
theorem fw {α σ ρ : Type} {body : α → σ → (σ → ρ) → ρ} {k : σ → ρ} (s : σ) : each body k [] s = k s := rfl
theorem Qi (d : Int) : ∀ l : List Int, ∃ y, each (lF d) pR l () = some y
  | [] => ⟨0, rfl⟩
  | x :: l => by
    obtain ⟨y, hy⟩ := Qi d l
    rw [cz]
    unfold lF
    cases (!(decide ((0 : Int) ≤ x) && decide ((x : Int) < d))) with
    | true => exact ⟨3, rfl⟩
    | false => exact ⟨y, hy⟩
theorem Qj (x9 : Bool) (a : Ins) (b DW : Int) (c : List bR) (y13 yn d qa : Int) : ∃ y, dw x9 a b DW c y13 yn d qa = some y ∧ (y = 0 → (a.args.length : Int) = yn) := by
  unfold dw
  cases x9 with
  | false => exact ⟨3, rfl, fun h => absurd h (by decide)⟩
  | true =>
    simp only [Bool.not_true, cond_false]
    generalize hc : (((decide ((a.a : Int) ≠ qa) || decide ((a.b : Int) ≠ DW)) || decide ((a.c : Int) ≠ y13)) || decide (((a.args.length : Int) : Int) ≠ yn)) = C
    cases C with
    | true => exact ⟨4, rfl, fun h => absurd h (by decide)⟩
    | false =>
      simp only [Bool.or_eq_false_iff, decide_eq_false_iff_not, Decidable.not_not] at hc
      simp only [cond_false]
      cases decide ((a.op : Int) = 7) with
      | true => obtain ⟨y, hy⟩ := Qi d a.args; exact ⟨y, hy, fun _ => hc.2⟩
      | false => exact ⟨0, rfl, fun _ => hc.2⟩
theorem U6 (a : Ins) (b : Int) (c : List bR) (d : Int) (x9 : Bool) (yn Nj DW y13 : Int) : ∃ y, bF a b c d x9 yn Nj DW y13 = some y ∧ (y = 0 → (a.args.length : Int) = yn) := by
  unfold bF
  cases decide ((a.op : Int) = 12) with
  | true => exact Qj x9 a b DW c y13 yn d 0
  | false => exact Qj x9 a b DW c y13 yn d Nj
def Ig (a : Ins) (r : Option Int) : Prop := ∃ y, r = some y ∧ (y = 0 → a.args.length ≤ 3)
theorem FM (a : Ins) (b : Int) (c : List bR) (d : Int) (x9 : Bool) {yn : Int} (Nj DW y13 : Int) (h : yn ≤ 3) : Ig a (bF a b c d x9 yn Nj DW y13) := by
  obtain ⟨y, h1, h2⟩ := U6 a b c d x9 yn Nj DW y13
  exact ⟨y, h1, fun h0 => by have := h2 h0; omega⟩
theorem ny {a : Ins} {c : Bool} {x y : Option Int} (h1 : Ig a x) (h2 : Ig a y) : Ig a (bif c then x else y) := by
  cases c
  · exact h2
  · exact h1
theorem ER {a : Ins} {e : Int} (h : e ≠ 0) : Ig a (some e) := ⟨e, rfl, fun h0 => absurd h0 h⟩
theorem Nr (a : Ins) (b : Int) (c : List bR) (d e : Int) (hp : ∀ x ∈ c, x.params ≤ 3) : Ig a (fF a b c d e) := by
  unfold fF
  refine ny (ER (by decide)) (ny (ER (by decide)) (ny (FM _ _ _ _ _ _ _ _ (by decide)) (ny (FM _ _ _ _ _ _ _ _ (by decide)) ?_)))
  have k12 : ∀ x, Ig a (bV a b c d x) := fun x => by
    unfold bV
    exact ny (FM _ _ _ _ _ _ _ _ (by decide)) (ny (FM _ _ _ _ _ _ _ _ (by decide)) (FM _ _ _ _ _ _ _ _ (by decide)))
  have k11 : ∀ x, Ig a (bX a b c d e x) := fun x => by
    unfold bX
    refine ny (FM _ _ _ _ _ _ _ _ (by decide)) ?_
    cases decide ((a.op : Int) = 7) with
    | false =>
      rw [cond_false]
      exact ny (k12 _) (ny (k12 _) (k12 _))
    | true =>
      simp only [cond_true]
      rw [BN]
      cases hb : aL a.b (c.length : Int) with
      | false => exact ER (by decide)
      | true =>
        simp only [Bool.not_true, cond_false]
        unfold aL at hb
        simp only [Bool.and_eq_true, decide_eq_true_eq] at hb
        obtain ⟨n, hn⟩ := Int.eq_ofNat_of_zero_le hb.1
        rw [hn, xA (by omega), Option.bind_some]
        exact FM _ _ _ _ _ _ _ _ (hp _ (List.getElem_mem _))
  have k10 : ∀ x, Ig a (bY a b c d e x) := fun x => by
    unfold bY
    refine ny (FM _ _ _ _ _ _ _ _ (by decide)) ?_
    cases decide ((a.op : Int) = 3) with
    | false =>
      rw [cond_false]
      exact ny (k11 _) (k11 _)
    | true =>
      simp only [cond_true]
      by_cases h1 : a.args.length = 1
      · rw [dT (show ((a.args.length : Int) : Int) = 1 by omega)]
        obtain ⟨y, hy⟩ := Me.1 h1
        simp only [cond_true]
        rw [show idx a.args 0 = some y by rw [hy, U4], Option.bind_some]
        exact FM _ _ _ _ _ _ _ _ (by decide)
      · rw [dF (show ¬ ((a.args.length : Int) : Int) = 1 by omega)]
        exact FM _ _ _ _ _ _ _ _ (by decide)
  exact ny (k10 _) (k10 _)
def Good (a : List bR) : Prop := a.length ≤ 4 ∧ ∀ x ∈ a, sD x ∧ ∀ c ∈ x.code, c.args.length ≤ 3
theorem JE {i : Nat} {x : bR} (h : wy i x = 0) : x.params ≤ 3 ∧ sD x := by
  unfold wy at h
  split at h
  · split at h
    · exact ⟨by omega, by unfold sD; omega⟩
    · cases h
  · cases h
theorem ES : ∀ (p : List bR) (i : Nat), heads i p = 0 → ∀ x ∈ p, x.params ≤ 3 ∧ sD x
  | [], _, _, x, hx => by cases hx
  | y :: p, i, h, x, hx => by
    unfold heads at h
    split at h
    · rename_i h1; exact absurd h h1
    · rename_i h1
      rcases List.mem_cons.1 hx with rfl | hx
      · exact JE (Decidable.not_not.1 h1)
      · exact ES p (i + 1) h x hx
theorem Mf (a : List bR) (x : bR) (k : Unit → Option Int) (hp : ∀ x ∈ a, x.params ≤ 3) (Q : Prop) (hk : ∃ y, k () = some y ∧ (y = 0 → Q)) : ∀ (l : List Ins) (i : Int), ∃ y, eU (eO a x) k i l () = some y ∧ (y = 0 → Q ∧ ∀ c ∈ l, c.args.length ≤ 3)
  | [], i => by
    obtain ⟨y, h1, h2⟩ := hk
    exact ⟨y, h1, fun h => ⟨h2 h, by intro c hc; cases hc⟩⟩
  | c :: l, i => by
    obtain ⟨y, h1, h2⟩ := Mf a x k hp Q hk l (i + 1)
    have e1 : eU (eO a x) k i (c :: l) () = eO a x i c () (eU (eO a x) k (i + 1) l) := rfl
    rw [e1]
    unfold eO
    obtain ⟨z, g1, g2⟩ := Nr c i a x.regs (x.code.length : Int) hp
    rw [g1, Option.bind_some]
    by_cases hz : z = 0
    · rw [dF (by omega), cond_false]
      refine ⟨y, h1, fun h => ⟨(h2 h).1, fun d hd => ?_⟩⟩
      rcases List.mem_cons.1 hd with rfl | hd
      · exact g2 hz
      · exact (h2 h).2 d hd
    · rw [dT hz, cond_true]
      exact ⟨z, rfl, fun h => absurd h hz⟩
theorem Mg (a : List bR) (hp : ∀ x ∈ a, x.params ≤ 3 ∧ sD x) : ∀ l : List bR, (∀ x ∈ l, x.params ≤ 3 ∧ sD x) → ∃ y, each (jb a) lV l () = some y ∧ (y = 0 → ∀ x ∈ l, ∀ c ∈ x.code, c.args.length ≤ 3)
  | [], _ => ⟨0, rfl, fun _ x hx => by cases hx⟩
  | x :: l, hl => by
    obtain ⟨y, h1, h2⟩ := Mg a hp l (fun z hz => hl z (List.mem_cons_of_mem _ hz))
    rw [cz]
    unfold jb
    have hx := hl x (by simp)
    obtain ⟨z, g1, g2⟩ := Mf a x (lU x (each (jb a) lV l)) (fun x hx => (hp x hx).1) (∀ x ∈ l, ∀ c ∈ x.code, c.args.length ≤ 3) (by
      unfold lU
      have h3 := hx.2
      unfold sD at h3
      rw [gI, show ((x.code.length : Int) - 1) = ((x.code.length - 1 : Nat) : Int) by omega, xA (by omega), Option.bind_some]
      cases (decide ((x.code[x.code.length - 1].op : Int) ≠ 8) && decide ((x.code[x.code.length - 1].op : Int) ≠ 12)) with
      | true => exact ⟨4, rfl, fun h => absurd h (by decide)⟩
      | false => exact ⟨y, h1, h2⟩) x.code 0
    refine ⟨z, g1, fun h => ?_⟩
    intro w hw
    rcases List.mem_cons.1 hw with rfl | hw
    · exact (g2 h).2
    · exact (g2 h).1 w hw
theorem Ns (a : List bR) : ∃ y, oz a = some y ∧ (y = 0 → Good a) := by
  unfold oz
  generalize hc : (decide (((a.length : Int) : Int) = 0) || decide ((4 : Int) < (a.length : Int))) = C
  cases C with
  | true => exact ⟨2, rfl, fun h => absurd h (by decide)⟩
  | false =>
    simp only [Bool.or_eq_false_iff, decide_eq_false_iff_not] at hc
    have h1 : eU gP (ko a) 0 a () = _ := EP (ko a) a 0
    rw [cond_false, h1]
    by_cases hz : heads 0 a = 0
    · rw [if_neg (by omega)]
      have hp := ES a 0 hz
      obtain ⟨y, g1, g2⟩ := Mg a hp a hp
      exact ⟨y, g1, fun h => ⟨by omega, fun x hx => ⟨(hp x hx).2, g2 h x hx⟩⟩⟩
    · rw [if_pos hz]
      exact ⟨_, rfl, fun h => absurd h hz⟩
def Nt (a : List bR) : Int := (oz a).getD 0
theorem Qk (a : List bR) : oz a = some (Nt a) := by
  obtain ⟨y, h, _⟩ := Ns a
  unfold Nt
  rw [h]; rfl
def CL (R x : Int) : Prop := 0 ≤ x ∧ x < R
def yu (a : List bR) (R L : Int) (c : Ins) : Prop :=
  (c.op = 1 ∧ CL R c.a ∧ (-1000000000 ≤ c.b ∧ c.b ≤ 1000000000)) ∨
  (c.op = 2 ∧ CL R c.a ∧ CL R c.b) ∨
  (c.op = 3 ∧ CL R c.a ∧ CL R c.b ∧ CL R c.c ∧ ∃ n, c.args = [n] ∧ 1 ≤ n ∧ n ≤ 5) ∨
  ((c.op = 4 ∨ c.op = 6) ∧ CL R c.a ∧ CL R c.b ∧ (0 ≤ c.c ∧ c.c < 4)) ∨
  (c.op = 5 ∧ CL R c.a ∧ (1 ≤ c.b ∧ c.b ≤ 4)) ∨
  (c.op = 7 ∧ CL R c.a ∧ (∃ p, idx a c.b = some p ∧ (c.args.length : Int) = p.params) ∧ ∀ x ∈ c.args, CL R x) ∨
  ((c.op = 8 ∨ c.op = 9 ∨ c.op = 11) ∧ CL R c.a) ∨
  c.op = 10 ∨
  (c.op = 12 ∧ (0 ≤ c.b ∧ c.b < L)) ∨
  (c.op = 13 ∧ CL R c.a ∧ (0 ≤ c.b ∧ c.b < L))
theorem Mh (R : Int) : ∀ l : List Int, each (lF R) pR l () = some 0 → ∀ x ∈ l, CL R x
  | [], _, x, hx => by cases hx
  | y :: l, h, x, hx => by
    rw [cz] at h
    unfold lF at h
    cases e : (!(decide ((0 : Int) ≤ y) && decide ((y : Int) < R))) with
    | true => rw [e, cond_true] at h; cases h
    | false =>
      rw [e, cond_false] at h
      rcases List.mem_cons.1 hx with rfl | hx
      · simp at e; exact e
      · exact Mh R l h x hx
theorem RV {c : Ins} {i : Int} {a : List bR} {R L : Int} (h : fF c i a R L = some 0) : yu a R L c := by
  obtain ⟨op, ca, cb, cc, args⟩ := c
  by_cases h1 : op = 1
  · subst h1
    simp [fF, aY, df, dU, eu, dH, bF, dw, bY, bX, bV, Bool.cond_eq_ite] at h
    simp [yu, CL]
    (repeat (split at h; · simp at h))
    omega
  by_cases h2 : op = 2
  · subst h2
    simp [fF, aY, df, dU, eu, dH, bF, dw, bY, bX, bV, Bool.cond_eq_ite] at h
    simp [yu, CL]
    (repeat (split at h; · simp at h))
    omega
  by_cases h3 : op = 3
  · subst h3
    simp [fF, aY, df, dU, eu, dH, bF, dw, bY, bX, bV, Bool.cond_eq_ite] at h
    simp [yu, CL]
    by_cases hl : args.length = 1
    · obtain ⟨y, rfl⟩ := Me.1 hl
      simp [U4] at h
      split at h
      · simp at h
      split at h
      · simp at h
      refine ⟨by omega, by omega, by omega, y, rfl, by omega, by omega⟩
    · exfalso
      rw [if_neg (show ¬ ((args.length : Int) = 1) by omega)] at h
      split at h <;> simp at h
  by_cases h4 : op = 4
  · subst h4
    simp [fF, aY, df, dU, eu, dH, bF, dw, bY, bX, bV, Bool.cond_eq_ite] at h
    simp [yu, CL]
    (repeat (split at h; · simp at h))
    omega
  by_cases h5 : op = 5
  · subst h5
    simp [fF, aY, df, dU, eu, dH, bF, dw, bY, bX, bV, Bool.cond_eq_ite] at h
    simp [yu, CL]
    (repeat (split at h; · simp at h))
    omega
  by_cases h6 : op = 6
  · subst h6
    simp [fF, aY, df, dU, eu, dH, bF, dw, bY, bX, bV, Bool.cond_eq_ite] at h
    simp [yu, CL]
    (repeat (split at h; · simp at h))
    omega
  by_cases h7 : op = 7
  · subst h7
    simp [fF, aY, df, dU, eu, dH, bF, dw, bY, bX, bV, Bool.cond_eq_ite] at h
    simp [yu, CL]
    split at h
    · simp at h
    split at h
    · simp at h
    obtain ⟨p, hp, h⟩ := aJ h
    (repeat (split at h; · simp at h))
    refine ⟨by omega, ⟨p, hp, by omega⟩, fun x hx => Mh R args h x hx⟩
  by_cases h8 : op = 8
  · subst h8
    simp [fF, aY, df, dU, eu, dH, bF, dw, bY, bX, bV, Bool.cond_eq_ite] at h
    simp [yu, CL]
    (repeat (split at h; · simp at h))
    omega
  by_cases h9 : op = 9
  · subst h9
    simp [fF, aY, df, dU, eu, dH, bF, dw, bY, bX, bV, Bool.cond_eq_ite] at h
    simp [yu, CL]
    (repeat (split at h; · simp at h))
    omega
  by_cases h10 : op = 10
  · subst h10
    simp [yu, CL]
  by_cases h11 : op = 11
  · subst h11
    simp [fF, aY, df, dU, eu, dH, bF, dw, bY, bX, bV, Bool.cond_eq_ite] at h
    simp [yu, CL]
    (repeat (split at h; · simp at h))
    omega
  by_cases h12 : op = 12
  · subst h12
    simp [fF, aY, df, dU, eu, dH, bF, dw, bY, bX, bV, Bool.cond_eq_ite] at h
    simp [yu, CL]
    (repeat (split at h; · simp at h))
    omega
  by_cases h13 : op = 13
  · subst h13
    simp [fF, aY, df, dU, eu, dH, bF, dw, bY, bX, bV, Bool.cond_eq_ite] at h
    simp [yu, CL]
    (repeat (split at h; · simp at h))
    omega
  · exfalso
    simp [fF, aY, df, dU, eu, dH, bF, dw, bY, bX, bV, Bool.cond_eq_ite, *] at h
structure yZ (a : List bR) : Prop where
  many : 1 ≤ a.length ∧ a.length ≤ 4
  head : ∀ (i : Nat) x, a[i]? = some x → (0 ≤ x.params ∧ x.params ≤ 3) ∧ (1 ≤ x.regs ∧ x.params ≤ x.regs ∧ x.regs ≤ 40) ∧ ¬ (i = 0 ∧ x.params ≠ 0) ∧ sD x
  last : ∀ x ∈ a, ∃ c, idx x.code ((x.code.length : Int) - 1) = some c ∧ (c.op = 8 ∨ c.op = 12)
  ins : ∀ x ∈ a, ∀ c ∈ x.code, yu a x.regs x.code.length c
theorem Gn : ∀ (p : List bR) (j : Nat), heads j p = 0 → ∀ (i : Nat) x, p[i]? = some x → wy (j + i) x = 0
  | [], j, _, i, x, hx => by simp at hx
  | y :: p, j, h, i, x, hx => by
    unfold heads at h
    split at h
    · rename_i h1; exact absurd h h1
    · rename_i h1
      cases i with
      | zero => simp at hx; subst hx; exact Decidable.not_not.1 h1
      | succ i => rw [show j + (i + 1) = (j + 1) + i by omega]; exact Gn p (j + 1) h i x (by simpa using hx)
theorem Mi (a : List bR) (x : bR) (k : Unit → Option Int) : ∀ (l : List Ins) (i : Int), eU (eO a x) k i l () = some 0 → k () = some 0 ∧ ∀ c ∈ l, yu a x.regs x.code.length c
  | [], i, h => ⟨h, fun c hc => by cases hc⟩
  | y :: l, i, h => by
    have e1 : eU (eO a x) k i (y :: l) () = eO a x i y () (eU (eO a x) k (i + 1) l) := rfl
    rw [e1] at h
    unfold eO at h
    obtain ⟨z, hz, h⟩ := aJ h
    by_cases z0 : z = 0
    · subst z0
      rw [dF (by simp), cond_false] at h
      obtain ⟨h1, h2⟩ := Mi a x k l (i + 1) h
      refine ⟨h1, fun c hc => ?_⟩
      rcases List.mem_cons.1 hc with rfl | hc
      · exact RV hz
      · exact h2 c hc
    · rw [dT z0, cond_true] at h
      exact absurd (gM h) z0
theorem Mj (a : List bR) : ∀ l : List bR, each (jb a) lV l () = some 0 → ∀ x ∈ l, (∃ c, idx x.code ((x.code.length : Int) - 1) = some c ∧ (c.op = 8 ∨ c.op = 12)) ∧ ∀ c ∈ x.code, yu a x.regs x.code.length c
  | [], _, x, hx => by cases hx
  | y :: l, h, x, hx => by
    rw [cz] at h
    unfold jb at h
    obtain ⟨h1, h2⟩ := Mi a y _ y.code 0 h
    unfold lU at h1
    obtain ⟨_, h1⟩ := aW h1
    obtain ⟨c, hc, h1⟩ := aJ h1
    cases e : (decide ((c.op : Int) ≠ 8) && decide ((c.op : Int) ≠ 12)) with
    | true => rw [e, cond_true] at h1; cases h1
    | false =>
      rw [e, cond_false] at h1
      rcases List.mem_cons.1 hx with rfl | hx
      · exact ⟨⟨c, hc, by simp only [Bool.and_eq_false_iff, decide_eq_false_iff_not, Decidable.not_not] at e; exact e⟩, h2⟩
      · exact Mj a l h1 x hx
theorem ET {a : List bR} (h : Nt a = 0) : yZ a := by
  have h0 := Qk a
  rw [h] at h0
  unfold oz at h0
  generalize hc : (decide (((a.length : Int) : Int) = 0) || decide ((4 : Int) < (a.length : Int))) = C at h0
  cases C with
  | true => cases h0
  | false =>
    simp only [Bool.or_eq_false_iff, decide_eq_false_iff_not] at hc
    have h1 : eU gP (ko a) 0 a () = _ := EP (ko a) a 0
    rw [cond_false, h1] at h0
    by_cases hz : heads 0 a = 0
    · rw [if_neg (by omega)] at h0
      have hb := Mj a a h0
      refine ⟨by omega, fun i x hx => ?_, fun x hx => (hb x hx).1, fun x hx => (hb x hx).2⟩
      have := Gn a 0 hz i x hx
      rw [Nat.zero_add] at this
      unfold wy at this
      split at this
      · rename_i g
        split at this
        · rename_i g2; exact ⟨g.1, g.2.1, g.2.2, g2⟩
        · cases this
      · cases this
    · rw [if_pos hz] at h0
      exact absurd (gM h0) hz
end Go.Proofs.YtfclkapelkhlpaaGreatDoor
namespace Go.Proofs.YtfclkapelkhlpaaGreatDoor
open Go Go.Proofs Go.LX
theorem jh {α σ ρ : Type} {body : Int → α → σ → (σ → ρ) → ρ} {k : σ → ρ} (i : Int) (x : α) (l : List α) (s : σ) : eU body k i (x :: l) s = body i x s (eU body k (i + 1) l) := rfl
theorem CO {σ ρ : Type} {body : Int → σ → (σ → ρ) → ρ} {k : σ → ρ} (i : Int) (m : Nat) (s : σ) : upto body k i (m + 1) s = body i s (upto body k (i + 1) m) := rfl
theorem xY {σ β : Type} {body : σ → (σ → Option β) → Option β} {m : Nat} {s : σ} : again body (m + 1) s = body s (again body m) := rfl
def iT (n : Nat) (v : Val) : Prop := (v.kind = 0 ∧ v.n = 0) ∨ (v.kind = 1 ∧ -1000000000 ≤ v.n ∧ v.n ≤ 1000000000) ∨ (v.kind = 2 ∧ 0 ≤ v.n ∧ v.n < n)
instance (n : Nat) (v : Val) : Decidable (iT n v) := inferInstanceAs (Decidable (_ ∨ _))
theorem y5 (n : Nat) (v : Val) : bJ v (n : Int) = 0 ↔ iT n v := by
  obtain ⟨k, m⟩ := v
  simp only [bJ, iT, Bool.cond_eq_ite, Bool.or_eq_true, decide_eq_true_eq]
  constructor
  · intro h
    (repeat' split at h) <;> first | omega | (exfalso; omega)
  · intro h
    rcases h with ⟨h1, h2⟩ | ⟨h1, h2⟩ | ⟨h1, h2⟩
    · rw [if_pos h1, if_neg (by omega)]
    · rw [if_neg (by omega), if_pos h1, if_neg (by omega)]
    · rw [if_neg (by omega), if_neg (by omega), if_pos h1, if_neg (by omega)]
theorem JF (v : Val) (n : Int) : dh v n = bJ v n := by
  obtain ⟨k, m⟩ := v
  simp only [bJ, dh, kW, aP, dP, aL, Bool.cond_eq_ite, Bool.or_eq_true, Bool.and_eq_true, Bool.not_eq_true', decide_eq_true_eq, decide_eq_false_iff_not, Bool.and_eq_false_iff]
  (repeat' split) <;> first | rfl | (exfalso; omega)
def mW (l : List (List Val)) : Prop := l.length ≤ 24 ∧ ∀ c ∈ l, (1 ≤ c.length ∧ c.length ≤ 4) ∧ ∀ v ∈ c, iT l.length v
theorem JG (a : List (List Val)) : jA a = bW a := by
  unfold jA bW
  have k1 : ∀ (l : List Val) (f : Unit → Int), each (iB a) (iC f) l () = each (fO a) (eX f) l () := by
    intro l f
    induction l with
    | nil => rfl
    | cons x l ih =>
      show (bif decide ((dh x (a.length : Int) : Int) ≠ 0) then dh x (a.length : Int) else each (iB a) (iC f) l ()) = (bif decide ((bJ x (a.length : Int) : Int) ≠ 0) then bJ x (a.length : Int) else each (fO a) (eX f) l ())
      rw [JF, ih]
  have k2 : ∀ l : List (List Val), each (iD a) iE l () = each (gL a) fP l () := by
    intro l
    induction l with
    | nil => rfl
    | cons x l ih =>
      show (bif (!(aP (x.length : Int) 1 4)) then 2 else each (iB a) (iC (each (iD a) iE l)) x ()) = (bif (decide (((x.length : Int) : Int) = 0) || decide ((4 : Int) < (x.length : Int))) then 2 else each (fO a) (eX (each (gL a) fP l)) x ())
      have e : (!(aP (x.length : Int) 1 4)) = (decide (((x.length : Int) : Int) = 0) || decide ((4 : Int) < (x.length : Int))) := by
        unfold aP; rw [Bool.eq_iff_iff]; simp only [Bool.or_eq_true, Bool.not_eq_true', Bool.and_eq_false_iff, decide_eq_true_eq, decide_eq_false_iff_not]; omega
      rw [e, k1]
      have : each (iD a) iE l = each (gL a) fP l := by funext u; exact ih
      rw [this]
  rw [k2]
theorem K9 (a : List (List Val)) : bW a = 0 ↔ mW a := by
  have k1 : ∀ (l : List Val) (f : Unit → Int), each (fO a) (eX f) l () = 0 ↔ (∀ v ∈ l, iT a.length v) ∧ f () = 0 := by
    intro l f
    induction l with
    | nil => simp [fw, eX]
    | cons x l ih =>
      show (bif decide ((bJ x (a.length : Int) : Int) ≠ 0) then bJ x (a.length : Int) else each (fO a) (eX f) l ()) = 0 ↔ _
      by_cases h : bJ x (a.length : Int) = 0
      · rw [dF (by omega), cond_false, ih]
        have := (y5 _ _).1 h
        simp [this]
      · rw [dT h, cond_true]
        have h2 : ¬ iT a.length x := fun e => h ((y5 _ _).2 e)
        simp [h, h2]
  have k2 : ∀ l : List (List Val), each (gL a) fP l () = 0 ↔ ∀ c ∈ l, (1 ≤ c.length ∧ c.length ≤ 4) ∧ ∀ v ∈ c, iT a.length v := by
    intro l
    induction l with
    | nil => simp [fw, fP]
    | cons x l ih =>
      show (bif (decide (((x.length : Int) : Int) = 0) || decide ((4 : Int) < (x.length : Int))) then 2 else each (fO a) (eX (each (gL a) fP l)) x ()) = 0 ↔ _
      by_cases h : 1 ≤ x.length ∧ x.length ≤ 4
      · rw [show (decide (((x.length : Int) : Int) = 0) || decide ((4 : Int) < (x.length : Int))) = false by simp only [Bool.or_eq_false_iff, decide_eq_false_iff_not]; omega, cond_false, k1, ih]
        simp [h]
      · rw [show (decide (((x.length : Int) : Int) = 0) || decide ((4 : Int) < (x.length : Int))) = true by simp only [Bool.or_eq_true, decide_eq_true_eq]; omega, cond_true]
        simp [h]
  unfold bW mW
  by_cases h : a.length ≤ 24
  · rw [dF (by omega), cond_false, k2]; simp [h]
  · rw [dT (by omega), cond_true]; simp [h]
structure y8 (a : List bR) (n : Nat) (f : LX.Frame) (x : bR) : Prop where
  proc : idx a f.proc = some x
  at_ : 0 ≤ f.at_ ∧ f.at_ < x.code.length
  regs : (f.regs.length : Int) = x.regs
  vals : ∀ v ∈ f.regs, iT n v
def iF (a : List bR) (n : Nat) : Int → List LX.Frame → Prop
  | _, [] => True
  | ahead, f :: l => (∃ x, y8 a n f x) ∧ (0 ≤ f.kL ∧ f.kL < ahead) ∧ iF a n f.regs.length l
structure FN (a : List bR) (s : LX.State) : Prop where
  status : 0 ≤ s.status ∧ s.status ≤ 3
  bN : -1000000000 ≤ s.bN ∧ s.bN ≤ 1000000000
  stay : s.status ≠ 3 → s.bN = 0
  ended : s.status = 1 ↔ s.frames = []
  many : s.frames.length ≤ 10
  cells : mW s.cells
  frames : iF a s.cells.length 1 s.frames
end Go.Proofs.YtfclkapelkhlpaaGreatDoor
namespace Go.Proofs.YtfclkapelkhlpaaGreatDoor
open Go Go.Proofs Go.LX
def ahead (pre : List LX.Frame) : Int := match pre.getLast? with | none => 1 | some f => f.regs.length
theorem Gp : ahead [] = 1 := rfl
theorem EU (pre : List LX.Frame) (f : LX.Frame) : ahead (pre ++ [f]) = f.regs.length := by simp [ahead]
theorem CP (b : LX.State) (f : LX.Frame) (n1 : Unit → Option Int) (n2 : Int → Option Int) (hn : n1 () = n2 f.regs.length) : ∀ l : List Val, each (lh b) (ll n1) l () = each (ku b) (kv n2 f) l ()
  | [] => hn
  | x :: l => by
    show (bif decide ((bJ x (b.cells.length : Int) : Int) ≠ 0) then some (bJ x (b.cells.length : Int)) else each (lh b) (ll n1) l ()) = (bif decide ((dh x (b.cells.length : Int) : Int) ≠ 0) then some (dh x (b.cells.length : Int)) else each (ku b) (kv n2 f) l ())
    rw [JF, CP b f n1 n2 hn l]
theorem JH (b : LX.State) (n1 : Unit → Option Int) (Q : Prop) (hn : ∃ y, n1 () = some y ∧ (y = 0 ↔ Q)) : ∀ l : List Val, ∃ y, each (lh b) (ll n1) l () = some y ∧ (y = 0 ↔ (∀ v ∈ l, iT b.cells.length v) ∧ Q)
  | [] => by obtain ⟨y, h1, h2⟩ := hn; exact ⟨y, h1, by simp [h2]⟩
  | x :: l => by
    obtain ⟨y, h1, h2⟩ := JH b n1 Q hn l
    have e : each (lh b) (ll n1) (x :: l) () = (bif decide ((bJ x (b.cells.length : Int) : Int) ≠ 0) then some (bJ x (b.cells.length : Int)) else each (lh b) (ll n1) l ()) := rfl
    rw [e]
    by_cases h : bJ x (b.cells.length : Int) = 0
    · rw [dF (by omega), cond_false]
      have := (y5 _ _).1 h
      exact ⟨y, h1, by rw [h2]; simp [this]⟩
    · rw [dT h, cond_true]
      refine ⟨_, rfl, ?_⟩
      have h3 : ¬ iT b.cells.length x := fun e => h ((y5 _ _).2 e)
      simp [h, h3]
theorem Dk (a : List bR) (b : LX.State) (hm : b.frames.length ≤ 10) : ∀ (l pre : List LX.Frame), b.frames = pre ++ l →
    eU (oZ a b) q8 (pre.length : Int) l () = each (dL a b) gz l (ahead pre)
  | [], pre, h => rfl
  | f :: l, pre, h => by
    have ih := Dk a b hm l (pre ++ [f]) (by simpa using h)
    rw [EU] at ih
    have hi : (((pre ++ [f]).length : Nat) : Int) = (pre.length : Int) + 1 := by simp
    rw [hi] at ih
    rw [jh, cz]
    generalize eU (oZ a b) q8 ((pre.length : Int) + 1) l = K1 at ih ⊢
    generalize each (dL a b) gz l = K2 at ih ⊢
    unfold oZ dL
    have hl : pre.length ≤ 10 := by have := congrArg List.length h; simp at this; omega
    have e1 : (decide ((f.proc : Int) < 0) || decide (((a.length : Int) : Int) ≤ f.proc)) = !aL f.proc (a.length : Int) := BN _ _
    rw [e1]
    cases hp : aL f.proc (a.length : Int) with
    | false => rfl
    | true =>
      simp only [Bool.not_true, cond_false]
      cases hx : idx a f.proc with
      | none => rfl
      | some x =>
        simp only [bnd]
        cases ha : aL f.at_ (x.code.length : Int) with
        | false =>
          rw [show (((decide ((f.at_ : Int) < 0) || decide (((x.code.length : Int) : Int) ≤ f.at_)) || decide ((f.kL : Int) < 0)) || (decide ((pre.length : Int) = 0) && decide ((f.kL : Int) ≠ 0))) = true by
            have := BN f.at_ (x.code.length : Int)
            rw [ha] at this
            rw [this]; rfl]
          rfl
        | true =>
          have h3 := BN f.at_ (x.code.length : Int)
          rw [ha] at h3
          rw [h3]
          simp only [Bool.not_true, Bool.false_or, cond_false]
          have key : ∀ t, oW f x b K1 t = eP a f b K2 t := by
            intro t
            unfold oW eP
            rw [hx, bnd, CP b f _ _ ih]
          simp only [key]
          rcases List.eq_nil_or_concat pre with rfl | ⟨q, g, rfl⟩
          · rw [Gp]
            by_cases ht : f.kL = 0
            · rw [show (decide ((f.kL : Int) < 0) || (decide ((([] : List LX.Frame).length : Int) = 0) && decide ((f.kL : Int) ≠ 0))) = false by simp [ht], cond_false, dF (by simp), cond_false, show (!aL f.kL 1) = false by simp [ht, aL]]
            · rw [show (decide ((f.kL : Int) < 0) || (decide ((([] : List LX.Frame).length : Int) = 0) && decide ((f.kL : Int) ≠ 0))) = true by simp [ht], cond_true, show (!aL f.kL 1) = true by simp [aL]; omega]
          · rw [List.concat_eq_append] at *
            rw [EU]
            have hlen : ((q ++ [g]).length : Int) = (q.length : Int) + 1 := by simp
            rw [hlen, show (decide ((q.length : Int) + 1 = 0)) = false from dF (by omega), Bool.false_and, Bool.or_false]
            by_cases ht : f.kL < 0
            · rw [dT ht, cond_true, show (!aL f.kL (g.regs.length : Int)) = true by simp [aL]; omega]
            · rw [dF ht, cond_false, dT (by omega), cond_true, gI (by omega) (by simp at hl; omega), show (q.length : Int) + 1 - 1 = ((q.length : Nat) : Int) by omega, oP, h]
              simp only [List.append_assoc, List.getElem?_append_right (Nat.le_refl _), Nat.sub_self, List.cons_append, List.nil_append, List.getElem?_cons_zero, bnd]
              congr 1
              rw [Bool.eq_iff_iff]; simp [aL]; omega
theorem EW (a : List bR) (b : LX.State) : vo a b = mV a b := by
  unfold vo mV
  have e1 : (((decide ((b.status : Int) < 0) || decide ((3 : Int) < b.status)) || decide ((b.bN : Int) < -1000000000)) || decide ((1000000000 : Int) < b.bN)) = ((!(aP b.status 0 3)) || (!(dP b.bN))) := by
    unfold dP aP; rw [Bool.eq_iff_iff]; simp only [Bool.or_eq_true, Bool.not_eq_true', Bool.and_eq_false_iff, decide_eq_true_eq, decide_eq_false_iff_not]; omega
  have e2 : ((decide ((b.status : Int) ≠ 3) && decide ((b.bN : Int) ≠ 0)) || (decide ((b.status : Int) = 1) != decide (((b.frames.length : Int) : Int) = 0))) = (((decide ((b.bN : Int) ≠ 0) && decide ((b.status : Int) ≠ 3)) || (decide ((b.status : Int) = 1) && decide ((0 : Int) < (b.frames.length : Int)))) || (decide ((b.status : Int) ≠ 1) && decide (((b.frames.length : Int) : Int) = 0))) := by
    by_cases h1 : b.status = 1 <;> by_cases h2 : b.frames.length = 0 <;> by_cases h3 : b.status = 3 <;> by_cases h4 : b.bN = 0 <;> simp [h1, h2, h3, h4] <;> omega
  rw [e1, e2, JG]
  by_cases h : b.frames.length ≤ 10
  · have := Dk a b h b.frames [] rfl
    rw [Gp] at this
    rw [← this]; rfl
  · rw [show (decide ((10 : Int) < (b.frames.length : Int))) = true from dT (by omega)]
    rfl
theorem EX (a : List bR) (b : LX.State) : ∀ (l : List LX.Frame) (t : Int), ∃ y, each (dL a b) gz l t = some y ∧ (y = 0 ↔ iF a b.cells.length t l)
  | [], t => ⟨0, rfl, by simp [iF]⟩
  | f :: l, t => by
    obtain ⟨y, h1, h2⟩ := EX a b l f.regs.length
    rw [cz]
    generalize each (dL a b) gz l = K2 at h1 ⊢
    unfold dL
    cases hp : aL f.proc (a.length : Int) with
    | false =>
      refine ⟨5, rfl, ?_⟩
      have : ¬ iF a b.cells.length t (f :: l) := by
        rintro ⟨⟨x, g⟩, -, -⟩
        have := aU g.proc
        have h3 := (List.getElem?_eq_some_iff.1 this.2).1
        unfold aL at hp
        simp only [Bool.and_eq_false_iff, decide_eq_false_iff_not] at hp
        omega
      simp [this]
    | true =>
      unfold aL at hp
      simp only [Bool.and_eq_true, decide_eq_true_eq] at hp
      simp only [Bool.not_true, cond_false]
      obtain ⟨n, hn⟩ := Int.eq_ofNat_of_zero_le hp.1
      have hx : idx a f.proc = some (a[n]'(by omega)) := by rw [hn, xA (by omega)]
      generalize a[n]'(by omega) = x at hx
      rw [hx, bnd]
      have kB : ∃ y, eP a f b K2 true = some y ∧ y ≠ 0 := ⟨3, rfl, by decide⟩
      have uniq : ∀ z, y8 a b.cells.length f z → z = x := fun z g => by have := g.proc; rw [hx] at this; exact (gM this).symm
      cases ha : aL f.at_ (x.code.length : Int) with
      | false =>
        obtain ⟨y, g1, g2⟩ := kB
        refine ⟨y, g1, ?_⟩
        have : ¬ iF a b.cells.length t (f :: l) := by
          rintro ⟨⟨z, g⟩, -, -⟩
          have := uniq z g; subst this
          have := g.at_
          unfold aL at ha
          simp only [Bool.and_eq_false_iff, decide_eq_false_iff_not] at ha
          omega
        simp [this, g2]
      | true =>
        simp only [Bool.not_true, cond_false]
        cases ht : aL f.kL t with
        | false =>
          obtain ⟨y, g1, g2⟩ := kB
          refine ⟨y, g1, ?_⟩
          have : ¬ iF a b.cells.length t (f :: l) := by
            rintro ⟨⟨z, g⟩, h3, -⟩
            unfold aL at ht
            simp only [Bool.and_eq_false_iff, decide_eq_false_iff_not] at ht
            omega
          simp [this, g2]
        | true =>
          simp only [Bool.not_true]
          unfold eP
          rw [hx, cond_false, bnd]
          unfold aL at ha ht
          simp only [Bool.and_eq_true, decide_eq_true_eq] at ha ht
          by_cases hr : (f.regs.length : Int) = x.regs
          · rw [dF (by omega), cond_false, ← CP b f (fun _ => K2 f.regs.length) _ rfl]
            obtain ⟨z, g1, g2⟩ := JH b (fun _ => K2 f.regs.length) _ ⟨y, h1, h2⟩ f.regs
            refine ⟨z, g1, g2.trans ⟨fun h => ⟨⟨x, hx, ha, hr, h.1⟩, ht, h.2⟩, ?_⟩⟩
            rintro ⟨⟨z, g⟩, h3, h4⟩
            exact ⟨g.vals, h4⟩
          · rw [dT (by omega), cond_true]
            refine ⟨4, rfl, ?_⟩
            have : ¬ iF a b.cells.length t (f :: l) := by
              rintro ⟨⟨z, g⟩, -, -⟩
              have := uniq z g; subst this
              exact hr g.regs
            simp [this]
theorem EY (a : List bR) (b : LX.State) : ∃ y, vo a b = some y ∧ (y = 0 ↔ FN a b) := by
  rw [EW]
  unfold mV
  cases c1 : ((!(aP b.status 0 3)) || (!(dP b.bN))) with
  | true =>
    refine ⟨3, rfl, ⟨fun h => absurd h (by decide), fun h => ?_⟩⟩
    unfold dP aP at c1
    simp only [Bool.or_eq_true, Bool.not_eq_true', Bool.and_eq_false_iff, decide_eq_false_iff_not] at c1
    have := h.status; have := h.bN; omega
  | false =>
    unfold dP aP at c1
    simp only [Bool.or_eq_false_iff, Bool.not_eq_false', Bool.and_eq_true, decide_eq_true_eq] at c1
    rw [cond_false]
    cases c2 : (((decide ((b.bN : Int) ≠ 0) && decide ((b.status : Int) ≠ 3)) || (decide ((b.status : Int) = 1) && decide ((0 : Int) < (b.frames.length : Int)))) || (decide ((b.status : Int) ≠ 1) && decide (((b.frames.length : Int) : Int) = 0))) with
    | true =>
      refine ⟨4, rfl, ⟨fun h => absurd h (by decide), fun h => ?_⟩⟩
      simp only [Bool.or_eq_true, Bool.and_eq_true, decide_eq_true_eq] at c2
      rcases c2 with (c2 | c2) | c2
      · exact absurd (h.stay c2.2) c2.1
      · have := h.ended.1 c2.1; rw [this] at c2; simp at c2
      · exact absurd (h.ended.2 (List.eq_nil_of_length_eq_zero (by omega))) c2.1
    | false =>
      simp only [Bool.or_eq_false_iff, Bool.and_eq_false_iff, decide_eq_false_iff_not] at c2
      rw [cond_false]
      by_cases hm : b.frames.length ≤ 10
      · rw [dF (by omega), cond_false, JG]
        by_cases hc : bW b.cells = 0
        · rw [dF (by omega), cond_false]
          obtain ⟨y, h1, h2⟩ := EX a b b.frames 1
          refine ⟨y, h1, h2.trans ⟨fun h => ⟨by omega, by omega, fun h3 => by omega, ⟨fun h3 => ?_, fun h3 => ?_⟩, hm, (K9 _).1 hc, h⟩, fun h => h.frames⟩⟩
          · exact List.eq_nil_of_length_eq_zero (by omega)
          · rw [h3] at c2; simp at c2; omega
        · rw [dT hc, cond_true]
          exact ⟨_, rfl, ⟨fun h => absurd h hc, fun h => absurd ((K9 _).2 h.cells) hc⟩⟩
      · rw [dT (by omega), cond_true]
        exact ⟨2, rfl, ⟨fun h => absurd h (by decide), fun h => absurd h.many hm⟩⟩
def Nu (a : List bR) (s : LX.State) : Int := (vo a s).getD 0
theorem U7 (a : List bR) (s : LX.State) : vo a s = some (Nu a s) := by obtain ⟨y, h, -⟩ := EY a s; unfold Nu; rw [h]; rfl
theorem Ih {a : List bR} {s : LX.State} : Nu a s = 0 ↔ FN a s := by obtain ⟨y, h, h2⟩ := EY a s; unfold Nu; rw [h]; exact h2
theorem Dl (a : List bR) (s : LX.State) : wV a s = some (if Nt a ≠ 0 then Nt a else Nu a s) := by
  unfold wV
  rw [Qk, bnd]
  by_cases h : Nt a = 0
  · rw [dF (by omega), cond_false, U7, bnd, if_neg (by omega)]
  · rw [dT h, cond_true, if_pos h]
end Go.Proofs.YtfclkapelkhlpaaGreatDoor
namespace Go.Proofs.YtfclkapelkhlpaaGreatDoor
open Go Go.Proofs Go.LX
theorem Ql (a b : List Val) : iO a b = some (decide (a = b)) := by
  unfold iO
  by_cases h : a.length = b.length
  · rw [dF (by omega)]
    simp only [cond_false, Int.toNat_natCast]
    rw [FZ (fun x y => decide (x = y)) a b h rfl (fun i x y nx h1 h2 => by
      unfold kK
      rw [oP, oP, h1, h2]
      obtain ⟨k, n⟩ := x; obtain ⟨k2, n2⟩ := y
      by_cases e : k = k2 <;> by_cases e2 : n = n2 <;> simp [e, e2]), Bj (fun _ _ => rfl)]
  · rw [dT (by omega)]
    have : a ≠ b := fun e => h (by rw [e])
    rw [dF this]; rfl
theorem RX (a b : List (List Val)) : zL a b = some (decide (a = b)) := by
  unfold zL
  by_cases h : a.length = b.length
  · rw [dF (by omega), cond_false, Ed (fun x y => decide (x = y)) a b h rfl (fun i x y nx h2 => by
      unfold uO
      rw [oP, h2, bnd, Ql, bnd]
      by_cases e : x = y <;> simp [e]), Bj (fun _ _ => rfl)]
  · rw [dT (by omega)]
    have : a ≠ b := fun e => h (by rw [e])
    rw [dF this]; rfl
theorem XD (x y : LX.Frame) (nx : Unit → Option Bool) : (bif ((decide ((x.proc : Int) = y.proc) && decide ((x.at_ : Int) = y.at_)) && decide ((x.kL : Int) = y.kL)) then (iO x.regs y.regs).bind fun y39 => qA nx (!y39) else qA nx true) = bif decide (x = y) then nx () else some false := by
  obtain ⟨p, t, r, o⟩ := x; obtain ⟨p2, t2, r2, o2⟩ := y
  simp only [Ql, bnd, qA]
  by_cases e1 : p = p2 <;> by_cases e2 : t = t2 <;> by_cases e3 : r = r2 <;> by_cases e4 : o = o2 <;> simp [e1, e2, e3, e4]
theorem XE (a b : LX.State) : decide (a = b) = ((decide (a.status = b.status) && decide (a.bN = b.bN)) && (decide (a.cells = b.cells) && decide (a.frames = b.frames))) := by
  obtain ⟨f, c, s, w⟩ := a; obtain ⟨f2, c2, s2, w2⟩ := b
  rw [Bool.eq_iff_iff]; simp; constructor <;> (intro h; simp [h])
theorem Mk (a b : LX.State) : xX a b = some (decide (a = b)) := by
  rw [XE]
  unfold xX
  cases (decide ((a.status : Int) = b.status) && decide ((a.bN : Int) = b.bN)) with
  | false => rfl
  | true =>
    rw [cond_true, RX, bnd]
    cases decide (a.cells = b.cells) with
    | false => rfl
    | true =>
      rw [cond_true]
      by_cases h : a.frames.length = b.frames.length
      · rw [dF (by omega), cond_false, Ed (fun x y => decide (x = y)) a.frames b.frames h rfl (fun i x y nx h2 => by
          unfold vP
          rw [oP, h2, bnd]
          exact XD x y nx), Bj (fun _ _ => rfl)]; rfl
      · rw [dT (by omega)]
        have : a.frames ≠ b.frames := fun e => h (by rw [e])
        rw [dF this]; rfl
structure Small (s : LX.State) : Prop where
  frames : s.frames.length ≤ 10
  regs : ∀ f ∈ s.frames, f.regs.length ≤ 40
  cells : s.cells.length ≤ 24
  fields : ∀ c ∈ s.cells, c.length ≤ 4
theorem rz {a : List bR} {n : Nat} : ∀ {l : List LX.Frame} {t : Int}, iF a n t l → ∀ f ∈ l, ∃ x, y8 a n f x
  | [], _, _, f, hf => by cases hf
  | g :: l, t, h, f, hf => by
    rcases List.mem_cons.1 hf with rfl | hf
    · exact h.1
    · exact rz h.2.2 f hf
theorem yZ.mem {a : List bR} (h : yZ a) {k : Int} {x : bR} (hx : idx a k = some x) : x ∈ a ∧ (0 ≤ x.params ∧ x.params ≤ 3) ∧ (1 ≤ x.regs ∧ x.params ≤ x.regs ∧ x.regs ≤ 40) ∧ sD x := by
  have h1 := (aU hx).2
  have := h.head _ x h1
  exact ⟨List.mem_of_getElem? h1, this.1, this.2.1, this.2.2.2⟩
theorem FN.small {a : List bR} {s : LX.State} (h : FN a s) (ha : yZ a) : Small s where
  frames := h.many
  regs f hf := by
    obtain ⟨x, g⟩ := rz h.frames f hf
    have := (ha.mem g.proc).2.2.1
    have := g.regs
    omega
  cells := h.cells.1
  fields c hc := (h.cells.2 c hc).1.2
theorem BO {α : Type} {bytes : Nat} {a : List α} (h : a.length ≤ 400) (hb : bytes ≤ 48) : clone bytes a = some a := by
  have : a.length * bytes ≤ 400 * 48 := Nat.mul_le_mul h hb
  unfold clone
  exact sK ⟨by simp; omega, by simp; omega⟩
theorem CQ {ρ : Type} {body : Int → Unit → (Unit → ρ) → ρ} {k : Unit → ρ} : ∀ (m : Nat) (i : Nat), (∀ j : Nat, i ≤ j → j < i + m → ∀ nx, body (j : Int) () nx = nx ()) → upto body k (i : Int) m () = k ()
  | 0, i, _ => rfl
  | m + 1, i, h => by
    rw [CO, h i (Nat.le_refl _) (by omega), show ((i : Int) + 1) = ((i + 1 : Nat) : Int) by omega]
    exact CQ m (i + 1) (fun j h1 h2 => h j (by omega) (by omega))
theorem JI {l : List (List Val)} (h : l.length ≤ 24) (hf : ∀ c ∈ l, c.length ≤ 4) : zI l = some l := by
  unfold zI
  rw [BO (by omega) (by decide), bnd, Int.toNat_natCast]
  exact CQ (k := uK l) l.length 0 (fun j h1 h2 nx => by
    unfold uJ
    rw [xA (by omega), bnd, BO (by have := hf _ (List.getElem_mem (by omega : j < l.length)); omega) (by decide), bnd])
theorem copy_eq {s : LX.State} (h : Small s) : DX s = some s := by
  unfold DX
  rw [BO (by have := h.frames; omega) (by decide), bnd, JI h.cells h.fields, bnd]
  unfold Ay
  rw [Int.toNat_natCast]
  exact CQ (k := xS s s.cells) s.frames.length 0 (fun j h1 h2 nx => by
    unfold xR
    rw [xA (by omega), bnd, BO (by have := h.regs _ (List.getElem_mem (by omega : j < s.frames.length)); omega) (by decide), bnd])
theorem room_le {α : Type} {bytes : Nat} {l m : List α} (h : l.length + m.length ≤ 100000) (hb : bytes ≤ 48) : Room bytes l m := by
  have : (l.length + m.length) * bytes ≤ 100000 * 48 := Nat.mul_le_mul h hb
  exact ⟨by omega, by omega⟩
end Go.Proofs.YtfclkapelkhlpaaGreatDoor
namespace Go.Proofs.YtfclkapelkhlpaaGreatDoor
open Go Go.Proofs Go.LX
def BP (l : List Int) (v : Val) : List Int := if v.kind = 2 ∧ v.n ∉ l then l ++ [v.n] else l
def BQ (l : List Int) (vs : List Val) : List Int := vs.foldl BP l
def cellAt (cells : List (List Val)) (k : Int) : List Val := (idx cells k).getD []
def FO (cells : List (List Val)) : Nat → Nat → List Int → List Int
  | 0, _, l => l
  | m + 1, k, l => if h : k < l.length then FO cells m (k + 1) (BQ l (cellAt cells l[k])) else l
def za (cells : List (List Val)) (vs : List Val) : List Int := FO cells 25 0 (BQ [] vs)
theorem zM (l : List Int) (v : Val) (vs : List Val) : BQ l (v :: vs) = BQ (BP l v) vs := rfl
theorem Qm (l : List Int) (v : Val) : l <+: BP l v := by
  unfold BP; split
  · exact List.prefix_append _ _
  · exact List.prefix_refl _
theorem zb : ∀ (vs : List Val) (l : List Int), l <+: BQ l vs
  | [], l => List.prefix_refl _
  | v :: vs, l => (Qm l v).trans (zb vs _)
theorem Ml (cells : List (List Val)) : ∀ (m k : Nat) (l : List Int), l <+: FO cells m k l
  | 0, _, l => List.prefix_refl _
  | m + 1, k, l => by
    unfold FO; split
    · exact (zb _ _).trans (Ml cells m _ _)
    · exact List.prefix_refl _
theorem Gq : ∀ (n : Nat) (l : List Int), l.Nodup → (∀ x ∈ l, 0 ≤ x ∧ x < n) → l.length ≤ n
  | 0, l, _, h => by
    cases l with
    | nil => simp
    | cons x l => have := h x (by simp); omega
  | n + 1, l, hn, h => by
    have h1 := Gq n (l.erase (n : Int)) (hn.erase _) (fun x hx => by
      have h2 := (hn.mem_erase_iff).1 hx
      have := h x h2.2
      have h3 := h2.1
      constructor
      · omega
      · push_cast at this; omega)
    have h4 : l.length ≤ (l.erase (n : Int)).length + 1 := by rw [List.length_erase]; split <;> omega
    omega
def nW (n : Nat) (l : List Int) : Prop := l.Nodup ∧ ∀ x ∈ l, 0 ≤ x ∧ x < n
theorem nW.len {n : Nat} {l : List Int} (h : nW n l) : l.length ≤ n := Gq n l h.1 h.2
theorem nW.nil {n : Nat} : nW n [] := ⟨List.nodup_nil, fun x hx => by cases hx⟩
theorem iT.ref {n : Nat} {v : Val} (h : iT n v) (hk : v.kind = 2) : 0 ≤ v.n ∧ v.n < n := by unfold iT at h; omega
theorem nW.v {n : Nat} {l : List Int} (h : nW n l) {v : Val} (hv : iT n v) : nW n (BP l v) := by
  unfold BP; split
  · rename_i hc
    refine ⟨List.nodup_append.2 ⟨h.1, by simp, fun a ha b hb => ?_⟩, fun x hx => ?_⟩
    · simp at hb; subst hb; intro e; subst e; exact hc.2 ha
    · rcases List.mem_append.1 hx with hx | hx
      · exact h.2 x hx
      · simp at hx; subst hx; exact hv.ref hc.1
  · exact h
theorem nW.l {n : Nat} : ∀ {vs : List Val} {l : List Int}, nW n l → (∀ v ∈ vs, iT n v) → nW n (BQ l vs)
  | [], l, h, _ => h
  | v :: vs, l, h, hv => nW.l (vs := vs) (l := BP l v) (h.v (hv v (by simp))) (fun w hw => hv w (List.mem_cons_of_mem _ hw))
theorem AB {cells : List (List Val)} {k : Int} (h : 0 ≤ k ∧ k < cells.length) : idx cells k = some (cellAt cells k) ∧ cellAt cells k ∈ cells := by
  obtain ⟨n, rfl⟩ := Int.eq_ofNat_of_zero_le h.1
  unfold cellAt
  rw [xA (by omega)]
  exact ⟨rfl, List.getElem_mem _⟩
theorem mW.at {cells : List (List Val)} (h : mW cells) {k : Int} (hk : 0 ≤ k ∧ k < cells.length) : (1 ≤ (cellAt cells k).length ∧ (cellAt cells k).length ≤ 4) ∧ ∀ v ∈ cellAt cells k, iT cells.length v := h.2 _ (AB hk).2
theorem nW.FO {cells : List (List Val)} (hc : mW cells) : ∀ {m k : Nat} {l : List Int}, nW cells.length l → nW cells.length (FO cells m k l)
  | 0, _, l, h => h
  | m + 1, k, l, h => by
    unfold Proofs.YtfclkapelkhlpaaGreatDoor.FO; split
    · rename_i hk
      exact nW.FO hc (h.l (hc.at (h.2 _ (List.getElem_mem hk))).2)
    · exact h
def jk (vs : List Val) (l : List Int) : Prop := ∀ v ∈ vs, v.kind = 2 → v.n ∈ l
theorem jk.pre {vs : List Val} {l m : List Int} (h : jk vs l) (hp : l <+: m) : jk vs m := fun v hv hk => hp.subset (h v hv hk)
theorem RY (l : List Int) (v : Val) (hk : v.kind = 2) : v.n ∈ BP l v := by
  unfold BP; split
  · simp
  · rename_i hc
    exact Decidable.not_not.1 (fun h => hc ⟨hk, h⟩)
theorem Ii : ∀ (vs : List Val) (l : List Int), jk vs (BQ l vs)
  | [], l, v, hv, _ => by cases hv
  | w :: vs, l, v, hv, hk => by
    rw [zM]
    rcases List.mem_cons.1 hv with rfl | hv
    · exact (zb vs _).subset (RY l v hk)
    · exact Ii vs _ v hv hk
theorem Qn {cells : List (List Val)} (hc : mW cells) : ∀ {m k : Nat} {l : List Int}, nW cells.length l → cells.length < k + m → (∀ j (hj : j < l.length), j < k → jk (cellAt cells l[j]) l) → ∀ x ∈ FO cells m k l, jk (cellAt cells x) (FO cells m k l)
  | 0, k, l, h, hm, hj, x, hx => by
    have := h.len
    obtain ⟨j, h1, rfl⟩ := List.getElem_of_mem hx
    exact hj j h1 (by have h1' : j < l.length := h1; omega)
  | m + 1, k, l, h, hm, hj, x, hx => by
    unfold Proofs.YtfclkapelkhlpaaGreatDoor.FO at hx ⊢
    split at hx
    · rename_i hk
      rw [dif_pos hk]
      have hv := (hc.at (h.2 _ (List.getElem_mem hk))).2
      have hp := zb (cellAt cells l[k]) l
      refine Qn hc (h.l hv) (by omega) (fun j h1 h2 => ?_) x hx
      by_cases e : j < l.length
      · have e1 : (BQ l (cellAt cells l[k]))[j] = l[j] := (hp.getElem e).symm
        rw [e1]
        by_cases e2 : j < k
        · exact (hj j e e2).pre hp
        · have : j = k := by omega
          subst this
          exact Ii _ _
      · omega
    · rename_i hk
      rw [dif_neg hk]
      obtain ⟨j, h1, rfl⟩ := List.getElem_of_mem hx
      exact hj j h1 (by omega)
theorem Qo {cells : List (List Val)} (hc : mW cells) {vs : List Val} (hv : ∀ v ∈ vs, iT cells.length v) : nW cells.length (za cells vs) ∧ jk vs (za cells vs) ∧ ∀ x ∈ za cells vs, jk (cellAt cells x) (za cells vs) := by
  have h0 : nW cells.length (BQ [] vs) := nW.nil.l hv
  refine ⟨nW.FO hc h0, (Ii vs []).pre (Ml _ _ _ _), Qn hc h0 (by have := hc.1; omega) (fun j h1 h2 => absurd h2 (Nat.not_lt_zero _))⟩
theorem Ij {α : Type} (k k' : Int) (v : α) : ∀ l : List (Int × α), lk k (xD k' v l) = if k = k' then some v else lk k l
  | [] => by unfold xD lk; by_cases h : k = k' <;> simp [h, lk]
  | p :: l => by
    unfold xD
    by_cases h : k' = p.1
    · rw [if_pos h]
      show (if k = p.1 then some v else lk k l) = if k = k' then some v else (if k = p.1 then some p.2 else lk k l)
      by_cases e : k = p.1
      · rw [if_pos e, if_pos (by omega)]
      · rw [if_neg e, if_neg (by omega), if_neg e]
    · rw [if_neg h]
      show (if k = p.1 then some p.2 else lk k (xD k' v l)) = if k = k' then some v else (if k = p.1 then some p.2 else lk k l)
      by_cases e : k = p.1
      · rw [if_pos e, if_pos e, if_neg (by omega)]
      · rw [if_neg e, if_neg e, Ij k k' v l]
def Seen (l : List Int) (m : List (Int × Bool)) : Prop := ∀ k, (lk k m).getD false = decide (k ∈ l)
theorem Seen.nil : Seen [] [] := fun k => rfl
theorem Seen.put {l : List Int} {m : List (Int × Bool)} (h : Seen l m) (n : Int) : Seen (l ++ [n]) (xD n true m) := by
  intro k
  rw [Ij]
  by_cases e : k = n
  · simp [e]
  · rw [if_neg e, h k, Bool.eq_iff_iff]; simp [e]
theorem BR {ρ : Type} {body : Val → List Int × List (Int × Bool) → (List Int × List (Int × Bool) → Option ρ) → Option ρ} {K : List Int × List (Int × Bool) → Option ρ}
    (hb : ∀ x l m nx, l.length ≤ 1000 → body x (l, m) nx = bif (decide (x.kind = 2) && (!((lk x.n m).getD false))) then nx (l ++ [x.n], xD x.n true m) else nx (l, m)) :
    ∀ (vs : List Val) (l : List Int) (m : List (Int × Bool)), Seen l m → l.length + vs.length ≤ 1000 → ∃ m', Seen (BQ l vs) m' ∧ each body K vs (l, m) = K (BQ l vs, m')
  | [], l, m, h, _ => ⟨m, h, rfl⟩
  | v :: vs, l, m, h, hl => by
    simp only [List.length_cons] at hl
    rw [cz, hb v l m _ (by omega), h v.n, zM]
    unfold BP
    by_cases hc : v.kind = 2 ∧ v.n ∉ l
    · rw [if_pos hc, dT hc.1, dF hc.2, Bool.true_and, Bool.not_false, cond_true]
      exact BR hb vs _ _ (h.put v.n) (by simp; omega)
    · rw [if_neg hc, show (decide (v.kind = 2) && !decide (v.n ∈ l)) = false by rw [Bool.and_eq_false_iff]; simp; simp only [not_and, Decidable.not_not] at hc; by_cases e : v.kind = 2 <;> simp [e, hc], cond_false]
      exact BR hb vs _ _ h (by omega)
theorem JJ {cells : List (List Val)} (hc : mW cells) : ∀ (m N k : Nat) (l : List Int) (s : List (Int × Bool)), nW cells.length l → Seen l s → cells.length < k + m → m < N → k ≤ l.length → again (kr cells) N ((k : Int), l, s) = some (FO cells m k l, 0)
  | m, 0, k, l, s, h, hs, hm, hN, hk => by omega
  | 0, N + 1, k, l, s, h, hs, hm, hN, hk => by have := h.len; omega
  | m + 1, N + 1, k, l, s, h, hs, hm, hN, hk => by
    rw [xY]
    unfold kr Proofs.YtfclkapelkhlpaaGreatDoor.FO
    simp only
    have hl := h.len
    have hn := hc.1
    by_cases hlt : k < l.length
    · rw [dT (by omega), cond_true, xA hlt, bnd, dif_pos hlt]
      have hr := h.2 _ (List.getElem_mem hlt)
      have hv := hc.at hr
      rw [(AB hr).1, bnd]
      have e0 : (fun (s : Int × List Int × List (Int × Bool)) (Jz : Int × List Int × List (Int × Bool) → Option (List Int × Int)) => match s with | (EF, zF, Iu) => bif decide ((EF : Int) < (zF.length : Int)) then (idx zF EF).bind fun Yg => (idx cells Yg).bind fun x87 => each lX (lY EF Jz) x87 (zF, Iu) else some (zF, 0)) = kr cells := rfl
      rw [e0]
      obtain ⟨s', h1, h2⟩ := BR (body := lX) (K := lY (k : Int) (again (kr cells) N)) (fun x l m nx hl => by
        unfold lX
        simp only [rf]
        cases (decide (x.kind = 2) && (!((lk x.n m).getD false))) with
        | false => rfl
        | true => rw [cond_true, cond_true, sK (room_le (by simp; omega) (by decide))]) (cellAt cells l[k]) l s hs (by have := hv.1.2; omega)
      rw [h2]
      unfold lY
      simp only
      rw [gI (by omega) (by omega)]
      have hp := (zb (cellAt cells l[k]) l).length_le
      exact JJ hc m N (k + 1) _ s' (h.l hv.2) h1 (by omega) (by omega) (by omega)
    · rw [dF (by omega), cond_false, dif_neg hlt]
theorem Qp {N : Nat} (hN : 100 ≤ N) {cells : List (List Val)} (hc : mW cells) {vs : List Val} (hv : ∀ v ∈ vs, iT cells.length v) (hl : vs.length ≤ 400) : xU N cells vs = some (za cells vs, 0) := by
  unfold xU
  rw [(K9 cells).2 hc, dF (by simp), cond_false, dF (by omega), cond_false]
  have k1 : ∀ l : List Val, (∀ v ∈ l, iT cells.length v) → each (oH cells) (lZ N cells vs) l () = lZ N cells vs () := by
    intro l
    induction l with
    | nil => intro _; rfl
    | cons x l ih =>
      intro h
      rw [cz]
      unfold oH
      rw [(y5 _ _).2 (h x (by simp)), dF (by simp), cond_false]
      exact ih (fun v hv => h v (List.mem_cons_of_mem _ hv))
  rw [k1 vs hv]
  unfold lZ
  obtain ⟨s', h1, h2⟩ := BR (body := oG) (K := rq N cells) (fun x l m nx hl => by
    unfold oG
    simp only [q9]
    cases (decide (x.kind = 2) && (!((lk x.n m).getD false))) with
    | false => rfl
    | true => rw [cond_true, cond_true, sK (room_le (by simp; omega) (by decide))]) vs [] [] Seen.nil (by simp; omega)
  rw [h2]
  exact JJ hc 25 N 0 _ s' (nW.nil.l hv) h1 (by have := hc.1; omega) (by omega) (by omega)
end Go.Proofs.YtfclkapelkhlpaaGreatDoor
namespace Go.Proofs.YtfclkapelkhlpaaGreatDoor
open Go Go.Proofs Go.LX
def ren (l : List Int) (v : Val) : Val := if v.kind = 2 then ⟨v.kind, (l.idxOf v.n : Nat)⟩ else v
def JK (l : List Int) (f : LX.Frame) : LX.Frame := { f with regs := f.regs.map (ren l) }
def roots (fr : List LX.Frame) : List Val := fr.flatMap (·.regs)
def rA (s : LX.State) : List Int := za s.cells (roots s.frames)
def lG (s : LX.State) : LX.State := ⟨s.frames.map (JK (rA s)), (rA s).map (fun k => (cellAt s.cells k).map (ren (rA s))), s.status, s.bN⟩
structure FP (s : LX.State) : Prop where
  small : Small s
  cells : mW s.cells
  vals : ∀ f ∈ s.frames, ∀ v ∈ f.regs, iT s.cells.length v
theorem FN.sw {a : List bR} {s : LX.State} (h : FN a s) (ha : yZ a) : FP s where
  small := h.small ha
  cells := h.cells
  vals f hf := by obtain ⟨x, g⟩ := rz h.frames f hf; exact g.vals
theorem FP.roots {s : LX.State} (h : FP s) : ∀ v ∈ roots s.frames, iT s.cells.length v := by
  intro v hv
  unfold YtfclkapelkhlpaaGreatDoor.roots at hv
  obtain ⟨f, hf, hv⟩ := List.mem_flatMap.1 hv
  exact h.vals f hf v hv
theorem Nv (fr : List LX.Frame) (h : ∀ f ∈ fr, f.regs.length ≤ 40) : (roots fr).length ≤ 40 * fr.length := by
  induction fr with
  | nil => simp [roots]
  | cons f l ih =>
    have := h f (by simp)
    have := ih (fun g hg => h g (List.mem_cons_of_mem _ hg))
    unfold roots at *
    rw [List.flatMap_cons, List.length_append, List.length_cons]; omega
theorem FP.XF {s : LX.State} (h : FP s) : (YtfclkapelkhlpaaGreatDoor.roots s.frames).length ≤ 400 := by
  have := Nv s.frames h.small.regs
  have := h.small.frames
  omega
theorem FP.reach {s : LX.State} (h : FP s) : nW s.cells.length (rA s) ∧ jk (YtfclkapelkhlpaaGreatDoor.roots s.frames) (rA s) ∧ ∀ x ∈ rA s, jk (cellAt s.cells x) (rA s) := Qo h.cells h.roots
theorem JM {α ρ : Type} {body : Int → List α → (List α → Option ρ) → Option ρ} {K : List α → Option ρ} {g : α → α} {P : α → Prop}
    (hb : ∀ (i : Nat) (x : List α) a nx, x[i]? = some a → P a → body (i : Int) x nx = nx (x.set i (g a))) :
    ∀ (l2 l1 : List α), (∀ a ∈ l2, P a) → upto body K (l1.length : Int) l2.length (l1 ++ l2) = K (l1 ++ l2.map g)
  | [], l1, _ => by simp [upto]
  | a :: l2, l1, h => by
    rw [List.length_cons, CO, hb l1.length (l1 ++ a :: l2) a _ (by simp) (h a (by simp))]
    have := JM (K := K) hb l2 (l1 ++ [g a]) (fun b hb => h b (List.mem_cons_of_mem _ hb))
    rw [show (l1 ++ a :: l2).set l1.length (g a) = (l1 ++ [g a]) ++ l2 by simp, show ((l1.length : Int) + 1) = ((l1 ++ [g a]).length : Nat) by simp, this]
    simp
theorem CR {α ρ : Type} {body : Int → List α → (List α → Option ρ) → Option ρ} {K : List α → Option ρ} {g : α → α} {P : α → Prop}
    (hb : ∀ (i : Nat) (x : List α) a nx, x[i]? = some a → P a → body (i : Int) x nx = nx (x.set i (g a))) (l : List α) (hp : ∀ a ∈ l, P a) : upto body K 0 l.length l = K (l.map g) := by
  have := JM (K := K) hb l [] hp
  simpa using this
def EZ (l : List Int) (m : List (Int × Int)) : Prop := ∀ k, lk k m = if k ∈ l then some ((l.idxOf k : Nat) : Int) else none
theorem Mm {l : List Int} {m : List (Int × Int)} (h : EZ l m) (vs : List Val) (hr : jk vs l) : EG vs m = some (vs.map (ren l)) := by
  unfold EG
  rw [Int.toNat_natCast]
  refine CR (P := fun v => v.kind = 2 → v.n ∈ l) (fun i x a nx hx hp => ?_) vs (fun v hv => hr v hv)
  unfold zK zJ
  rw [oP, hx, bnd]
  by_cases hk : a.kind = 2
  · rw [dT hk, cond_true, h a.n, if_pos (hp hk)]
    simp [ren, hk]
  · rw [dF hk, cond_false]
    have : x.set i a = x := by
      obtain ⟨h1, rfl⟩ := List.getElem?_eq_some_iff.1 hx
      exact List.set_getElem_self h1
    simp [ren, hk, this]
theorem E5 {s : LX.State} (hc : mW s.cells) {K : List (List Val) × List Int × List (Int × Int) → Option LX.State} : ∀ (l2 l1 : List Int) (m : List (Int × Int)), nW s.cells.length (l1 ++ l2) → EZ l1 m →
    ∃ m', EZ (l1 ++ l2) m' ∧ eU (mU s) K (l1.length : Int) l2 (l1.map (cellAt s.cells), l1, m) = K ((l1 ++ l2).map (cellAt s.cells), l1 ++ l2, m')
  | [], l1, m, _, h => ⟨m, by simpa using h, by simp [eU]⟩
  | k :: l2, l1, m, hm, h => by
    have e1 : l1 ++ k :: l2 = (l1 ++ [k]) ++ l2 := by simp
    have hk : k ∉ l1 := by
      intro hk
      exact (List.nodup_append.1 hm.1).2.2 k hk k (by simp) rfl
    have hl := hm.len
    have hn := hc.1
    simp only [List.length_append, List.length_cons] at hl
    have hr := hm.2 k (by simp)
    rw [jh]
    obtain ⟨m', h1, h2⟩ := E5 hc (K := K) l2 (l1 ++ [k]) (xD k (l1.length : Int) m) (by rw [← e1]; exact hm) (fun q => by
      rw [Ij]
      by_cases e : q = k
      · subst e
        rw [if_pos rfl, if_pos (by simp), List.idxOf_append, if_neg hk]
        simp
      · rw [if_neg e, h q]
        by_cases hq : q ∈ l1
        · rw [if_pos hq, if_pos (by simp [hq]), List.idxOf_append, if_pos hq]
        · rw [if_neg hq, if_neg (by simp [hq, e])])
    refine ⟨m', by rw [e1]; exact h1, ?_⟩
    have hlen : (((l1 ++ [k]).length : Nat) : Int) = (l1.length : Int) + 1 := by simp
    rw [hlen] at h2
    rw [e1, ← h2]
    generalize eU (mU s) K ((l1.length : Int) + 1) l2 = K1
    unfold mU
    simp only
    rw [(AB hr).1, bnd, sK hk, sK (room_le (by simp; omega) (by decide)), List.map_append]
    rfl
theorem Ik {l : List Int} {m : List (Int × Int)} (h : EZ l m) (K : List LX.Frame → Option LX.State) (fr : List LX.Frame) (hr : ∀ f ∈ fr, jk f.regs l) : upto (ru m) K 0 fr.length fr = K (fr.map (JK l)) :=
  CR (P := fun f => jk f.regs l) (fun i x a nx hx hp => by
    unfold ru
    rw [oP, hx, bnd, Mm h a.regs hp, bnd]
    simp [JK]) fr hr
theorem JN {l : List Int} {m : List (Int × Int)} (h : EZ l m) (K : List (List Val) → Option LX.State) (cs : List (List Val)) (hr : ∀ c ∈ cs, jk c l) : upto (tN m) K 0 cs.length cs = K (cs.map (fun c => c.map (ren l))) :=
  CR (P := fun c => jk c l) (fun i x a nx hx hp => by
    unfold tN
    rw [oP, hx, bnd, Mm h a hp, bnd]
    simp) cs hr
theorem Gr {K : List Val → Option LX.State} : ∀ (fr : List LX.Frame) (acc : List Val), acc.length + (roots fr).length ≤ 1000 → each o8 K fr acc = K (acc ++ roots fr)
  | [], acc, _ => by simp [fw, roots]
  | f :: fr, acc, h => by
    have e : roots (f :: fr) = f.regs ++ roots fr := rfl
    rw [e, List.length_append] at h
    rw [cz]
    have ih := Gr (K := K) fr (acc ++ f.regs) (by simp; omega)
    generalize each o8 K fr = K1 at ih ⊢
    unfold o8
    rw [sK (room_le (by omega) (by decide)), ih, e, List.append_assoc]
theorem JO {fr : List LX.Frame} {l : List Int} (h : jk (roots fr) l) : ∀ f ∈ fr, jk f.regs l := fun f hf v hv hk => h v (List.mem_flatMap.2 ⟨f, hf, hv⟩) hk
theorem BU {N : Nat} (hN : 100 ≤ N) {s : LX.State} (h : FP s) : tO N s = some (lG s) := by
  have hr := h.reach
  unfold tO
  rw [Gr s.frames [] (by have := h.XF; simp; omega), List.nil_append]
  unfold uN
  rw [Qp hN h.cells h.roots h.XF, bnd, dF (by simp), cond_false, copy_eq h.small, bnd]
  have e : za s.cells (roots s.frames) = rA s := rfl
  simp only [e]
  obtain ⟨m', h1, h2⟩ := E5 h.cells (K := o7 s) (rA s) [] [] (by simpa using hr.1) (fun k => by simp [lk])
  have h2' : eU (mU s) (o7 s) 0 (rA s) ([], ([] : List Int), ([] : List (Int × Int))) = _ := h2
  rw [h2']
  simp only [List.nil_append] at h1 ⊢
  unfold o7
  simp only [Int.toNat_natCast]
  rw [Ik h1 _ _ (JO hr.2.1)]
  unfold uM
  rw [Int.toNat_natCast, JN h1 _ _ (fun c hc => by
    obtain ⟨k, hk, rfl⟩ := List.mem_map.1 hc
    exact hr.2.2 k hk)]
  unfold uL lG
  rw [List.map_map]; rfl
end Go.Proofs.YtfclkapelkhlpaaGreatDoor
namespace Go.Proofs.YtfclkapelkhlpaaGreatDoor
open Go Go.Proofs Go.LX
theorem iT.int {n : Nat} {v : Val} (h : iT n v) (hk : v.kind = 1) : -1000000000 ≤ v.n ∧ v.n ≤ 1000000000 := by unfold iT at h; omega
end Go.Proofs.YtfclkapelkhlpaaGreatDoor
namespace Go.Proofs.YtfclkapelkhlpaaGreatDoor
open Go Go.Proofs Go.LX
theorem Ac {a : List bR} {n : Nat} {f : LX.Frame} : ∀ {l : List LX.Frame} {t : Int}, iF a n t (l ++ [f]) ↔ iF a n t l ∧ (∃ x, y8 a n f x) ∧ (0 ≤ f.kL ∧ f.kL < (match l.getLast? with | none => t | some g => g.regs.length))
  | [], t => by simp [iF]
  | g :: l, t => by
    show ((∃ x, y8 a n g x) ∧ (0 ≤ g.kL ∧ g.kL < t) ∧ iF a n g.regs.length (l ++ [f])) ↔ _
    rw [Ac (l := l)]
    have e : (match (g :: l).getLast? with | none => t | some g => ((g.regs.length : Int))) = (match l.getLast? with | none => ((g.regs.length : Int)) | some g => (g.regs.length : Int)) := by
      rw [List.getLast?_cons]
      cases l.getLast? <;> rfl
    rw [e]
    simp only [iF, and_assoc]
structure Mo (a : List bR) (pre : List LX.Frame) (f : LX.Frame) (cells : List (List Val)) (x : bR) (c : Ins) : Prop where
  fr : y8 a cells.length f x
  ins : idx x.code f.at_ = some c
  good : yu a x.regs x.code.length c
  chain : iF a cells.length 1 pre
  kL : 0 ≤ f.kL ∧ f.kL < ahead pre
  many : pre.length + 1 ≤ 10
  cok : mW cells
  proc : (1 ≤ x.regs ∧ x.regs ≤ 40) ∧ sD x
theorem Mo.sw {a : List bR} {pre : List LX.Frame} {f : LX.Frame} {cells : List (List Val)} {x : bR} {c : Ins} (ha : yZ a) (h : Mo a pre f cells x c) {st wh : Int} {g : LX.Frame} (hg : y8 a cells.length g x) : FP ⟨pre ++ [g], cells, st, wh⟩ where
  small := ⟨by have := h.many; simp; omega, fun k hk => by
    rcases List.mem_append.1 hk with hk | hk
    · obtain ⟨y, hy⟩ := rz h.chain k hk
      have := hy.regs
      have := (ha.mem hy.proc).2.2.1
      omega
    · simp at hk; subst hk
      have := hg.regs
      have := h.proc.1
      omega, h.cok.1, fun c hc => (h.cok.2 c hc).1.2⟩
  cells := h.cok
  vals k hk := by
    rcases List.mem_append.1 hk with hk | hk
    · obtain ⟨y, hy⟩ := rz h.chain k hk
      exact hy.vals
    · simp at hk; subst hk; exact hg.vals
end Go.Proofs.YtfclkapelkhlpaaGreatDoor
namespace Go.Proofs.YtfclkapelkhlpaaGreatDoor
open Go Go.Proofs Go.LX
theorem iT.up {n m : Nat} {v : Val} (h : iT n v) (hm : n ≤ m) : iT m v := by unfold iT at *; omega
theorem y8.up {a : List bR} {n m : Nat} {f : LX.Frame} {x : bR} (h : y8 a n f x) (hm : n ≤ m) : y8 a m f x := ⟨h.proc, h.at_, h.regs, fun v hv => (h.vals v hv).up hm⟩
theorem Dm {a : List bR} {n m : Nat} (hm : n ≤ m) : ∀ {l : List LX.Frame} {t : Int}, iF a n t l → iF a m t l
  | [], _, _ => trivial
  | f :: l, t, h => by obtain ⟨⟨x, g⟩, h2, h3⟩ := h; exact ⟨⟨x, g.up hm⟩, h2, Dm hm h3⟩
theorem Qq {n : Nat} {l : List Int} {v : Val} (h : iT n v) (hr : v.kind = 2 → v.n ∈ l) : iT l.length (ren l v) := by
  unfold ren
  by_cases hk : v.kind = 2
  · rw [if_pos hk]
    have := List.idxOf_lt_length_of_mem (hr hk)
    unfold iT
    simp only
    omega
  · rw [if_neg hk]; unfold iT at *; omega
theorem y8.ren {a : List bR} {n : Nat} {l : List Int} {f : LX.Frame} {x : bR} (h : y8 a n f x) (hr : jk f.regs l) : y8 a l.length (JK l f) x where
  proc := h.proc
  at_ := h.at_
  regs := by unfold JK; simpa using h.regs
  vals v hv := by
    unfold JK at hv
    simp only [List.mem_map] at hv
    obtain ⟨w, hw, rfl⟩ := hv
    exact Qq (h.vals w hw) (hr w hw)
theorem BV {a : List bR} {n : Nat} {r : List Int} : ∀ {l : List LX.Frame} {t : Int}, iF a n t l → (∀ f ∈ l, jk f.regs r) → iF a r.length t (l.map (JK r))
  | [], _, _, _ => trivial
  | f :: l, t, h, hr => by
    obtain ⟨⟨x, g⟩, h2, h3⟩ := h
    refine ⟨⟨x, g.ren (hr f (by simp))⟩, h2, ?_⟩
    have := BV h3 (fun k hk => hr k (List.mem_cons_of_mem _ hk))
    simpa [JK] using this
theorem JQ {s : LX.State} (h : FP s) : mW (lG s).cells := by
  have hr := h.reach
  have hl := hr.1.len
  have hn := h.cells.1
  refine ⟨by simp [lG]; omega, fun c hc => ?_⟩
  unfold lG at hc ⊢
  simp only [List.mem_map, List.length_map] at hc ⊢
  obtain ⟨k, hk, rfl⟩ := hc
  have hk2 := h.cells.at (hr.1.2 k hk)
  refine ⟨by simpa using hk2.1, fun v hv => ?_⟩
  obtain ⟨w, hw, rfl⟩ := List.mem_map.1 hv
  exact Qq (hk2.2 w hw) (hr.2.2 k hk w hw)
theorem Qr {a : List bR} (ha : yZ a) {s : LX.State} (h : FN a s) : FN a (lG s) where
  status := h.status
  bN := h.bN
  stay := h.stay
  ended := by rw [show (lG s).status = s.status from rfl, h.ended]; simp [lG]
  many := by simpa [lG] using h.many
  cells := JQ (h.sw ha)
  frames := by
    have hr := (h.sw ha).reach
    have := BV h.frames (JO hr.2.1)
    simpa [lG] using this
theorem Qs {n : Nat} {r : List Val} {i : Nat} {v : Val} (h : ∀ w ∈ r, iT n w) (hv : iT n v) : ∀ w ∈ r.set i v, iT n w := fun w hw => by
  rcases List.mem_or_eq_of_mem_set hw with hw | rfl
  · exact h w hw
  · exact hv
section
variable {a : List bR} {pre : List LX.Frame} {f : LX.Frame} {cells : List (List Val)} {wh : Int} {x : bR} {c : Ins} {N : Nat}
theorem Mo.st (h : Mo a pre f cells x c) {g : LX.Frame} {y : bR} {cs : List (List Val)} {s w : Int} (hg : y8 a cs.length g y) (hto : g.kL = f.kL) (hc : mW cs) (hl : cells.length ≤ cs.length) (hs : (s = 0 ∧ w = 0) ∨ (s = 3 ∧ -1000000000 ≤ w ∧ w ≤ 1000000000)) : FN a ⟨pre ++ [g], cs, s, w⟩ where
  status := by simp only; omega
  bN := by simp only; omega
  stay := by simp only; omega
  ended := by simp; omega
  many := by have := h.many; simp; omega
  cells := hc
  frames := Ac.2 ⟨Dm hl h.chain, ⟨y, hg⟩, by rw [hto]; exact h.kL⟩
theorem y8.put {n : Nat} {f : LX.Frame} {x : bR} (h : y8 a n f x) {i : Nat} {v : Val} (hv : iT n v) : y8 a n { f with regs := f.regs.set i v } x := ⟨h.proc, h.at_, by simpa using h.regs, Qs h.vals hv⟩
end
end Go.Proofs.YtfclkapelkhlpaaGreatDoor
namespace Go.Proofs.YtfclkapelkhlpaaGreatDoor
open Go Go.Proofs Go.LX
def JR (ρ : Int → Int) (v : Val) : Val := if v.kind = 2 then ⟨v.kind, ρ v.n⟩ else v
def Qt (ρ : Int → Int) (f : LX.Frame) : LX.Frame := { f with regs := f.regs.map (JR ρ) }
structure Ta (ρ : Int → Int) (R : List Int) (s t : LX.State) : Prop where
  frames : t.frames = s.frames.map (Qt ρ)
  status : t.status = s.status
  bN : t.bN = s.bN
  roots : jk (YtfclkapelkhlpaaGreatDoor.roots s.frames) R
  range : ∀ x ∈ R, 0 ≤ x ∧ x < s.cells.length
  range' : ∀ x ∈ R, 0 ≤ ρ x ∧ ρ x < t.cells.length
  inj : ∀ x ∈ R, ∀ y ∈ R, ρ x = ρ y → x = y
  cells : ∀ x ∈ R, cellAt t.cells (ρ x) = (cellAt s.cells x).map (JR ρ) ∧ jk (cellAt s.cells x) R
theorem Qu (ρ : Int → Int) {v : Val} (h : v.kind = 2) : JR ρ v = ⟨v.kind, ρ v.n⟩ := if_pos h
theorem RZ (ρ : Int → Int) {v : Val} (h : v.kind ≠ 2) : JR ρ v = v := if_neg h
section
variable {ρ : Int → Int} {R : List Int} {s t : LX.State}
theorem JS (hi : ∀ x ∈ R, ∀ y ∈ R, ρ x = ρ y → x = y) {l : List Int} (hl : ∀ x ∈ l, x ∈ R) {x : Int} (hx : x ∈ R) : ρ x ∈ l.map ρ ↔ x ∈ l := by
  constructor
  · intro h
    obtain ⟨y, hy, e⟩ := List.mem_map.1 h
    rw [← hi y (hl y hy) x hx e]; exact hy
  · exact fun h => List.mem_map_of_mem h
theorem Qv (hi : ∀ x ∈ R, ∀ y ∈ R, ρ x = ρ y → x = y) {l : List Int} (hl : ∀ x ∈ l, x ∈ R) {v : Val} (hv : v.kind = 2 → v.n ∈ R) : BP (l.map ρ) (JR ρ v) = (BP l v).map ρ ∧ ∀ x ∈ BP l v, x ∈ R := by
  unfold BP
  by_cases hk : v.kind = 2
  · rw [Qu ρ hk]
    simp only [hk, true_and]
    have hm' := JS hi hl (hv hk)
    by_cases hm : v.n ∈ l
    · rw [if_neg (fun h => h (hm'.2 hm)), if_neg (fun h => h hm)]; exact ⟨rfl, hl⟩
    · rw [if_pos (fun h => hm (hm'.1 h)), if_pos hm]
      refine ⟨by simp, fun x hx => ?_⟩
      rcases List.mem_append.1 hx with hx | hx
      · exact hl x hx
      · simp at hx; subst hx; exact hv hk
  · rw [RZ ρ hk, if_neg (fun h => hk h.1), if_neg (fun h => hk h.1)]; exact ⟨rfl, hl⟩
theorem E8 (hi : ∀ x ∈ R, ∀ y ∈ R, ρ x = ρ y → x = y) : ∀ {vs : List Val} {l : List Int}, (∀ x ∈ l, x ∈ R) → jk vs R → BQ (l.map ρ) (vs.map (JR ρ)) = (BQ l vs).map ρ ∧ ∀ x ∈ BQ l vs, x ∈ R
  | [], l, hl, _ => ⟨rfl, hl⟩
  | v :: vs, l, hl, hv => by
    obtain ⟨h1, h2⟩ := Qv hi hl (hv v (by simp))
    rw [List.map_cons, zM, zM, h1]
    exact E8 hi h2 (fun w hw => hv w (List.mem_cons_of_mem _ hw))
theorem Ta.FO (h : Ta ρ R s t) : ∀ (m k : Nat) (l : List Int), (∀ x ∈ l, x ∈ R) → FO t.cells m k (l.map ρ) = (FO s.cells m k l).map ρ ∧ ∀ x ∈ FO s.cells m k l, x ∈ R
  | 0, k, l, hl => ⟨rfl, hl⟩
  | m + 1, k, l, hl => by
    unfold YtfclkapelkhlpaaGreatDoor.FO
    by_cases hk : k < l.length
    · rw [dif_pos hk, dif_pos (by simpa using hk)]
      have hx := hl _ (List.getElem_mem hk)
      have hc := h.cells _ hx
      rw [List.getElem_map, hc.1]
      obtain ⟨h1, h2⟩ := E8 h.inj hl hc.2
      rw [h1]
      exact Ta.FO h m (k + 1) _ h2
    · rw [dif_neg hk, dif_neg (by simpa using hk)]; exact ⟨rfl, hl⟩
theorem Gs (ρ : Int → Int) : ∀ fr : List LX.Frame, YtfclkapelkhlpaaGreatDoor.roots (fr.map (Qt ρ)) = (YtfclkapelkhlpaaGreatDoor.roots fr).map (JR ρ)
  | [] => rfl
  | f :: fr => by
    have := Gs ρ fr
    unfold YtfclkapelkhlpaaGreatDoor.roots at *
    rw [List.map_cons, List.flatMap_cons, List.flatMap_cons, List.map_append, this]; rfl
theorem Ta.reach (h : Ta ρ R s t) : rA t = (rA s).map ρ ∧ ∀ x ∈ rA s, x ∈ R := by
  unfold rA za
  rw [h.frames, Gs]
  obtain ⟨h1, h2⟩ := E8 h.inj (l := []) (fun x hx => by cases hx) h.roots
  rw [List.map_nil] at h1
  rw [h1]
  exact h.FO 25 0 _ h2
end
end Go.Proofs.YtfclkapelkhlpaaGreatDoor
namespace Go.Proofs.YtfclkapelkhlpaaGreatDoor
open Go Go.Proofs Go.LX
section
variable {a : List bR} {ρ : Int → Int} {R : List Int} {s t : LX.State}
theorem E9 {cells : List (List Val)} {k j : Int} {c : List Val} (hk : 0 ≤ k ∧ k < cells.length) (hj : 0 ≤ j ∧ j < cells.length) : cellAt (cells.set k.toNat c) j = if j = k then c else cellAt cells j := by
  obtain ⟨n, rfl⟩ := Int.eq_ofNat_of_zero_le hk.1
  obtain ⟨m, rfl⟩ := Int.eq_ofNat_of_zero_le hj.1
  unfold cellAt
  rw [Int.toNat_natCast, oP, oP, List.getElem?_set]
  by_cases e : n = m
  · subst e; rw [if_pos rfl, if_pos (by omega), if_pos rfl]; rfl
  · rw [if_neg e, if_neg (by omega)]
theorem Qw {vs : List Val} {i : Nat} {v : Val} (h : jk vs R) (hv : v.kind = 2 → v.n ∈ R) : jk (vs.set i v) R := fun w hw hk => by
  rcases List.mem_or_eq_of_mem_set hw with hw | rfl
  · exact h w hw hk
  · exact hv hk
theorem Ta.put (h : Ta ρ R s t) {fr : List LX.Frame} (hr : jk (YtfclkapelkhlpaaGreatDoor.roots fr) R) {k : Int} (hk : k ∈ R) {i : Nat} {v : Val} (hv : v.kind = 2 → v.n ∈ R) (st wh : Int) :
    Ta ρ R ⟨fr, s.cells.set k.toNat ((cellAt s.cells k).set i v), st, wh⟩ ⟨fr.map (Qt ρ), t.cells.set (ρ k).toNat ((cellAt t.cells (ρ k)).set i (JR ρ v)), st, wh⟩ := by
  refine ⟨rfl, rfl, rfl, hr, fun x hx => by simpa using h.range x hx, fun x hx => by simpa using h.range' x hx, h.inj, fun x hx => ?_⟩
  simp only
  rw [E9 (h.range' k hk) (h.range' x hx), E9 (h.range k hk) (h.range x hx)]
  have hc := h.cells x hx
  by_cases e : x = k
  · subst e
    rw [if_pos rfl, if_pos rfl, hc.1, List.map_set]
    exact ⟨rfl, Qw hc.2 hv⟩
  · rw [if_neg e, if_neg (fun q => e (h.inj x hx k hk q))]
    exact hc
end
end Go.Proofs.YtfclkapelkhlpaaGreatDoor
namespace Go.Proofs.YtfclkapelkhlpaaGreatDoor
open Go Go.Proofs Go.LX
theorem at_eq (k : Int) {n : Int} (hn : 0 < n) (hb : n ≤ 1000000000) : ∃ r, ry k n = some r ∧ 0 ≤ r ∧ r < n := by
  unfold ry
  rw [sK hn]
  have h1 : Int.tmod k n < n := Int.tmod_lt_of_pos k hn
  have h2 : -n < Int.tmod k n := by
    have := Int.tmod_lt_of_pos (-k) hn
    rw [Int.neg_tmod] at this
    omega
  by_cases h : Int.tmod k n < 0
  · rw [dT h, cond_true, gI (by omega) (by omega)]
    exact ⟨_, rfl, by omega, by omega⟩
  · rw [dF h, cond_false]
    exact ⟨_, rfl, by omega, h1⟩
end Go.Proofs.YtfclkapelkhlpaaGreatDoor
