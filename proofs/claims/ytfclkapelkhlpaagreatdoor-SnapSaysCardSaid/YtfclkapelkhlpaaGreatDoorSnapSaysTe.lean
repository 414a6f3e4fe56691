/-
  What the law SnapSays needs of our own library and of the walks, no more.
-/
import Derived.Test.YtfclkapelkhlpaaGreatDoorProg
import Derived.Test.YtfclkapelkhlpaaGreatDoorSnapSaysTd
set_option linter.unusedSimpArgs false
set_option linter.unusedVariables false
set_option maxRecDepth 10000
namespace Go.Proofs.YtfclkapelkhlpaaGreatDoor
open Go Go.Proofs Go.LX
noncomputable section
def vX (Mc : (List Int × List (Int × Bool)) → Option (List Int × Int)) (uE : List Int) (sS : List (Int × Bool)) : Option (List Int × Int) :=
  Mc (uE, sS)
def vY (Kv : (List Int × List (Int × Bool)) → Option (List Int × Int)) (Pw : List Int) (F8 : List (Int × Bool)) : Option (List Int × Int) :=
  Kv (Pw, F8)
def qm (wO : Val) (s : List Int × List (Int × Bool)) (Kv : List Int × List (Int × Bool) → Option (List Int × Int)) : Option (List Int × Int) :=
  match s with | (Fh, rC) => bif (decide ((wO.kind : Int) = 2) && (!((lk wO.n rC).getD false))) then iA (Room 8 Fh [wO.n]) (vY Kv (Fh ++ [wO.n]) (Bl wO.n true rC)) else vY Kv Fh rC
def qo (IW : Int) (NI : (Int × List Int × List (Int × Bool)) → Option (List Int × Int)) (s : List Int × List (Int × Bool)) : Option (List Int × Int) :=
  match s with | (Fh, rC) => iA (jN (IW + 1)) (NI ((IW + 1), Fh, rC))
def oo (a : List (List Val)) (s : Int × List Int × List (Int × Bool)) (NI : Int × List Int × List (Int × Bool) → Option (List Int × Int)) : Option (List Int × Int) :=
  match s with | (IW, xx, MF) => bif decide ((IW : Int) < (xx.length : Int)) then (idx xx IW).bind fun Ym => (idx a Ym).bind fun x87 => each qm (qo IW NI) x87 (xx, MF) else some (xx, 0)
def sJ (qC : Val) (s : List Int × List (Int × Bool)) (Mc : List Int × List (Int × Bool) → Option (List Int × Int)) : Option (List Int × Int) :=
  match s with | (y32, OB) => bif (decide ((qC.kind : Int) = 2) && (!((lk qC.n OB).getD false))) then iA (Room 8 y32 [qC.n]) (vX Mc (y32 ++ [qC.n]) (Bl qC.n true OB)) else vX Mc y32 OB
def vZ (N : Nat) (a : List (List Val)) (s : List Int × List (Int × Bool)) : Option (List Int × Int) :=
  match s with | (y32, OB) => again (oo a) N (0, y32, OB)
def sK (a : List (List Val)) (x6 : Val) (s : Unit) (nx8 : Unit → Option (List Int × Int)) : Option (List Int × Int) :=
  bif decide (((dH x6 (a.length : Int)) : Int) ≠ 0) then some ([], (dH x6 (a.length : Int))) else nx8 ()
def qp (N : Nat) (a : List (List Val)) (b : List Val) (s : Unit) : Option (List Int × Int) :=
  each sJ (vZ N a) b ([], ([] : List (Int × Bool)))
def BC (N : Nat) (a : List (List Val)) (b : List Val) : Option (List Int × Int) :=
  bif decide (((eT a) : Int) ≠ 0) then some ([], (eT a)) else bif decide ((400 : Int) < (b.length : Int)) then some ([], 2) else each (sK a) (qp N a b) b ()
theorem Me (N : Nat) (w0 : World) (M : BS) (hM : ∀ b, M b → b < w0.heap.size) (va : Value) (a : List (List Val)) (ha : fK (kW aY) w0 BE M va a) (vb : Value) (b : List Val) (hb : fK aY w0 BE M vb b) (r : List Int × Int) (hs : BC N a b = some r) :
    Calls Tryz.prog 48 #[va, vb] w0 (fun e w' => Grow w0 w' ∧ ∃ u0, e = .returned (.tuple #[u0, .int .i64 r.2]) ∧ fI dw 3 w' M u0 r.1 ∧ (∀ b, ob u0 b → w0.heap.size ≤ b)) := by
 refine aL (args := [va, vb]) Tryz.func48 rfl Tryz.ntmps48 (bH rfl) ?_
 have h := SH.init hM
 replace h := h.eu 1 ha aT
 replace h := h.eu 2 hb (aW aT)
 have tQ := ha.bD
 have FU := hb.bD
 refine nG (aa (ae (v := (.slice none 0 0)) rfl) (aa (ae (v := (I6 0)) rfl) (nK (aa (ag (v := va) rfl) (aO TZ rfl rfl (BR _ _ h.lt va a (h.fQ 1 rfl) _ rfl) ?_)))))
 rintro _ w ⟨k1, rfl⟩
 refine ⟨_, rfl, ?_⟩
 replace h := h.grow k1
 refine aa (ae (v := (I6 ((eT a)))) rfl) (nJ (aa (ag (v := (I6 ((eT a)))) rfl) (aa (gV rfl rfl) (nN (aK hs rfl (fun c2 hs => ?_) (fun c2 hs => ?_))))))
 refine nG (aa (ag (v := (I6 ((eT a)))) rfl) (aa (ae (v := (.slice none 0 0)) rfl) (aa (ae (v := (I6 ((eT a)))) rfl) (nR (ax (Dz (v1 := (.slice none 0 0)) (v2 := (I6 ((eT a)))) Tryz.results48 rfl rfl ?_))))))
 obtain rfl := gK hs
 exact ⟨h.grown, _, rfl, fI.nil, qa⟩
 refine aG (aj (aJ (nG (aa (ag (v := vb) rfl) (aa (aX di rfl (h.fQ 2 rfl)) (aa (jK rfl rfl) (nN (aK hs rfl (fun c3 hs => ?_) (fun c3 hs => ?_)))))))))
 refine nG (aa (ae (v := (.slice none 0 0)) rfl) (aa (ae (v := (I6 2)) rfl) (nR (ax (Dz (v1 := (.slice none 0 0)) (v2 := (I6 2)) Tryz.results48 rfl rfl ?_)))))
 obtain rfl := gK hs
 exact ⟨h.grown, _, rfl, fI.nil, qa⟩
 refine aG (aj (aJ (nG (aa (ag (v := vb) rfl) (aa (aX di rfl (h.fQ 2 rfl)) (aa (ag (v := (I6 0)) rfl) (nN (aH (eF (σ := Nat × Int) (inl ([4, 5, 8, 9] ++ rg 28 12)) (fun ⟨k4, i5⟩ => [(28, (I6 i5))]) (fun ⟨k4, i5⟩ w => SH w0 M BE w (hset [(1, .sr (kW aY) va a), (2, .sr aY vb b)]) ∧ i5 = (k4 : Int) ∧ each (sK a) (qp N a b) (b.drop k4) () = some r) (fun ⟨k4, i5⟩ => b.length - k4) ⟨0, 0⟩ ⟨rfl, trivial⟩ ?_ ?_)))))))))
 exact ⟨h.cn _, rfl, hs⟩
 rintro ⟨k4, i5⟩ w dC ⟨h, hik, hs⟩
 refine nG ?_
 refine aa (dK rfl rfl) (nN ?_)
 refine aJ (fD rfl (fun e9 => ?_) (fun e9 => ?_))
 refine aG (aj ?_)
 obtain ⟨x6, e10a, e10b⟩ := eU (hik ▸ e9)
 rw [e10b, df] at hs
 generalize hnx8 : each (sK a) (qp N a b) (b.drop (k4 + 1)) = nx8 at hs
 have e10r := eZ ((h.fQ 2 rfl)).bD hik e9
 refine aJ (aH (nG ?_))
 obtain ⟨b12, o13, cs14, h, r15, i11⟩ := h.vo 2 3 rfl di rfl (gB hik) (eY hik e10a)
 obtain rfl := r15
 refine aa (i11 _ _ _ _ _ _ _ _ _ rfl rfl) (aa (iD (k := 0) (vs := [(I6 x6.kind), (I6 x6.n)]) h 3 rfl dR rfl rfl rfl (bH rfl)) (bu h 4 dR fun w b16 h => dN (vs := [(I6 x6.kind), (I6 x6.n)]) h 4 [(I6 x6.kind), (I6 x6.n)] rfl dR rfl rfl rfl rfl rfl (ai rfl (ai rfl aS)) fun w h => nJ (aa (eB (vs := [(I6 x6.kind), (I6 x6.n)]) h 4 rfl dR rfl rfl rfl) (aa (ag (v := va) rfl) (aa (aX dO rfl (h.fQ 1 rfl)) (aO OW rfl rfl (Bz _ _ h.lt x6 (a.length : Int) _ rfl) ?_))))))
 rintro _ w ⟨k17, rfl⟩
 refine ⟨_, rfl, ?_⟩
 replace h := h.grow k17
 refine aa (ae (v := (I6 ((dH x6 (a.length : Int))))) rfl) (nJ (aa (ag (v := (I6 ((dH x6 (a.length : Int))))) rfl) (aa (gV rfl rfl) (nN (aK hs rfl (fun c18 hs => ?_) (fun c18 hs => ?_))))))
 refine nG (aa (ag (v := (I6 ((dH x6 (a.length : Int))))) rfl) (aa (ae (v := (.slice none 0 0)) rfl) (aa (ae (v := (I6 ((dH x6 (a.length : Int))))) rfl) (nR (aD (ax (ax (aD (ax (Dz (v1 := (.slice none 0 0)) (v2 := (I6 ((dH x6 (a.length : Int))))) Tryz.results48 rfl rfl ?_))))))))))
 obtain rfl := gK hs
 exact ⟨h.grown, _, rfl, fI.nil, qa⟩
 refine aG (au (aj (ay (aa (dz rfl rfl e10r) (aa (ag (v := (I6 ((i5 + 1)))) rfl) (aC (ak ?_)))))))
 subst hnx8
 exact iw ⟨k4 + 1, i5 + 1⟩ ⟨h.cn _, by omega, hs⟩ (by have := kQ e9; dsimp only; omega)
 rw [eX (hik ▸ e9), dZ] at hs
 refine nE (z8 h 5 fun w b19 h => lZ h 6 FT fun w b20 h => dS h 6 [(.map (some b19))] rfl FT rfl rfl rfl rfl rfl fun w h => nJ (lZ h 7 jc fun w Iy h => nJ (aa (ng (c1 := []) (c2 := [(.pointer (some ⟨b20, 0, none⟩)), (.pointer (some ⟨Iy, 0, none⟩))]) rfl rfl) (aa (ae (v := (.func (.func 82) #[] #[(.pointer (some ⟨b20, 0, none⟩)), (.pointer (some ⟨Iy, 0, none⟩))])) rfl) (nN (aJ ?_))))))
 refine nG (aa (ag (v := vb) rfl) (aa (aX di rfl (h.fQ 2 rfl)) (aa (ag (v := (I6 0)) rfl) (nN (aH ?_)))))
 replace h := h.uZ (R := dw) (E := 3) 11
 refine eF (σ := Nat × Int × Value × List Int × List (Int × Bool)) (inl ([14] ++ rg 44 8)) (fun ⟨NC, i35, v31, y32, OB⟩ => [(44, (I6 i35))]) (fun ⟨NC, i35, v31, y32, OB⟩ w => SH w0 M BE w (hset [(1, .sr (kW aY) va a), (2, .sr aY vb b), (5, .mp b19 (List.map (fun p => (p.1, (fun x => Value.bool x) p.2)) OB)), (6, .blk b20 [(.map (some b19))]), (7, .blk Iy [v31]), (11, .own dw 3 v31 y32)]) ∧ i35 = (NC : Int) ∧ each sJ (vZ N a) (b.drop NC) (y32, OB) = some r) (fun ⟨NC, i35, v31, y32, OB⟩ => b.length - NC) ⟨0, 0, (.slice none 0 0), [], ([] : List (Int × Bool))⟩ ⟨rfl, trivial⟩ ?_ ?_
 exact ⟨h.cn _, rfl, hs⟩
 rintro ⟨NC, i35, v31, y32, OB⟩ w dC ⟨h, hik, hs⟩
 refine nG ?_
 refine aa (dK rfl rfl) (nN ?_)
 refine aJ (fD rfl (fun e39 => ?_) (fun e39 => ?_))
 refine aG (aj ?_)
 obtain ⟨qC, UW, UX⟩ := eU (hik ▸ e39)
 rw [UX, df] at hs
 generalize UY : each sJ (vZ N a) (b.drop (NC + 1)) = Mc at hs
 have Z9 := eZ ((h.fQ 2 rfl)).bD hik e39
 refine dm (σ := Value × List Int × List (Int × Bool)) (inl [14, 46, 47, 48, 49, 50]) (fun ⟨v41, uE, sS⟩ => []) (fun ⟨v41, uE, sS⟩ w => SH w0 M BE w (hset [(1, .sr (kW aY) va a), (2, .sr aY vb b), (5, .mp b19 (List.map (fun p => (p.1, (fun x => Value.bool x) p.2)) sS)), (6, .blk b20 [(.map (some b19))]), (7, .blk Iy [v41]), (11, .own dw 3 v41 uE)]) ∧ vX Mc uE sS = some r) ?_ ?_
 rintro ⟨v41, uE, sS⟩ w dC ⟨h, hs⟩
 refine ay (aa (dz rfl rfl Z9) (aa (ag (v := (I6 ((i35 + 1)))) rfl) (aC (ak ?_))))
 subst UY
 exact iw ⟨NC + 1, i35 + 1, v41, uE, sS⟩ ⟨h.cn _, by omega, hs⟩ (by have := kQ e39; dsimp only; omega)
 refine aH (nG ?_)
 obtain ⟨Wq, o46, cs47, h, r48, i44⟩ := h.vo 2 12 rfl di rfl (gB hik) (eY hik UW)
 obtain rfl := r48
 refine aa (i44 _ _ _ _ _ _ _ _ _ rfl rfl) (aa (iD (k := 0) (vs := [(I6 qC.kind), (I6 qC.n)]) h 12 rfl dR rfl rfl rfl (bH rfl)) (bu h 13 dR fun w b49 h => dN (vs := [(I6 qC.kind), (I6 qC.n)]) h 13 [(I6 qC.kind), (I6 qC.n)] rfl dR rfl rfl rfl rfl rfl (ai rfl (ai rfl aS)) fun w h => nN (ay (aa (ag (v := (.func (.func 82) #[] #[(.pointer (some ⟨b20, 0, none⟩)), (.pointer (some ⟨Iy, 0, none⟩))])) rfl) (aa (eB (vs := [(I6 qC.kind), (I6 qC.n)]) h 13 rfl dR rfl rfl rfl) (iL (args := [(.agg #[(I6 qC.kind), (I6 qC.n)]), (.pointer (some ⟨b20, 0, none⟩)), (.pointer (some ⟨Iy, 0, none⟩))]) T9 rfl rfl (aL (args := [(.agg #[(I6 qC.kind), (I6 qC.n)]), (.pointer (some ⟨b20, 0, none⟩)), (.pointer (some ⟨Iy, 0, none⟩))]) Tryz.func82 rfl Tryz.ntmps82 (bH rfl) (nG (l7 (cs := [(I6 qC.kind), (I6 qC.n)]) h 14 rfl rfl fun w b50 h => nJ (aa (ah rV rfl) (aa (aB h 14 rfl aP rfl rfl) (aa (bW rfl rfl) (aa (ag (v := (.bool (decide ((qC.kind : Int) = 2)))) rfl) (az rfl rfl (fun q => aB h 6 rfl FT rfl rfl) (az rfl rfl (fun q => ah jF rfl) ?_)))))))))))))))
 refine az rfl rfl (fun q => aB h 14 rfl aP (dE q) rfl) (az rfl rfl (fun q => X4 (f := (fun x => Value.bool x)) (zz := false) OB h 5 rfl EY (dE q) (dE q) rfl rfl) (az rfl rfl (fun q => dU (dE q)) (aa (fB rfl rfl lW) (nN (aK hs rfl (fun c51 hs => ?_) (fun c51 hs => ?_))))))
 refine nG (aa (aB h 6 rfl FT rfl rfl) (aa (ah jF rfl) (aa (aB h 14 rfl aP rfl rfl) (Ck (kP := (List.map (fun p => (p.1, (fun x => Value.bool x) p.2)) (Bl qC.n true OB))) h 5 rfl EY rfl rfl rfl (Di (f := (fun x => Value.bool x)) _) fun w h => nN (ay (aa (aB h 7 rfl jc rfl rfl) (aa (ah jF rfl) (aa (aB h 14 rfl aP rfl rfl) (mX (R := dw) (vs := [(I6 qC.n)]) (xs := [qC.n]) h 15 fq rfl rfl rfl ⟨rfl, trivial⟩ rfl fun w u52 h => ?_)))))))))
 obtain ⟨a53, hs⟩ := bE hs
 refine jb (R := dw) (m := [qC.n]) h 11 rfl (h.dJ 15 rfl) fq rfl rfl rfl a53.1 a53.2 fun w u54 h => dS h 7 [u54] rfl jc rfl rfl rfl rfl (h.eD 11 rfl).one fun w h => aC (H6 Tryz.results82 (⟨_, rfl, ?_⟩))
 refine aC (au (ak ?_))
 exact cO (u54, (y32 ++ [qC.n]), (Bl qC.n true OB)) ⟨h.cn _, hs⟩
 refine aG (H6 Tryz.results82 (⟨_, rfl, ?_⟩))
 refine aC (au (ak ?_))
 exact cO (v31, y32, OB) ⟨h.cn _, hs⟩
 rw [eX (hik ▸ e39), dZ] at hs
 refine iI (bC (bC (dV (aj (aJ (nG (aa (ae (v := (I6 0)) rfl) (nN (aH (eF (σ := Nat × Int × Value × List Int × List (Int × Bool)) (inl ([15, 17] ++ rg 52 22)) (fun ⟨m74, IW, v68, xx, MF⟩ => [(15, (I6 IW))]) (fun ⟨m74, IW, v68, xx, MF⟩ w => SH w0 M BE w (hset [(1, .sr (kW aY) va a), (5, .mp b19 (List.map (fun p => (p.1, (fun x => Value.bool x) p.2)) MF)), (6, .blk b20 [(.map (some b19))]), (7, .blk Iy [v68]), (11, .own dw 3 v68 xx)]) ∧ again (oo a) m74 (IW, xx, MF) = some r) (fun ⟨m74, IW, v68, xx, MF⟩ => m74) ⟨N, 0, v31, y32, OB⟩ ⟨rfl, trivial⟩ ?_ ?_))))))))))
 exact ⟨h.cn _, hs⟩
 rintro ⟨m74, IW, v68, xx, MF⟩ w dC ⟨h, hs⟩
 obtain ⟨m741, m74e, m74h⟩ := lQ hs
 subst m74e
 replace hs := m74h
 generalize hnx75 : again (oo a) m741 = NI at hs
 refine aJ (nG (aa (ag (v := (I6 IW)) rfl) (aa (aB h 7 rfl jc rfl rfl) (aa (aX bN rfl (h.dJ 11 rfl)) (aa (dK rfl rfl) (nN (aK hs rfl (fun c78 hs => ?_) (fun c78 hs => ?_))))))))
 refine aG (aj (aJ (aH (nG (aa (ag (v := va) rfl) (aa (aB h 7 rfl jc rfl rfl) (aa (ag (v := (I6 IW)) rfl) ?_)))))))
 obtain ⟨Ym, Yn, hs⟩ := aM hs
 obtain ⟨b82, q83, i81⟩ := h.FL 11 rfl bN rfl (aR Yn).1 (aR Yn).2
 refine aa (i81 _ _ _ _ _ _ _ _ _ rfl rfl) ?_
 obtain ⟨cs84, m85, r86⟩ := h.JU 11 rfl q83 (aR Yn).2
 obtain rfl := r86
 refine aa (zX (k := 0) m85 aP rfl rfl) ?_
 obtain ⟨x87, SG, hs⟩ := aM hs
 obtain ⟨b90, o91, cs92, h, r93, i89⟩ := h.vo 1 16 rfl dO rfl (aR SG).1 (aR SG).2
 obtain ⟨u94, rfl, g95⟩ := r93
 replace h := h.bK 17 g95.up
 refine aa (i89 _ _ _ _ _ _ _ _ _ rfl rfl) (aa (eQ (k := 0) h 16 rfl kr rfl rfl) (aa (aX di rfl (h.lF 17 rfl)) (aa (ag (v := (I6 0)) rfl) (nN (aH (eF (σ := Nat × Int × Value × List Int × List (Int × Bool)) (inl ([17] ++ rg 66 8)) (fun ⟨JY, i109, v105, Fh, rC⟩ => [(66, (I6 i109))]) (fun ⟨JY, i109, v105, Fh, rC⟩ w => SH w0 M BE w (hset [(1, .sr (kW aY) va a), (5, .mp b19 (List.map (fun p => (p.1, (fun x => Value.bool x) p.2)) rC)), (6, .blk b20 [(.map (some b19))]), (7, .blk Iy [v105]), (11, .own dw 3 v105 Fh), (17, .rd aY u94 x87)]) ∧ i109 = (JY : Int) ∧ each qm (qo IW NI) (x87.drop JY) (Fh, rC) = some r) (fun ⟨JY, i109, v105, Fh, rC⟩ => x87.length - JY) ⟨0, 0, v68, xx, MF⟩ ⟨rfl, trivial⟩ ?_ ?_))))))
 exact ⟨h.cn _, rfl, hs⟩
 rintro ⟨JY, i109, v105, Fh, rC⟩ w dC ⟨h, hik, hs⟩
 refine nG ?_
 refine aa (dK rfl rfl) (nN ?_)
 refine aJ (fD rfl (fun U9 => ?_) (fun U9 => ?_))
 refine aG (aj ?_)
 obtain ⟨wO, e114a, e114b⟩ := eU (hik ▸ U9)
 rw [e114b, df] at hs
 generalize hnx112 : each qm (qo IW NI) (x87.drop (JY + 1)) = Kv at hs
 have e114r := eZ ((h.lF 17 rfl)).bD hik U9
 refine dm (σ := Value × List Int × List (Int × Bool)) (inl [17, 68, 69, 70, 71, 72]) (fun ⟨Va, Pw, F8⟩ => []) (fun ⟨Va, Pw, F8⟩ w => SH w0 M BE w (hset [(1, .sr (kW aY) va a), (5, .mp b19 (List.map (fun p => (p.1, (fun x => Value.bool x) p.2)) F8)), (6, .blk b20 [(.map (some b19))]), (7, .blk Iy [Va]), (11, .own dw 3 Va Pw), (17, .rd aY u94 x87)]) ∧ vY Kv Pw F8 = some r) ?_ ?_
 rintro ⟨Va, Pw, F8⟩ w dC ⟨h, hs⟩
 refine ay (aa (dz rfl rfl e114r) (aa (ag (v := (I6 ((i109 + 1)))) rfl) (aC (ak ?_))))
 subst hnx112
 exact iw ⟨JY + 1, i109 + 1, Va, Pw, F8⟩ ⟨h.cn _, by omega, hs⟩ (by have := kQ U9; dsimp only; omega)
 refine aH (nG ?_)
 obtain ⟨b119, o120, cs121, h, r122, i118⟩ := h.FH 17 18 rfl di rfl (gB hik) (eY hik e114a)
 obtain rfl := r122
 refine aa (i118 _ _ _ _ _ _ _ _ _ rfl rfl) (aa (iD (k := 0) (vs := [(I6 wO.kind), (I6 wO.n)]) h 18 rfl dR rfl rfl rfl (bH rfl)) (bu h 19 dR fun w b123 h => dN (vs := [(I6 wO.kind), (I6 wO.n)]) h 19 [(I6 wO.kind), (I6 wO.n)] rfl dR rfl rfl rfl rfl rfl (ai rfl (ai rfl aS)) fun w h => nN (ay (aa (ag (v := (.func (.func 82) #[] #[(.pointer (some ⟨b20, 0, none⟩)), (.pointer (some ⟨Iy, 0, none⟩))])) rfl) (aa (eB (vs := [(I6 wO.kind), (I6 wO.n)]) h 19 rfl dR rfl rfl rfl) (iL (args := [(.agg #[(I6 wO.kind), (I6 wO.n)]), (.pointer (some ⟨b20, 0, none⟩)), (.pointer (some ⟨Iy, 0, none⟩))]) T9 rfl rfl (aL (args := [(.agg #[(I6 wO.kind), (I6 wO.n)]), (.pointer (some ⟨b20, 0, none⟩)), (.pointer (some ⟨Iy, 0, none⟩))]) Tryz.func82 rfl Tryz.ntmps82 (bH rfl) (nG (l7 (cs := [(I6 wO.kind), (I6 wO.n)]) h 20 rfl rfl fun w b124 h => nJ (aa (ah rV rfl) (aa (aB h 20 rfl aP rfl rfl) (aa (bW rfl rfl) (aa (ag (v := (.bool (decide ((wO.kind : Int) = 2)))) rfl) (az rfl rfl (fun q => aB h 6 rfl FT rfl rfl) (az rfl rfl (fun q => ah jF rfl) ?_)))))))))))))))
 refine az rfl rfl (fun q => aB h 20 rfl aP (dE q) rfl) (az rfl rfl (fun q => X4 (f := (fun x => Value.bool x)) (zz := false) rC h 5 rfl EY (dE q) (dE q) rfl rfl) (az rfl rfl (fun q => dU (dE q)) (aa (fB rfl rfl lW) (nN (aK hs rfl (fun Z0 hs => ?_) (fun Z0 hs => ?_))))))
 refine nG (aa (aB h 6 rfl FT rfl rfl) (aa (ah jF rfl) (aa (aB h 20 rfl aP rfl rfl) (Ck (kP := (List.map (fun p => (p.1, (fun x => Value.bool x) p.2)) (Bl wO.n true rC))) h 5 rfl EY rfl rfl rfl (Di (f := (fun x => Value.bool x)) _) fun w h => nN (ay (aa (aB h 7 rfl jc rfl rfl) (aa (ah jF rfl) (aa (aB h 20 rfl aP rfl rfl) (mX (R := dw) (vs := [(I6 wO.n)]) (xs := [wO.n]) h 21 fq rfl rfl rfl ⟨rfl, trivial⟩ rfl fun w u126 h => ?_)))))))))
 obtain ⟨a127, hs⟩ := bE hs
 refine jb (R := dw) (m := [wO.n]) h 11 rfl (h.dJ 21 rfl) fq rfl rfl rfl a127.1 a127.2 fun w u128 h => dS h 7 [u128] rfl jc rfl rfl rfl rfl (h.eD 11 rfl).one fun w h => aC (H6 Tryz.results82 (⟨_, rfl, ?_⟩))
 refine aC (au (ak ?_))
 exact cO (u128, (Fh ++ [wO.n]), (Bl wO.n true rC)) ⟨h.cn _, hs⟩
 refine aG (H6 Tryz.results82 (⟨_, rfl, ?_⟩))
 refine aC (au (ak ?_))
 exact cO (v105, Fh, rC) ⟨h.cn _, hs⟩
 rw [eX (hik ▸ U9), dZ] at hs
 refine iI (bC (bC (dV (au (aj (ay (aa (ag (v := (I6 IW)) rfl) ?_)))))))
 obtain ⟨a129, hs⟩ := bE hs
 refine aa (dz rfl rfl a129) (aa (ae (v := (I6 ((IW + 1)))) rfl) (aC (ak ?_)))
 subst hnx75
 exact iw ⟨m741, (IW + 1), v105, Fh, rC⟩ ⟨h.cn _, hs⟩
 refine nE (aa (aB h 7 rfl jc rfl rfl) (aa (ae (v := v68) rfl) (aa (ae (v := (I6 0)) rfl) (nR (Dz (v1 := v68) (v2 := (I6 0)) Tryz.results48 rfl rfl ?_)))))
 obtain rfl := gK hs
 exact ⟨h.grown, _, rfl, (h.mh 11 rfl).1, (h.mh 11 rfl).2⟩
def Dq (Ht : List Val → Option (List Val)) (FJ : List Val) : Option (List Val) :=
  Ht FJ
def Dr (mL : List (Int × Int)) (i6 : Int) (x4 : List Val) (Ht : List Val → Option (List Val)) : Option (List Val) :=
  (idx x4 i6).bind fun zx => bif decide ((zx.kind : Int) = 2) then Dq Ht (x4.set (i6).toNat { zx with n := ((lk zx.n mL).getD (0 : Int)) }) else Dq Ht x4
def F9 (x4 : List Val) : Option (List Val) :=
  some x4
def IX (sx : List Val) (mL : List (Int × Int)) : Option (List Val) :=
  upto (Dr mL) F9 0 ((sx.length : Int)).toNat sx
theorem NJ (w0 : World) (M : BS) (hM : ∀ b, M b → b < w0.heap.size) (bq bm : Nat) (sv : Value) (sx : List Val) (hC : Chunk.holds w0 M (Chunk.own' (.own aY 51 sv sx : Chunk)) (.own aY 51 sv sx : Chunk)) (hap : ∀ b, Chunk.own' (.own aY 51 sv sx : Chunk) b → ¬ M b) (mL : List (Int × Int)) (hbm : xW w0 bm (List.map (fun p => (p.1, (fun x => Value.int .i64 x) p.2)) mL)) (nbm : ¬ Chunk.own' (.own aY 51 sv sx : Chunk) bm) (hbq : ∃ E, w0.heap[bq]? = some (.cells #[(.map (some bm))] E (0, 0))) (nbq : ¬ Chunk.own' (.own aY 51 sv sx : Chunk) bq) (r : List Val) (hs : IX sx mL = some r) :
    Calls Tryz.prog 50 #[sv, (.pointer (some ⟨bq, 0, none⟩))] w0 (fun e w' => aQ (Chunk.own' (.own aY 51 sv sx : Chunk)) w0 w' ∧ e = .returned (.tuple #[]) ∧ Chunk.holds w' M (Chunk.own' (.own aY 51 sv r : Chunk)) (.own aY 51 sv r : Chunk) ∧ (∀ b, Chunk.own' (.own aY 51 sv r : Chunk) b → b < w0.heap.size → Chunk.own' (.own aY 51 sv sx : Chunk) b)) := by
 refine aL (args := [sv, (.pointer (some ⟨bq, 0, none⟩))]) Tryz.func50 rfl Tryz.ntmps50 (bH rfl) ?_
 have h := SH.EO hM hC hap
 replace h := h.xL 3 (cs := [(.map (some bm))]) hbq nbq zh
 have nbqK := nbq
 have nbmK := nbm
 generalize Hy : (.own aY 51 sv sx : Chunk).own' = K0 at h nbqK nbmK
 refine nG (aa (ag (v := sv) rfl) (aa (aX di rfl (h.dJ 1 rfl)) (aa (ag (v := (I6 0)) rfl) (nN (aH ?_)))))
 have hli6 := (h.dJ 1 rfl).bD
 refine eF (σ := Nat × Int × List Val) (inl ([3, 4] ++ rg 7 17)) (fun ⟨k5, i6, x4⟩ => [(7, (I6 i6))]) (fun ⟨k5, i6, x4⟩ w => SH w0 M K0 w (hset [(1, .own aY 51 sv x4), (2, .no), (3, .pt bq 0 [(.map (some bm))])]) ∧ i6 = (k5 : Int) ∧ upto (Dr mL) F9 i6 (((sx.length : Int)).toNat - k5) x4 = some r) (fun ⟨k5, i6, x4⟩ => ((sx.length : Int)).toNat - k5) ⟨0, 0, sx⟩ ⟨rfl, trivial⟩ ?_ ?_
 exact ⟨h.cn _, rfl, hs⟩
 rintro ⟨k5, i6, x4⟩ w dC ⟨h, hik, hs⟩
 refine nG ?_
 refine aa (dK rfl rfl) (nN ?_)
 refine aJ (fD rfl (fun e10 => ?_) (fun e10 => ?_))
 refine aG (aj ?_)
 rw [lv (by have := kQ e10; omega)] at hs
 generalize Um : upto (Dr mL) F9 (i6 + 1) (((sx.length : Int)).toNat - (k5 + 1)) = Ht at hs
 have Un : jN (i6 + 1) := (by have := kQ e10; have := hli6; exact jN.mk (by omega) (by omega))
 refine dm (σ := List Val) (inl ([3, 4] ++ rg 9 14)) (fun FJ => []) (fun FJ w => SH w0 M K0 w (hset [(1, .own aY 51 sv FJ), (2, .no), (3, .pt bq 0 [(.map (some bm))])]) ∧ Dq Ht FJ = some r) ?_ ?_
 rintro FJ w dC ⟨h, hs⟩
 refine ay (aa (dz rfl rfl Un) (aa (ag (v := (I6 ((i6 + 1)))) rfl) (aC (ak ?_))))
 subst Um
 exact iw ⟨k5 + 1, i6 + 1, FJ⟩ ⟨h.cn _, by omega, hs⟩ (by have := kQ e10; dsimp only; omega)
 refine aH (nG (aa (ag (v := (I6 i6)) rfl) ?_))
 obtain ⟨zx, e14, hs⟩ := aM hs
 obtain ⟨b16, q17, i15⟩ := h.FL 1 rfl di rfl (aR e14).1 (aR e14).2
 refine aa (i15 _ _ _ _ _ _ _ _ _ rfl rfl) ?_
 obtain ⟨cs18, m19, Rs⟩ := h.JU 1 rfl q17 (aR e14).2
 obtain rfl := Rs
 refine aa (zF (k := 0) (vs := [(I6 zx.kind), (I6 zx.n)]) m19 dR rfl rfl rfl (bH rfl)) (bu h 4 dR fun w Iy h => aa (ae (v := (I6 i6)) rfl) (dN (vs := [(I6 zx.kind), (I6 zx.n)]) h 4 [(I6 zx.kind), (I6 zx.n)] rfl dR rfl rfl rfl rfl rfl (ai rfl (ai rfl aS)) fun w h => nJ (aa (ah rV rfl) (aa (aB h 4 rfl aP rfl rfl) (aa (bW rfl rfl) (nN (aK hs rfl (fun c22 hs => ?_) (fun c22 hs => ?_))))))))
 refine ay (aa (ag (v := sv) rfl) (aa (ag (v := (I6 i6)) rfl) (aa (eQ (k := 0) h 3 rfl QF rfl rfl) (aa (ah jF rfl) (aa (aB h 4 rfl aP rfl rfl) (aa (Y9 (f := (fun x => Value.int .i64 x)) (zz := (0 : Int)) mL ((hbm).keep h.keep nbmK) QE rfl rfl rfl) ?_))))))
 obtain ⟨b24, q25, i23⟩ := h.FL 1 rfl di rfl (aR e14).1 (aR e14).2
 refine aa (i23 _ _ _ _ _ _ _ _ _ rfl rfl) (aa (ah jF rfl) (Td (a' := { zx with n := ((lk zx.n mL).getD (0 : Int)) }) h 1 rfl q25 rfl (aR e14).2 aP rfl rfl rfl rfl (by rintro _ rfl; rfl) fun w h => aC (au (ak ?_))))
 exact cO (x4.set (i6).toNat { zx with n := ((lk zx.n mL).getD (0 : Int)) }) ⟨h.cn _, hs⟩
 refine aG (au (ak ?_))
 exact cO x4 ⟨h.cn _, hs⟩
 rw [lC (by have := of_decide_eq_false e10; omega)] at hs
 refine iI (bC (bC (dV (H6 Tryz.results50 ?_))))
 obtain rfl := gK hs
 subst Hy
 obtain ⟨o1, o2, o3⟩ := h.zI 1 (C := (.own aY 51 sv x4 : Chunk)) rfl trivial
 exact ⟨o2, rfl, o1, o3⟩
def xJ (Bd : List (Int × Int)) (i127 : Int) (Ga : List (List Val)) (Yo : List (List Val) → Option LX.State) : Option LX.State :=
  (idx Ga i127).bind fun D8 => (IX D8 Bd).bind fun Vb => Yo (Ga.set (i127).toNat Vb)
def yu (GA : List LX.Frame) (lM : LX.State) (Ga : List (List Val)) : Option LX.State :=
  some (⟨GA, Ga, lM.status, lM.bB⟩ : LX.State)
def wm (Bd : List (Int × Int)) (i99 : Int) (GA : List LX.Frame) (Yp : List LX.Frame → Option LX.State) : Option LX.State :=
  (idx GA i99).bind fun x105 => (IX x105.regs Bd).bind fun F8 => Yp (GA.set (i99).toNat ({ x105 with regs := F8 }))
def yw (Bd : List (Int × Int)) (lM : LX.State) (EF : List (List Val)) (GA : List LX.Frame) : Option LX.State :=
  upto (xJ Bd) (yu GA lM) 0 ((EF.length : Int)).toNat EF
def rq (lM : LX.State) (i67 : Int) (Vd : Int) (s : List (List Val) × List Int × List (Int × Int)) (nx70 : List (List Val) × List Int × List (Int × Int) → Option LX.State) : Option LX.State :=
  match s with | (EF, SI, Bd) => (idx lM.cells Vd).bind fun Yq => iA (Vd ∉ SI) (iA (Room 24 EF [Yq]) (nx70 ((EF ++ [Yq]), (SI ++ [Vd]), (Bl Vd i67 Bd))))
def tJ (lM : LX.State) (s : List (List Val) × List Int × List (Int × Int)) : Option LX.State :=
  match s with | (EF, SI, Bd) => upto (wm Bd) (yw Bd lM EF) 0 ((lM.frames.length : Int)).toNat lM.frames
def tK (zx : LX.Frame) (xZ : List Val) (Ve : List Val → Option LX.State) : Option LX.State :=
  iA (Room 16 xZ zx.regs) (Ve (xZ ++ zx.regs))
def yx (N : Nat) (a : LX.State) (xZ : List Val) : Option LX.State :=
  (BC N a.cells xZ).bind fun y28 => bif decide ((y28.2 : Int) ≠ 0) then none else (HY a).bind fun lM => dQ (rq lM) (tJ lM) 0 y28.1 ([], ([] : List Int), ([] : List (Int × Int)))
def Av (N : Nat) (a : LX.State) : Option LX.State :=
  each tK (yx N a) a.frames []
theorem IY (N : Nat) (w0 : World) (M : BS) (hM : ∀ b, M b → b < w0.heap.size) (a : LX.State) (rF rY : Value) (ha0 : fK dM w0 BE M rF a.frames) (ha1 : fK (kW aY) w0 BE M rY a.cells) (r : LX.State) (hs : Av N a = some r) :
    Calls Tryz.prog 20 #[(.agg #[rF, rY, (I6 a.status), (I6 a.bB)])] w0 (fun e w' => Grow w0 w' ∧ ∃ tT, ∃ wG, ∃ zl, ∃ Eh, e = .returned (.agg #[tT, wG, .int .i64 r.status, .int .i64 r.bB]) ∧ Chunk.holds w' M (Chunk.own' ((cU tT wG r.frames zl r.cells Eh) : Chunk)) ((cU tT wG r.frames zl r.cells Eh) : Chunk) ∧ (∀ b, Chunk.own' ((cU tT wG r.frames zl r.cells Eh) : Chunk) b → w0.heap.size ≤ b)) := by
 refine aL (args := [(.agg #[rF, rY, (I6 a.status), (I6 a.bB)])]) Tryz.func20 rfl Tryz.ntmps20 (bH rfl) ?_
 have h := SH.init hM
 replace h := h.eu 1 ha0 aT
 replace h := h.eu 2 ha1 (aW aT)
 refine nG (l7 (cs := [rF, rY, (I6 a.status), (I6 a.bB)]) h 3 rfl rfl fun w b1 h => bu h 4 bM fun w b2 h => nJ (aa (ae (v := (.slice none 0 0)) rfl) (nK (aa (ah gQ rfl) (aa (aB h 3 rfl lJ rfl rfl) (aa (aX dI rfl (h.fQ 1 rfl)) (aa (ag (v := (I6 0)) rfl) (nN (aH ?_)))))))))
 replace h := h.uZ (R := aY) (E := 51) 8
 refine eF (σ := Nat × Int × Value × List Val) (inl ([3, 5] ++ rg 20 9)) (fun ⟨k11, i12, v9, xZ⟩ => [(3, v9), (20, (I6 i12))]) (fun ⟨k11, i12, v9, xZ⟩ w => SH w0 M BE w (hset [(1, .sr dM rF a.frames), (2, .sr (kW aY) rY a.cells), (3, .blk b1 [rF, rY, (I6 a.status), (I6 a.bB)]), (4, .blk b2 [(.slice none 0 0), (.slice none 0 0), (I6 0), (I6 0)]), (8, .own aY 51 v9 xZ)]) ∧ i12 = (k11 : Int) ∧ each tK (yx N a) (a.frames.drop k11) xZ = some r) (fun ⟨k11, i12, v9, xZ⟩ => a.frames.length - k11) ⟨0, 0, (.slice none 0 0), []⟩ ⟨rfl, rfl, trivial⟩ ?_ ?_
 exact ⟨h.cn _, rfl, hs⟩
 rintro ⟨k11, i12, v9, xZ⟩ w dC ⟨h, hik, hs⟩
 refine nG ?_
 refine aa (dK rfl rfl) (nN ?_)
 refine aJ (fD rfl (fun e16 => ?_) (fun e16 => ?_))
 refine aG (aj ?_)
 obtain ⟨zx, e17a, e17b⟩ := eU (hik ▸ e16)
 rw [e17b, df] at hs
 generalize Vf : each tK (yx N a) (a.frames.drop (k11 + 1)) = Ve at hs
 have e17r := eZ ((h.fQ 1 rfl)).bD hik e16
 refine aJ (aH (nG ?_))
 obtain ⟨b19, o20, Xw, h, Xx, i18⟩ := h.vo 1 9 rfl dI rfl (gB hik) (eY hik e17a)
 obtain ⟨u23, rfl, g24⟩ := mU Xx
 replace h := h.bK 10 g24.up
 refine aa (i18 _ _ _ _ _ _ _ _ _ rfl rfl) (aa (iD (k := 0) (vs := [(I6 zx.proc), (I6 zx.at_), u23, (I6 zx.ja)]) h 9 rfl fF rfl rfl rfl (bH rfl)) (bu h 11 fF fun w b25 h => dN (vs := [(I6 zx.proc), (I6 zx.at_), u23, (I6 zx.ja)]) h 11 [(I6 zx.proc), (I6 zx.at_), u23, (I6 zx.ja)] rfl fF rfl rfl rfl rfl rfl (ai rfl (ai rfl (ai (h.gy 10 rfl).one (ai rfl aS)))) fun w h => nN (ay (aa (ag (v := v9) rfl) (aa (ah ko rfl) (aa (aB h 11 rfl kr rfl rfl) ?_))))))
 obtain ⟨a26, hs⟩ := bE hs
 refine jb (R := aY) (m := zx.regs) h 8 rfl (h.lF 10 rfl) nk rfl rfl rfl a26.1 a26.2 fun w u27 h => aa (ae (v := u27) rfl) (aC (au (aj (ay (aa (dz rfl rfl e17r) (aa (ag (v := (I6 ((i12 + 1)))) rfl) (aC (ak ?_))))))))
 subst Vf
 exact iw ⟨k11 + 1, i12 + 1, u27, (xZ ++ zx.regs)⟩ ⟨h.cn _, by omega, hs⟩ (by have := kQ e16; dsimp only; omega)
 rw [eX (hik ▸ e16), dZ] at hs
 refine nE (aa (ah gL rfl) (aa (aB h 3 rfl jL rfl rfl) (aa (ag (v := v9) rfl) ?_)))
 obtain ⟨y28, e29, hs⟩ := aM hs
 refine aO Zi rfl rfl (Me N _ _ h.lt rY a.cells (h.fQ 2 rfl) v9 xZ (h.dJ 8 rfl) _ e29) ?_
 rintro _ w ⟨QG, u30, rfl, g31, UU⟩
 refine ⟨_, rfl, ?_⟩
 replace h := h.mg 12 QG g31 UU
 refine aa (ag (v := (.tuple #[u30, (I6 y28.2)])) rfl) (aa (bJ rfl rfl) (aa (bJ rfl rfl) (aa (ae (v := u30) rfl) (aa (ae (v := (I6 y28.2)) rfl) (nK (aa (ag (v := (I6 y28.2)) rfl) (aa (gV rfl rfl) (nN (aK hs rfl (fun c34 hs => ?_) (fun c34 hs => ?_))))))))))
 refine nG (aa (eB (vs := [rF, rY, (I6 a.status), (I6 a.bB)]) h 3 rfl bM rfl rfl rfl) (dN (vs := [rF, rY, (I6 a.status), (I6 a.bB)]) h 4 [rF, rY, (I6 a.status), (I6 a.bB)] rfl bM rfl rfl rfl rfl rfl (ai (h.OG 1 rfl).one (ai (h.OG 2 rfl).one (ai rfl (ai rfl aS)))) fun w h => nR (ax ?_)))
 cases hs
 refine nS (aa (eB (vs := [rF, rY, (I6 a.status), (I6 a.bB)]) h 3 rfl bM rfl rfl rfl) ?_)
 obtain ⟨lM, e36, hs⟩ := aM hs
 refine aO Zj rfl rfl (RQ _ _ h.lt a rF rY (h.fQ 1 rfl) (h.fQ 2 rfl) _ e36) ?_
 rintro _ w ⟨k43, u37, Mf, yP, Gb, rfl, h41, h42⟩
 refine ⟨_, rfl, ?_⟩
 replace h := h.Lu 13 (C := (cU u37 Mf lM.frames yP lM.cells Gb)) k43 ⟨⟨⟨trivial, trivial⟩, trivial⟩, trivial⟩ h41 h42
 replace h := h.gJ 13 16 (by decide) rfl rfl
 replace h := h.gJ 13 15 (by decide) rfl rfl
 replace h := h.gJ 13 14 (by decide) rfl rfl
 refine dN (vs := [u37, Mf, (I6 lM.status), (I6 lM.bB)]) h 3 [u37, Mf, (I6 lM.status), (I6 lM.bB)] rfl bM rfl rfl rfl rfl rfl (ai (h.eD 13 rfl).one (ai (h.eD 15 rfl).one (ai rfl (ai rfl aS)))) fun w h => nJ (z8 h 17 fun w OA h => lZ h 18 QF fun w Wq h => dS h 18 [(.map (some OA))] rfl QF rfl rfl rfl rfl rfl fun w h => nJ (aa (ae (v := (.slice none 0 0)) rfl) (nK (aa (ag (v := u30) rfl) (aa (aX bN rfl (h.dJ 12 rfl)) (aa (ag (v := (I6 0)) rfl) (nN (aH ?_))))))))
 replace h := h.freeze 12 rfl
 replace h := h.Y6 16 rfl
 replace h := h.uZ (R := (gW Val).raw) (E := 47) 25
 replace h := h.Ls (R := aY) (Es := 51) 26
 refine eF (σ := Nat × Int × Value × List Value × List (List Val) × List Int × List (Int × Int)) (inl ([9, 10, 11] ++ rg 44 17)) (fun ⟨Yr, i67, v61, Hd, EF, SI, Bd⟩ => [(9, v61), (44, (I6 i67))]) (fun ⟨Yr, i67, v61, Hd, EF, SI, Bd⟩ w => SH w0 M BE w (hset [(3, .blk b1 [u37, Mf, (I6 lM.status), (I6 lM.bB)]), (4, .blk b2 [(.slice none 0 0), (.slice none 0 0), (I6 0), (I6 0)]), (12, .rd dw u30 y28.1), (13, .own fo.raw 49 u37 (List.zip lM.frames yP)), (14, .jv (fw aY 51 hn yP (List.map fo.sub lM.frames))), (15, .own (gW Val).raw 47 Mf (List.zip lM.cells Gb)), (16, .jv (fw aY 51 (hmv SI) Gb (List.map (gW Val).sub lM.cells))), (17, .mp OA (List.map (fun p => (p.1, (fun x => Value.int .i64 x) p.2)) Bd)), (18, .blk Wq [(.map (some OA))]), (25, .own (gW Val).raw 47 v61 (List.zip EF Hd)), (26, .jv (fw aY 51 hn Hd (List.map (gW Val).sub EF)))]) ∧ i67 = (Yr : Int) ∧ dQ (rq lM) (tJ lM) i67 (y28.1.drop Yr) (EF, SI, Bd) = some r) (fun ⟨Yr, i67, v61, Hd, EF, SI, Bd⟩ => y28.1.length - Yr) ⟨0, 0, (.slice none 0 0), ([] : List Value), [], ([] : List Int), ([] : List (Int × Int))⟩ ⟨rfl, rfl, trivial⟩ ?_ ?_
 exact ⟨h.cn _, rfl, hs⟩
 rintro ⟨Yr, i67, v61, Hd, EF, SI, Bd⟩ w dC ⟨h, hik, hs⟩
 refine nG ?_
 refine aa (dK rfl rfl) (nN ?_)
 refine aJ (fD rfl (fun Xu => ?_) (fun Xu => ?_))
 refine aG (aj ?_)
 obtain ⟨Vd, e72a, e72b⟩ := eU (hik ▸ Xu)
 rw [e72b, jC] at hs
 generalize hnx70 : dQ (rq lM) (tJ lM) (i67 + 1) (y28.1.drop (Yr + 1)) = nx70 at hs
 have e72r := eZ ((h.lF 12 rfl)).bD hik Xu
 refine aJ (aH (nG (aa (ag (v := (I6 i67)) rfl) ?_)))
 obtain ⟨b74, o75, cs76, h, r77, i73⟩ := h.FH 12 27 rfl bN rfl (gB hik) (eY hik e72a)
 obtain rfl := r77
 refine aa (i73 _ _ _ _ _ _ _ _ _ rfl rfl) (aa (eQ (k := 0) h 27 rfl aP rfl rfl) (aa (ae (v := (I6 i67)) rfl) (aa (ae (v := (I6 Vd)) rfl) (nJ (aa (aB h 18 rfl QF rfl rfl) (aa (ag (v := (I6 Vd)) rfl) (aa (ag (v := (I6 i67)) rfl) (Ck (kP := (List.map (fun p => (p.1, (fun x => Value.int .i64 x) p.2)) (Bl Vd i67 Bd))) h 17 rfl QE rfl rfl rfl (Di (f := (fun x => Value.int .i64 x)) _) fun w h => nN (ay (aa (ag (v := v61) rfl) (aa (ah gL rfl) (aa (aB h 3 rfl jL rfl rfl) (aa (ag (v := (I6 Vd)) rfl) ?_)))))))))))))
 obtain ⟨Yq, e79, hs⟩ := aM hs
 obtain ⟨a83, hs⟩ := bE hs
 obtain ⟨Yt, e85, h⟩ := h.WO 16 28 Yq rfl rfl (by decide) (aR e79).1 (aR e79).2 a83 rfl
 obtain ⟨b81, q82, i80⟩ := h.FL 15 rfl dO rfl (aR e79).1 (kX (aR e79).2 e85)
 refine aa (i80 _ _ _ _ _ _ _ _ _ rfl rfl) ?_
 obtain ⟨cs86, m87, r88⟩ := h.JU 15 rfl q82 (kX (aR e79).2 e85)
 obtain ⟨rfl, -⟩ := r88
 refine aa (zX (k := 0) m87 kr rfl rfl) ?_
 have u89o : (Value.oneCell' Yt) = true := (h.eD 28 rfl).one
 refine mX (R := (gW Val).raw) (vs := [Yt]) (xs := List.zip [Yq] [Yt]) h 29 jB rfl rfl rfl ⟨⟨mQ u89o, u89o⟩, trivial⟩ rfl fun w u89 h => ?_
 replace h := h.Hm (N := (gW Val)) 28 Yq rfl rfl
 obtain ⟨a90, hs⟩ := bE hs
 have z92 := h.lq 26 rfl
 have z92b := h.lq 28 rfl
 refine jb (R := (gW Val).raw) (m := List.zip [Yq] [Yt]) h 25 rfl (h.dJ 29 rfl) jB rfl rfl rfl (by rw [j4 z92, j4 z92b]; exact a90.1) (by rw [j4 z92, j4 z92b]; exact a90.2) fun w ZO h => ?_
 replace h := (h.Hg 26 28 rfl rfl (by decide)).ug 29
 rw [Hl z92, ← List.map_append] at h
 obtain ⟨us93, us93e⟩ : ∃ z, z = Hd ++ [Yt] := ⟨_, rfl⟩
 rw [← us93e] at h
 refine aa (ae (v := ZO) rfl) (aC (au (aj (ay (aa (dz rfl rfl e72r) (aa (ag (v := (I6 ((i67 + 1)))) rfl) (aC (ak ?_))))))))
 subst hnx70
 exact iw ⟨Yr + 1, i67 + 1, ZO, us93, (EF ++ [Yq]), (SI ++ [Vd]), (Bl Vd i67 Bd)⟩ ⟨h.cn _, by omega, hs⟩ (by have := kQ Xu; dsimp only; omega)
 rw [eX (hik ▸ Xu), mY] at hs
 refine nE (aa (ng (c1 := []) (c2 := [(.pointer (some ⟨Wq, 0, none⟩))]) rfl rfl) (aa (ae (v := (.func (.func 50) #[] #[(.pointer (some ⟨Wq, 0, none⟩))])) rfl) (nK (aa (ah gQ rfl) (aa (aB h 3 rfl lJ rfl rfl) (aa (wL (N := fo) dI rfl (h.dJ 13 rfl) (h.lq 14 rfl)) (aa (ag (v := (I6 0)) rfl) (nN (aH ?_)))))))))
 have hli99 := Ct (h.dJ 13 rfl) (h.lq 14 rfl)
 refine eF (σ := Nat × Int × List LX.Frame) (inl ([14] ++ rg 65 9)) (fun ⟨Yu, i99, GA⟩ => [(65, (I6 i99))]) (fun ⟨Yu, i99, GA⟩ w => SH w0 M BE w (hset [(3, .blk b1 [u37, Mf, (I6 lM.status), (I6 lM.bB)]), (4, .blk b2 [(.slice none 0 0), (.slice none 0 0), (I6 0), (I6 0)]), (13, .own fo.raw 49 u37 (List.zip GA yP)), (14, .jv (fw aY 51 hn yP (List.map fo.sub GA))), (15, .own (gW Val).raw 47 Mf (List.zip lM.cells Gb)), (16, .jv (fw aY 51 (hmv SI) Gb (List.map (gW Val).sub lM.cells))), (17, .mp OA (List.map (fun p => (p.1, (fun x => Value.int .i64 x) p.2)) Bd)), (18, .blk Wq [(.map (some OA))]), (25, .own (gW Val).raw 47 v61 (List.zip EF Hd)), (26, .jv (fw aY 51 hn Hd (List.map (gW Val).sub EF)))]) ∧ i99 = (Yu : Int) ∧ upto (wm Bd) (yw Bd lM EF) i99 (((lM.frames.length : Int)).toNat - Yu) GA = some r) (fun ⟨Yu, i99, GA⟩ => ((lM.frames.length : Int)).toNat - Yu) ⟨0, 0, lM.frames⟩ ⟨rfl, trivial⟩ ?_ ?_
 exact ⟨h.cn _, rfl, hs⟩
 rintro ⟨Yu, i99, GA⟩ w dC ⟨h, hik, hs⟩
 refine nG ?_
 refine aa (dK rfl rfl) (nN ?_)
 refine aJ (fD rfl (fun Vg => ?_) (fun Vg => ?_))
 refine aG (aj ?_)
 rw [lv (by have := kQ Vg; omega)] at hs
 generalize hnx102 : upto (wm Bd) (yw Bd lM EF) (i99 + 1) (((lM.frames.length : Int)).toNat - (Yu + 1)) = Yp at hs
 have e104r : jN (i99 + 1) := (by have := kQ Vg; have := hli99; exact jN.mk (by omega) (by omega))
 refine aJ (aH (nG ?_))
 obtain ⟨x105, Vh, hs⟩ := aM hs
 obtain ⟨Px, e111, h⟩ := h.Bn 14 30 x105.regs rfl rfl (by decide) (aR Vh).2 rfl
 obtain ⟨b108, q109, i107⟩ := h.FL 13 rfl dI rfl (aR Vh).1 (kX (aR Vh).2 e111)
 refine aa (i107 _ _ _ _ _ _ _ _ _ rfl rfl) ?_
 obtain ⟨cs112, m113, r114⟩ := h.JU 13 rfl q109 (kX (aR Vh).2 e111)
 obtain ⟨rfl, -⟩ := r114
 refine aa (zF (k := 0) (vs := [(I6 x105.proc), (I6 x105.at_), Px, (I6 x105.ja)]) m113 fF rfl rfl rfl (bH rfl)) (bu h 31 fF fun w b115 h => dN (vs := [(I6 x105.proc), (I6 x105.at_), Px, (I6 x105.ja)]) h 31 [(I6 x105.proc), (I6 x105.at_), Px, (I6 x105.ja)] rfl fF rfl rfl rfl rfl rfl (ai rfl (ai rfl (ai (h.eD 30 rfl).one (ai rfl aS)))) fun w h => nN (ay (aa (ag (v := (.func (.func 50) #[] #[(.pointer (some ⟨Wq, 0, none⟩))])) rfl) (aa (ah ko rfl) (aa (aB h 31 rfl kr rfl rfl) ?_)))))
 obtain ⟨l116a, l116b, l116c⟩ := h.j5 30 (C := (.own aY 51 Px x105.regs : Chunk)) rfl trivial
 obtain ⟨F8, e118, hs⟩ := aM hs
 refine aO TU rfl rfl (NJ _ _ l116c Wq OA Px x105.regs l116a l116b Bd (h.OH 17 rfl) (fun hb => h.apart 30 17 (by decide) _ hb rfl) (h.lH 18 rfl) (fun hb => h.apart 30 18 (by decide) _ hb rfl) _ e118) ?_
 rintro _ w ⟨k119, rfl, h120, h121⟩
 refine ⟨_, rfl, ?_⟩
 replace h := h.back 30 (C := (.own aY 51 Px x105.regs : Chunk)) (C' := (.own aY 51 Px F8 : Chunk)) rfl trivial h120 k119 h121
 refine aC (au (aj (ay (aa (dz rfl rfl e104r) (aa (ag (v := (I6 ((i99 + 1)))) rfl) (aC ?_))))))
 replace h := h.Lr 13 14 30 ({ x105 with regs := F8 }) rfl rfl rfl (by decide) (by decide) (by decide) (aR Vh).2 e111 rfl
 refine ak ?_
 subst hnx102
 exact iw ⟨Yu + 1, i99 + 1, (GA.set (i99).toNat ({ x105 with regs := F8 }))⟩ ⟨h.cn _, by omega, hs⟩ (by have := kQ Vg; dsimp only; omega)
 rw [lC (by have := of_decide_eq_false Vg; omega)] at hs
 refine iI (bC (bC (dV (aj (aJ (nG (aa (ag (v := v61) rfl) (aa (wL (N := (gW Val)) dO rfl (h.dJ 25 rfl) (h.lq 26 rfl)) (aa (ag (v := (I6 0)) rfl) (nN (aH ?_)))))))))))
 have hli127 := Ct (h.dJ 25 rfl) (h.lq 26 rfl)
 refine eF (σ := Nat × Int × List (List Val)) (inl ([16] ++ rg 76 8)) (fun ⟨NK, i127, Ga⟩ => [(76, (I6 i127))]) (fun ⟨NK, i127, Ga⟩ w => SH w0 M BE w (hset [(3, .blk b1 [u37, Mf, (I6 lM.status), (I6 lM.bB)]), (4, .blk b2 [(.slice none 0 0), (.slice none 0 0), (I6 0), (I6 0)]), (13, .own fo.raw 49 u37 (List.zip GA yP)), (14, .jv (fw aY 51 hn yP (List.map fo.sub GA))), (15, .own (gW Val).raw 47 Mf (List.zip lM.cells Gb)), (16, .jv (fw aY 51 (hmv SI) Gb (List.map (gW Val).sub lM.cells))), (17, .mp OA (List.map (fun p => (p.1, (fun x => Value.int .i64 x) p.2)) Bd)), (18, .blk Wq [(.map (some OA))]), (25, .own (gW Val).raw 47 v61 (List.zip Ga Hd)), (26, .jv (fw aY 51 hn Hd (List.map (gW Val).sub Ga)))]) ∧ i127 = (NK : Int) ∧ upto (xJ Bd) (yu GA lM) i127 (((EF.length : Int)).toNat - NK) Ga = some r) (fun ⟨NK, i127, Ga⟩ => ((EF.length : Int)).toNat - NK) ⟨0, 0, EF⟩ ⟨rfl, trivial⟩ ?_ ?_
 exact ⟨h.cn _, rfl, hs⟩
 rintro ⟨NK, i127, Ga⟩ w dC ⟨h, hik, hs⟩
 refine nG ?_
 refine aa (dK rfl rfl) (nN ?_)
 refine aJ (fD rfl (fun Vi => ?_) (fun Vi => ?_))
 refine aG (aj ?_)
 rw [lv (by have := kQ Vi; omega)] at hs
 generalize hnx130 : upto (xJ Bd) (yu GA lM) (i127 + 1) (((EF.length : Int)).toNat - (NK + 1)) = Yo at hs
 have e132r : jN (i127 + 1) := (by have := kQ Vi; have := hli127; exact jN.mk (by omega) (by omega))
 refine aJ (aH (nG ?_))
 obtain ⟨D8, Vj, hs⟩ := aM hs
 obtain ⟨u138, RL, h⟩ := h.Bn 26 32 D8 rfl rfl (by decide) (aR Vj).2 rfl
 obtain ⟨b136, q137, i135⟩ := h.FL 25 rfl dO rfl (aR Vj).1 (kX (aR Vj).2 RL)
 refine aa (i135 _ _ _ _ _ _ _ _ _ rfl rfl) ?_
 obtain ⟨cs140, m141, r142⟩ := h.JU 25 rfl q137 (kX (aR Vj).2 RL)
 obtain ⟨rfl, -⟩ := r142
 refine aa (zX (k := 0) m141 kr rfl rfl) (aa (ae (v := u138) rfl) (nN (ay (aa (ag (v := (.func (.func 50) #[] #[(.pointer (some ⟨Wq, 0, none⟩))])) rfl) (aa (ag (v := u138) rfl) ?_)))))
 obtain ⟨l143a, l143b, l143c⟩ := h.j5 32 (C := (.own aY 51 u138 D8 : Chunk)) rfl trivial
 obtain ⟨Vb, e145, hs⟩ := aM hs
 refine aO TU rfl rfl (NJ _ _ l143c Wq OA u138 D8 l143a l143b Bd (h.OH 17 rfl) (fun hb => h.apart 32 17 (by decide) _ hb rfl) (h.lH 18 rfl) (fun hb => h.apart 32 18 (by decide) _ hb rfl) _ e145) ?_
 rintro _ w ⟨k146, rfl, h147, h148⟩
 refine ⟨_, rfl, ?_⟩
 replace h := h.back 32 (C := (.own aY 51 u138 D8 : Chunk)) (C' := (.own aY 51 u138 Vb : Chunk)) rfl trivial h147 k146 h148
 refine aC (au (aj (ay (aa (dz rfl rfl e132r) (aa (ag (v := (I6 ((i127 + 1)))) rfl) (aC ?_))))))
 replace h := h.Lr 25 26 32 Vb rfl rfl rfl (by decide) (by decide) (by decide) (aR Vj).2 RL rfl
 refine ak ?_
 subst hnx130
 exact iw ⟨NK + 1, i127 + 1, (Ga.set (i127).toNat Vb)⟩ ⟨h.cn _, by omega, hs⟩ (by have := kQ Vi; dsimp only; omega)
 rw [lC (by have := of_decide_eq_false Vi; omega)] at hs
 refine nE (aa (ag (v := v61) rfl) (aa (ah gL rfl) (dS h 3 [u37, v61, (I6 lM.status), (I6 lM.bB)] rfl jL rfl rfl rfl rfl (h.eD 25 rfl).one fun w h => nJ (aa (eB (vs := [u37, v61, (I6 lM.status), (I6 lM.bB)]) h 3 rfl bM rfl rfl rfl) (dN (vs := [u37, v61, (I6 lM.status), (I6 lM.bB)]) h 4 [u37, v61, (I6 lM.status), (I6 lM.bB)] rfl bM rfl rfl rfl rfl rfl (ai (h.eD 13 rfl).one (ai (h.eD 25 rfl).one (ai rfl (ai rfl aS)))) fun w h => nR (Ki (vs := [u37, v61, (I6 lM.status), (I6 lM.bB)]) Tryz.results20 rfl h 4 rfl bM rfl ?_))))))
 replace h := h.pair 13 14 (by decide)
 replace h := h.pair 13 25 (by decide)
 replace h := h.pair 13 26 (by decide)
 obtain rfl := gK hs
 obtain ⟨o1, o2, o3⟩ := h.zI 13 (C := (cU u37 v61 GA yP Ga Hd)) rfl ⟨⟨⟨trivial, trivial⟩, trivial⟩, trivial⟩
 exact ⟨o2, u37, v61, yP, Hd, rfl, o1, EU o3⟩
end
end Go.Proofs.YtfclkapelkhlpaaGreatDoor
namespace Go.Proofs.YtfclkapelkhlpaaGreatDoor
open Go Go.Proofs Go.LX
noncomputable section
def p9 (a : List Int) (b : List Int) (i3 : Int) (s : Unit) (D5 : Unit → Option Bool) : Option Bool :=
  (idx a i3).bind fun x9 => (idx b i3).bind fun p8 => bif decide ((x9 : Int) ≠ p8) then some false else D5 ()
def tV (s : Unit) : Option Bool :=
  some true
def slices_Equal_int (a : List Int) (b : List Int) : Option Bool :=
  bif decide (((a.length : Int) : Int) ≠ (b.length : Int)) then some false else upto (p9 a b) tV 0 ((a.length : Int)).toNat ()
theorem Ej (w0 : World) (M : BS) (hM : ∀ b, M b → b < w0.heap.size) (va : Value) (a : List Int) (ha : fK dw w0 BE M va a) (vb : Value) (b : List Int) (hb : fK dw w0 BE M vb b) (r : Bool) (hs : slices_Equal_int a b = some r) :
    Calls Tryz.prog 18 #[va, vb] w0 (fun e w' => Grow w0 w' ∧ e = .returned (.bool r)) := by
 refine aL (args := [va, vb]) Tryz.func18 rfl Tryz.ntmps18 (bH rfl) ?_
 have h := SH.init hM
 replace h := h.eu 1 ha aT
 replace h := h.eu 2 hb (aW aT)
 have tQ := ha.bD
 have FU := hb.bD
 refine nG (aa (ae (v := (.bool (false))) rfl) (nK (aa (ag (v := va) rfl) (aa (aX bN rfl (h.fQ 1 rfl)) (aa (ag (v := vb) rfl) (aa (aX bN rfl (h.fQ 2 rfl)) (aa (gV rfl rfl) (nN (aK hs rfl (fun c1 hs => ?_) (fun c1 hs => ?_))))))))))
 refine nG (aa (ae (v := (.bool (false))) rfl) (nR (ax (bI (v := (.bool (false))) Tryz.results18 rfl ?_))))
 obtain rfl := gK hs
 exact ⟨h.grown, rfl⟩
 refine aG (aj (aJ (nG (aa (ag (v := va) rfl) (aa (aX bN rfl (h.fQ 1 rfl)) (aa (ag (v := (I6 0)) rfl) (nN (aH ?_))))))))
 have Vk := (h.fQ 1 rfl).bD
 refine eF (σ := Nat × Int) (inl ([4, 5] ++ rg 13 13)) (fun ⟨k2, i3⟩ => [(13, (I6 i3))]) (fun ⟨k2, i3⟩ w => SH w0 M BE w (hset [(1, .sr dw va a), (2, .sr dw vb b)]) ∧ i3 = (k2 : Int) ∧ upto (p9 a b) tV i3 (((a.length : Int)).toNat - k2) () = some r) (fun ⟨k2, i3⟩ => ((a.length : Int)).toNat - k2) ⟨0, 0⟩ ⟨rfl, trivial⟩ ?_ ?_
 exact ⟨h.cn _, rfl, hs⟩
 rintro ⟨k2, i3⟩ w dC ⟨h, hik, hs⟩
 refine nG ?_
 refine aa (dK rfl rfl) (nN ?_)
 refine aJ (fD rfl (fun e7 => ?_) (fun e7 => ?_))
 refine aG (aj ?_)
 rw [lv (by have := kQ e7; omega)] at hs
 generalize D6 : upto (p9 a b) tV (i3 + 1) (((a.length : Int)).toNat - (k2 + 1)) = D5 at hs
 have OZ : jN (i3 + 1) := (by have := kQ e7; have := Vk; exact jN.mk (by omega) (by omega))
 refine aJ (aH (nG (aa (ag (v := (I6 i3)) rfl) (aa (ae (v := (I6 i3)) rfl) (nN (aJ (H9 mixed (by kernel_rfl) h fun w h => fM (ag (v := va) rfl) (fM (ag (v := (I6 i3)) rfl) ?_))))))))
 obtain ⟨x9, e10, hs⟩ := aM hs
 obtain ⟨b12, o13, cs14, h, r15, i11⟩ := h.vo 1 3 rfl bN rfl (aR e10).1 (aR e10).2
 obtain rfl := r15
 refine fM (i11 _ _ _ _ _ _ _ _ _ rfl rfl) (fM (eQ (k := 0) h 3 rfl aP rfl rfl) (fM (ag (v := vb) rfl) (fM (ag (v := (I6 i3)) rfl) ?_)))
 obtain ⟨p8, e17, hs⟩ := aM hs
 obtain ⟨b19, o20, Xw, h, Xx, i18⟩ := h.vo 2 4 rfl bN rfl (aR e17).1 (aR e17).2
 obtain rfl := Xx
 refine fM (i18 _ _ _ _ _ _ _ _ _ rfl rfl) (fM (eQ (k := 0) h 4 rfl aP rfl rfl) (fM (gV rfl rfl) (Ia (aj (aK hs rfl (fun c23 hs => ?_) (fun c23 hs => ?_))))))
 refine nG (aa (ae (v := (.bool (false))) rfl) (nR (aD (ax (ax (aD (ax (bI (v := (.bool (false))) Tryz.results18 rfl ?_))))))))
 obtain rfl := gK hs
 exact ⟨h.grown, rfl⟩
 refine aG (au (aj (ay (aa (dz rfl rfl OZ) (aa (ag (v := (I6 ((i3 + 1)))) rfl) (aC (ak ?_)))))))
 subst D6
 exact iw ⟨k2 + 1, i3 + 1⟩ ⟨h.cn _, by omega, hs⟩ (by have := kQ e7; dsimp only; omega)
 rw [lC (by have := of_decide_eq_false e7; omega)] at hs
 refine nE (aa (ae (v := (.bool (true))) rfl) (nR (bI (v := (.bool (true))) Tryz.results18 rfl ?_)))
 obtain rfl := gK hs
 exact ⟨h.grown, rfl⟩
def oD (a : List Val) (b : List Val) (i3 : Int) (s : Unit) (D5 : Unit → Option Bool) : Option Bool :=
  (idx a i3).bind fun x9 => (idx b i3).bind fun p8 => bif !(decide (x9.kind = p8.kind) && decide (x9.n = p8.n)) then some false else D5 ()
def rR (s : Unit) : Option Bool :=
  some true
def jm (a : List Val) (b : List Val) : Option Bool :=
  bif decide (((a.length : Int) : Int) ≠ (b.length : Int)) then some false else upto (oD a b) rR 0 ((a.length : Int)).toNat ()
theorem pG (w0 : World) (M : BS) (hM : ∀ b, M b → b < w0.heap.size) (va : Value) (a : List Val) (ha : fK aY w0 BE M va a) (vb : Value) (b : List Val) (hb : fK aY w0 BE M vb b) (r : Bool) (hs : jm a b = some r) :
    Calls Tryz.prog 47 #[va, vb] w0 (fun e w' => Grow w0 w' ∧ e = .returned (.bool r)) := by
 refine aL (args := [va, vb]) Tryz.func47 rfl Tryz.ntmps47 (bH rfl) ?_
 have h := SH.init hM
 replace h := h.eu 1 ha aT
 replace h := h.eu 2 hb (aW aT)
 have tQ := ha.bD
 have FU := hb.bD
 refine nG (aa (ae (v := (.bool (false))) rfl) (nK (aa (ag (v := va) rfl) (aa (aX di rfl (h.fQ 1 rfl)) (aa (ag (v := vb) rfl) (aa (aX di rfl (h.fQ 2 rfl)) (aa (gV rfl rfl) (nN (aK hs rfl (fun c1 hs => ?_) (fun c1 hs => ?_))))))))))
 refine nG (aa (ae (v := (.bool (false))) rfl) (nR (ax (bI (v := (.bool (false))) Tryz.results47 rfl ?_))))
 obtain rfl := gK hs
 exact ⟨h.grown, rfl⟩
 refine aG (aj (aJ (nG (aa (ag (v := va) rfl) (aa (aX di rfl (h.fQ 1 rfl)) (aa (ag (v := (I6 0)) rfl) (nN (aH ?_))))))))
 have Vk := (h.fQ 1 rfl).bD
 refine eF (σ := Nat × Int) (inl ([4, 5] ++ rg 13 13)) (fun ⟨k2, i3⟩ => [(13, (I6 i3))]) (fun ⟨k2, i3⟩ w => SH w0 M BE w (hset [(1, .sr aY va a), (2, .sr aY vb b)]) ∧ i3 = (k2 : Int) ∧ upto (oD a b) rR i3 (((a.length : Int)).toNat - k2) () = some r) (fun ⟨k2, i3⟩ => ((a.length : Int)).toNat - k2) ⟨0, 0⟩ ⟨rfl, trivial⟩ ?_ ?_
 exact ⟨h.cn _, rfl, hs⟩
 rintro ⟨k2, i3⟩ w dC ⟨h, hik, hs⟩
 refine nG ?_
 refine aa (dK rfl rfl) (nN ?_)
 refine aJ (fD rfl (fun e7 => ?_) (fun e7 => ?_))
 refine aG (aj ?_)
 rw [lv (by have := kQ e7; omega)] at hs
 generalize D6 : upto (oD a b) rR (i3 + 1) (((a.length : Int)).toNat - (k2 + 1)) = D5 at hs
 have OZ : jN (i3 + 1) := (by have := kQ e7; have := Vk; exact jN.mk (by omega) (by omega))
 refine aJ (aH (nG (aa (ag (v := (I6 i3)) rfl) (aa (ae (v := (I6 i3)) rfl) (nN (aJ (H9 mixed (by kernel_rfl) h fun w h => fM (ag (v := va) rfl) (fM (ag (v := (I6 i3)) rfl) ?_))))))))
 obtain ⟨x9, e10, hs⟩ := aM hs
 obtain ⟨b12, o13, cs14, h, r15, i11⟩ := h.vo 1 3 rfl di rfl (aR e10).1 (aR e10).2
 obtain rfl := r15
 refine fM (i11 _ _ _ _ _ _ _ _ _ rfl rfl) (fM (iD (k := 0) (vs := [(I6 x9.kind), (I6 x9.n)]) h 3 rfl dR rfl rfl rfl (bH rfl)) (fM (ag (v := vb) rfl) (fM (ag (v := (I6 i3)) rfl) ?_)))
 obtain ⟨p8, e17, hs⟩ := aM hs
 obtain ⟨b19, o20, Xw, h, Xx, i18⟩ := h.vo 2 4 rfl di rfl (aR e17).1 (aR e17).2
 obtain rfl := Xx
 refine fM (i18 _ _ _ _ _ _ _ _ _ rfl rfl) (fM (iD (k := 0) (vs := [(I6 p8.kind), (I6 p8.n)]) h 4 rfl dR rfl rfl rfl (bH rfl)) (fM (YS Xc rfl rfl) (Ia (aj (aK hs rfl (fun c23 hs => ?_) (fun c23 hs => ?_))))))
 refine nG (aa (ae (v := (.bool (false))) rfl) (nR (aD (ax (ax (aD (ax (bI (v := (.bool (false))) Tryz.results47 rfl ?_))))))))
 obtain rfl := gK hs
 exact ⟨h.grown, rfl⟩
 refine aG (au (aj (ay (aa (dz rfl rfl OZ) (aa (ag (v := (I6 ((i3 + 1)))) rfl) (aC (ak ?_)))))))
 subst D6
 exact iw ⟨k2 + 1, i3 + 1⟩ ⟨h.cn _, by omega, hs⟩ (by have := kQ e7; dsimp only; omega)
 rw [lC (by have := of_decide_eq_false e7; omega)] at hs
 refine nE (aa (ae (v := (.bool (true))) rfl) (nR (bI (v := (.bool (true))) Tryz.results47 rfl ?_)))
 obtain rfl := gK hs
 exact ⟨h.grown, rfl⟩
def yz (b : List (List Val)) (i3 : Int) (x4 : List Val) (s : Unit) (D5 : Unit → Option Bool) : Option Bool :=
  (idx b i3).bind fun p8 => (jm x4 p8).bind fun y25 => bif (!y25) then some false else D5 ()
def BD (s : Unit) : Option Bool :=
  some true
def Dt (a : List (List Val)) (b : List (List Val)) : Option Bool :=
  bif decide (((a.length : Int) : Int) ≠ (b.length : Int)) then some false else dQ (yz b) BD 0 a ()
theorem NL (w0 : World) (M : BS) (hM : ∀ b, M b → b < w0.heap.size) (va : Value) (a : List (List Val)) (ha : fK (kW aY) w0 BE M va a) (vb : Value) (b : List (List Val)) (hb : fK (kW aY) w0 BE M vb b) (r : Bool) (hs : Dt a b = some r) :
    Calls Tryz.prog 44 #[va, vb] w0 (fun e w' => Grow w0 w' ∧ e = .returned (.bool r)) := by
 refine aL (args := [va, vb]) Tryz.func44 rfl Tryz.ntmps44 (bH rfl) ?_
 have h := SH.init hM
 replace h := h.eu 1 ha aT
 replace h := h.eu 2 hb (aW aT)
 have tQ := ha.bD
 have FU := hb.bD
 refine nG (aa (ae (v := (.bool (false))) rfl) (nJ (aa (ag (v := va) rfl) (aa (ag (v := vb) rfl) (iL (args := [va, vb, (.func (.func 79) #[] #[])]) Zt rfl rfl (aL (args := [va, vb, (.func (.func 79) #[] #[])]) Tryz.func78 rfl Tryz.ntmps78 (bH rfl) (nG (aa (ae (v := (.bool (false))) rfl) (nK (aa (ag (v := va) rfl) (aa (aX dO rfl (h.fQ 1 rfl)) (aa (ag (v := vb) rfl) (aa (aX dO rfl (h.fQ 2 rfl)) (aa (gV rfl rfl) ?_))))))))))))))
 refine nN (aK hs rfl (fun c1 hs => ?_) (fun c1 hs => ?_))
 refine nG (aa (ae (v := (.bool (false))) rfl) (nR (ax (bI (v := (.bool (false))) Tryz.results78 rfl (⟨_, rfl, ?_⟩)))))
 refine aa (ae (v := (.bool (false))) rfl) (nR (bI (v := (.bool (false))) Tryz.results44 rfl ?_))
 obtain rfl := gK hs
 exact ⟨h.grown, rfl⟩
 refine aG (aj (aJ (nG (aa (ag (v := va) rfl) (aa (aX dO rfl (h.fQ 1 rfl)) (aa (ag (v := (I6 0)) rfl) (nN (aH (eF (σ := Nat × Int) (inl ([6, 7, 8, 9] ++ rg 17 15)) (fun ⟨k2, i3⟩ => [(17, (I6 i3))]) (fun ⟨k2, i3⟩ w => SH w0 M BE w (hset [(1, .sr (kW aY) va a), (2, .sr (kW aY) vb b)]) ∧ i3 = (k2 : Int) ∧ dQ (yz b) BD i3 (a.drop k2) () = some r) (fun ⟨k2, i3⟩ => a.length - k2) ⟨0, 0⟩ ⟨rfl, trivial⟩ ?_ ?_)))))))))
 exact ⟨h.cn _, rfl, hs⟩
 rintro ⟨k2, i3⟩ w dC ⟨h, hik, hs⟩
 refine nG ?_
 refine aa (dK rfl rfl) (nN ?_)
 refine aJ (fD rfl (fun e7 => ?_) (fun e7 => ?_))
 refine aG (aj ?_)
 obtain ⟨x4, Xd, Xe⟩ := eU (hik ▸ e7)
 rw [Xe, jC] at hs
 generalize D6 : dQ (yz b) BD (i3 + 1) (a.drop (k2 + 1)) = D5 at hs
 have OZ := eZ ((h.fQ 1 rfl)).bD hik e7
 refine aJ (aH (nG (aa (ag (v := (I6 i3)) rfl) ?_)))
 obtain ⟨b10, o11, Xf, h, Xg, i9⟩ := h.vo 1 3 rfl dO rfl (gB hik) (eY hik Xd)
 obtain ⟨G5, rfl, g15⟩ := Xg
 replace h := h.bK 4 g15.up
 refine aa (i9 _ _ _ _ _ _ _ _ _ rfl rfl) (aa (eQ (k := 0) h 3 rfl kr rfl rfl) (aa (ae (v := (I6 i3)) rfl) (aa (ae (v := G5) rfl) (nJ (aa (ag (v := vb) rfl) (aa (ag (v := (I6 i3)) rfl) ?_))))))
 obtain ⟨p8, e17, hs⟩ := aM hs
 obtain ⟨b19, o20, Xw, h, Xx, i18⟩ := h.vo 2 5 rfl dO rfl (aR e17).1 (aR e17).2
 obtain ⟨u23, rfl, g24⟩ := Xx
 replace h := h.bK 6 g24.up
 refine aa (i18 _ _ _ _ _ _ _ _ _ rfl rfl) (aa (eQ (k := 0) h 5 rfl kr rfl rfl) (aa (ae (v := u23) rfl) (nJ (aa (ag (v := (.func (.func 79) #[] #[])) rfl) (aa (ag (v := G5) rfl) (aa (ag (v := u23) rfl) (iL (args := [G5, u23]) Zu rfl rfl (aL (args := [G5, u23]) Tryz.func79 rfl Tryz.ntmps79 (bH rfl) (nG (aa (ae (v := (.bool (false))) rfl) (nJ (aa (ag (v := G5) rfl) (aa (ag (v := u23) rfl) ?_)))))))))))))
 obtain ⟨y25, e26, hs⟩ := aM hs
 refine aO LJ rfl rfl (pG _ _ h.lt G5 x4 (h.lF 4 rfl) u23 p8 (h.lF 6 rfl) _ e26) ?_
 rintro _ w ⟨k27, rfl⟩
 refine ⟨_, rfl, ?_⟩
 replace h := h.grow k27
 refine aa (ae (v := (.bool (y25))) rfl) (nR (bI (v := (.bool (y25))) Tryz.results79 rfl (⟨_, rfl, ?_⟩)))
 refine aa (dU rfl) (nN (aK hs rfl (fun c28 hs => ?_) (fun c28 hs => ?_)))
 refine nG (aa (ae (v := (.bool (false))) rfl) (nR (aD (ax (ax (aD (ax (bI (v := (.bool (false))) Tryz.results78 rfl (⟨_, rfl, ?_⟩)))))))))
 refine aa (ae (v := (.bool (false))) rfl) (nR (bI (v := (.bool (false))) Tryz.results44 rfl ?_))
 obtain rfl := gK hs
 exact ⟨h.grown, rfl⟩
 refine aG (au (aj (ay (aa (dz rfl rfl OZ) (aa (ag (v := (I6 ((i3 + 1)))) rfl) (aC (ak ?_)))))))
 subst D6
 exact iw ⟨k2 + 1, i3 + 1⟩ ⟨h.cn _, by omega, hs⟩ (by have := kQ e7; dsimp only; omega)
 rw [eX (hik ▸ e7), mY] at hs
 refine nE (aa (ae (v := (.bool (true))) rfl) (nR (bI (v := (.bool (true))) Tryz.results78 rfl (⟨_, rfl, ?_⟩))))
 refine aa (ae (v := (.bool (true))) rfl) (nR (bI (v := (.bool (true))) Tryz.results44 rfl ?_))
 obtain rfl := gK hs
 exact ⟨h.grown, rfl⟩
def uT (l8 : Unit → Option Bool) (x34 : Bool) : Option Bool :=
  bif x34 then some false else l8 ()
def zy (b : LX.State) (i10 : Int) (eH : LX.Frame) (s : Unit) (l8 : Unit → Option Bool) : Option Bool :=
  (idx b.frames i10).bind fun x24 => bif ((decide ((eH.proc : Int) = x24.proc) && decide ((eH.at_ : Int) = x24.at_)) && decide ((eH.ja : Int) = x24.ja)) then (jm eH.regs x24.regs).bind fun y39 => uT l8 (!y39) else uT l8 true
def CQ (s : Unit) : Option Bool :=
  some true
def BF (a : LX.State) (b : LX.State) : Option Bool :=
  bif (decide ((a.status : Int) = b.status) && decide ((a.bB : Int) = b.bB)) then (Dt a.cells b.cells).bind fun y4 => bif y4 then bif decide (((a.frames.length : Int) : Int) ≠ (b.frames.length : Int)) then some false else dQ (zy b) CQ 0 a.frames () else some false else some false
theorem Kw (w0 : World) (M : BS) (hM : ∀ b, M b → b < w0.heap.size) (a : LX.State) (rF rY : Value) (ha0 : fK dM w0 BE M rF a.frames) (ha1 : fK (kW aY) w0 BE M rY a.cells) (b : LX.State) (vb0 vb1 : Value) (hb0 : fK dM w0 BE M vb0 b.frames) (hb1 : fK (kW aY) w0 BE M vb1 b.cells) (r : Bool) (hs : BF a b = some r) :
    Calls Tryz.prog 19 #[(.agg #[rF, rY, (I6 a.status), (I6 a.bB)]), (.agg #[vb0, vb1, (I6 b.status), (I6 b.bB)])] w0 (fun e w' => Grow w0 w' ∧ e = .returned (.bool r)) := by
 refine aL (args := [(.agg #[rF, rY, (I6 a.status), (I6 a.bB)]), (.agg #[vb0, vb1, (I6 b.status), (I6 b.bB)])]) Tryz.func19 rfl Tryz.ntmps19 (bH rfl) ?_
 have h := SH.init hM
 replace h := h.eu 1 ha0 aT
 replace h := h.eu 2 ha1 (aW aT)
 replace h := h.eu 3 hb0 (aW (aW aT))
 replace h := h.eu 4 hb1 (aW (aW (aW aT)))
 refine nG (l7 (cs := [rF, rY, (I6 a.status), (I6 a.bB)]) h 5 rfl rfl fun w b1 h => l7 (cs := [vb0, vb1, (I6 b.status), (I6 b.bB)]) h 6 rfl rfl fun w b2 h => aa (ae (v := (.bool (false))) rfl) (nJ (aa (ah qI rfl) (aa (aB h 5 rfl aP rfl rfl) (aa (ah qI rfl) (aa (aB h 6 rfl aP rfl rfl) (aa (bW rfl rfl) (aa (ag (v := (.bool (decide ((a.status : Int) = b.status)))) rfl) (az rfl rfl (fun q => ah sZ rfl) (az rfl rfl (fun q => aB h 5 rfl aP (dE q) rfl) (az rfl rfl (fun q => ah sZ rfl) (az rfl rfl (fun q => aB h 6 rfl aP (dE q) rfl) (az rfl rfl (fun q => bW (dE q) (dE q)) (aa (fB rfl rfl lW) (aa (ag (v := (.bool ((decide ((a.status : Int) = b.status) && decide ((a.bB : Int) = b.bB))))) rfl) (jT (b := (decide ((a.status : Int) = b.status) && decide ((a.bB : Int) = b.bB))) hs (fun c3 hs => ?_) (fun c3 hs => ?_)))))))))))))))))
 refine dx rfl (cB c3) (aa (ah gL rfl) (dx rfl (cB c3) (aa (aB h 5 rfl jL rfl rfl) (dx rfl (cB c3) (aa (ah gL rfl) (dx rfl (cB c3) (aa (aB h 6 rfl jL rfl rfl) (dx rfl (cB c3) ?_))))))))
 obtain ⟨y4, e5, hs⟩ := aM hs
 refine aO Zg rfl rfl (NL _ _ h.lt rY a.cells (h.fQ 2 rfl) vb1 b.cells (h.fQ 4 rfl) _ e5) ?_
 rintro _ w ⟨k6, rfl⟩
 refine ⟨_, rfl, ?_⟩
 replace h := h.grow k6
 refine aa (eO (b := true) (v := (.bool (y4))) (cB c3) rfl) (aa (ag (v := (.bool (y4))) rfl) (jT (b := y4) hs (fun c7 hs => ?_) (fun c7 hs => ?_)))
 refine dx rfl (cB c7) (aa (ah gQ rfl) (dx rfl (cB c7) (aa (aB h 5 rfl lJ rfl rfl) (dx rfl (cB c7) (aa (ah gQ rfl) (dx rfl (cB c7) (aa (aB h 6 rfl lJ rfl rfl) (dx rfl (cB c7) (iL (args := [rF, vb0, (.func (.func 46) #[] #[])]) TT rfl rfl (aL (args := [rF, vb0, (.func (.func 46) #[] #[])]) Tryz.func45 rfl Tryz.ntmps45 (bH rfl) (nG (aa (ae (v := (.bool (false))) rfl) (nK (aa (ag (v := rF) rfl) (aa (aX dI rfl (h.fQ 1 rfl)) (aa (ag (v := vb0) rfl) (aa (aX dI rfl (h.fQ 3 rfl)) (aa (gV rfl rfl) ?_))))))))))))))))))
 refine nN (aK hs rfl (fun c8 hs => ?_) (fun c8 hs => ?_))
 refine nG (aa (ae (v := (.bool (false))) rfl) (nR (ax (bI (v := (.bool (false))) Tryz.results45 rfl (⟨_, rfl, ?_⟩)))))
 refine aa (eO (b := true) (v := (.bool (false))) (cB c7) rfl) (aa (ae (v := (.bool (false))) rfl) (nR (bI (v := (.bool (false))) Tryz.results19 rfl ?_)))
 obtain rfl := gK hs
 exact ⟨h.grown, rfl⟩
 refine aG (aj (aJ (nG (aa (ag (v := rF) rfl) (aa (aX dI rfl (h.fQ 1 rfl)) (aa (ag (v := (I6 0)) rfl) (nN (aH (eF (σ := Nat × Int) (inl ([6, 7, 8, 9] ++ rg 17 15)) (fun ⟨k9, i10⟩ => [(17, (I6 i10))]) (fun ⟨k9, i10⟩ w => SH w0 M BE w (hset [(1, .sr dM rF a.frames), (3, .sr dM vb0 b.frames)]) ∧ i10 = (k9 : Int) ∧ dQ (zy b) CQ i10 (a.frames.drop k9) () = some r) (fun ⟨k9, i10⟩ => a.frames.length - k9) ⟨0, 0⟩ ⟨rfl, trivial⟩ ?_ ?_)))))))))
 exact ⟨h.cn _, rfl, hs⟩
 rintro ⟨k9, i10⟩ w dC ⟨h, hik, hs⟩
 refine nG ?_
 refine aa (dK rfl rfl) (nN ?_)
 refine aJ (fD rfl (fun e14 => ?_) (fun e14 => ?_))
 refine aG (aj ?_)
 obtain ⟨eH, IB, IC⟩ := eU (hik ▸ e14)
 rw [IC, jC] at hs
 generalize Cw : dQ (zy b) CQ (i10 + 1) (a.frames.drop (k9 + 1)) = l8 at hs
 have IE := eZ ((h.fQ 1 rfl)).bD hik e14
 refine aJ (aH (nG (aa (ag (v := (I6 i10)) rfl) ?_)))
 obtain ⟨b17, o18, UA, h, Rs, i16⟩ := h.vo 1 7 rfl dI rfl (gB hik) (eY hik IB)
 obtain ⟨u21, rfl, g22⟩ := mU Rs
 replace h := h.bK 8 g22.up
 refine aa (i16 _ _ _ _ _ _ _ _ _ rfl rfl) (aa (iD (k := 0) (vs := [(I6 eH.proc), (I6 eH.at_), u21, (I6 eH.ja)]) h 7 rfl fF rfl rfl rfl (bH rfl)) (bu h 9 fF fun w Dl h => aa (ae (v := (I6 i10)) rfl) (dN (vs := [(I6 eH.proc), (I6 eH.at_), u21, (I6 eH.ja)]) h 9 [(I6 eH.proc), (I6 eH.at_), u21, (I6 eH.ja)] rfl fF rfl rfl rfl rfl rfl (ai rfl (ai rfl (ai (h.gy 8 rfl).one (ai rfl aS)))) fun w h => nJ (aa (ag (v := vb0) rfl) (aa (ag (v := (I6 i10)) rfl) ?_)))))
 obtain ⟨x24, e25, hs⟩ := aM hs
 obtain ⟨b27, o28, cs29, h, Z8, i26⟩ := h.vo 3 10 rfl dI rfl (aR e25).1 (aR e25).2
 obtain ⟨u31, rfl, UU⟩ := mU Z8
 replace h := h.bK 11 UU.up
 refine aa (i26 _ _ _ _ _ _ _ _ _ rfl rfl) (aa (iD (k := 0) (vs := [(I6 x24.proc), (I6 x24.at_), u31, (I6 x24.ja)]) h 10 rfl fF rfl rfl rfl (bH rfl)) (bu h 12 fF fun w ZM h => dN (vs := [(I6 x24.proc), (I6 x24.at_), u31, (I6 x24.ja)]) h 12 [(I6 x24.proc), (I6 x24.at_), u31, (I6 x24.ja)] rfl fF rfl rfl rfl rfl rfl (ai rfl (ai rfl (ai (h.gy 11 rfl).one (ai rfl aS)))) fun w h => nN (dm (σ := Bool) (inl [26, 27, 28, 29, 30]) (fun x34 => [(30, (.bool (x34)))]) (fun x34 w => SH w0 M BE w (hset [(1, .sr dM rF a.frames), (3, .sr dM vb0 b.frames)]) ∧ uT l8 x34 = some r) ?_ ?_)))
 rintro x34 w dC ⟨h, hs⟩
 refine aK hs rfl (fun Xl hs => ?_) (fun Xl hs => ?_)
 refine nG (aa (ae (v := (.bool (false))) rfl) (nR (aD (ax (ax (aD (ax (bI (v := (.bool (false))) Tryz.results45 rfl (⟨_, rfl, ?_⟩)))))))))
 refine aa (eO (b := true) (v := (.bool (false))) (cB c7) rfl) (aa (ae (v := (.bool (false))) rfl) (nR (bI (v := (.bool (false))) Tryz.results19 rfl ?_)))
 obtain rfl := gK hs
 exact ⟨h.grown, rfl⟩
 refine aG (au (aj (ay (aa (dz rfl rfl IE) (aa (ag (v := (I6 ((i10 + 1)))) rfl) (aC (ak ?_)))))))
 subst Cw
 exact iw ⟨k9 + 1, i10 + 1⟩ ⟨h.cn _, by omega, hs⟩ (by have := kQ e14; dsimp only; omega)
 refine ay (aa (ag (v := (.func (.func 46) #[] #[])) rfl) (aa (eB (vs := [(I6 eH.proc), (I6 eH.at_), u21, (I6 eH.ja)]) h 9 rfl fF rfl rfl rfl) (aa (eB (vs := [(I6 x24.proc), (I6 x24.at_), u31, (I6 x24.ja)]) h 12 rfl fF rfl rfl rfl) (iL (args := [(.agg #[(I6 eH.proc), (I6 eH.at_), u21, (I6 eH.ja)]), (.agg #[(I6 x24.proc), (I6 x24.at_), u31, (I6 x24.ja)])]) Zh rfl rfl (aL (args := [(.agg #[(I6 eH.proc), (I6 eH.at_), u21, (I6 eH.ja)]), (.agg #[(I6 x24.proc), (I6 x24.at_), u31, (I6 x24.ja)])]) Tryz.func46 rfl Tryz.ntmps46 (bH rfl) (nG (l7 (cs := [(I6 eH.proc), (I6 eH.at_), u21, (I6 eH.ja)]) h 13 rfl rfl fun w b36 h => l7 (cs := [(I6 x24.proc), (I6 x24.at_), u31, (I6 x24.ja)]) h 14 rfl rfl fun w b37 h => aa (ae (v := (.bool (false))) rfl) (nJ (aa (ah tq rfl) (aa (aB h 13 rfl aP rfl rfl) (aa (ah tq rfl) (aa (aB h 14 rfl aP rfl rfl) (aa (bW rfl rfl) (aa (ag (v := (.bool (decide ((eH.proc : Int) = x24.proc)))) rfl) (az rfl rfl (fun q => ah vD rfl) (az rfl rfl (fun q => aB h 13 rfl aP (dE q) rfl) (az rfl rfl (fun q => ah vD rfl) ?_)))))))))))))))))
 refine az rfl rfl (fun q => aB h 14 rfl aP (dE q) rfl) (az rfl rfl (fun q => bW (dE q) (dE q)) (aa (fB rfl rfl lW) (aa (ag (v := (.bool ((decide ((eH.proc : Int) = x24.proc) && decide ((eH.at_ : Int) = x24.at_))))) rfl) (az rfl rfl (fun q => ah uw rfl) (az rfl rfl (fun q => aB h 13 rfl aP (dE q) rfl) (az rfl rfl (fun q => ah uw rfl) (az rfl rfl (fun q => aB h 14 rfl aP (dE q) rfl) (az rfl rfl (fun q => bW (dE q) (dE q)) (aa (fB rfl rfl lW) (aa (ag (v := (.bool (((decide ((eH.proc : Int) = x24.proc) && decide ((eH.at_ : Int) = x24.at_)) && decide ((eH.ja : Int) = x24.ja))))) rfl) (jT (b := ((decide ((eH.proc : Int) = x24.proc) && decide ((eH.at_ : Int) = x24.at_)) && decide ((eH.ja : Int) = x24.ja))) hs (fun E5 hs => ?_) (fun E5 hs => ?_))))))))))))
 refine dx rfl (cB E5) (aa (ah ko rfl) (dx rfl (cB E5) (aa (aB h 13 rfl kr rfl rfl) (dx rfl (cB E5) (aa (ah ko rfl) (dx rfl (cB E5) (aa (aB h 14 rfl kr rfl rfl) (dx rfl (cB E5) ?_))))))))
 obtain ⟨y39, e40, hs⟩ := aM hs
 refine aO LJ rfl rfl (pG _ _ h.lt u21 eH.regs (h.lF 8 rfl) u31 x24.regs (h.lF 11 rfl) _ e40) ?_
 rintro _ w ⟨k41, rfl⟩
 refine ⟨_, rfl, ?_⟩
 replace h := h.grow k41
 refine aa (eO (b := true) (v := (.bool (y39))) (cB E5) rfl) (aa (ae (v := (.bool (y39))) rfl) (nR (bI (v := (.bool (y39))) Tryz.results46 rfl (⟨_, rfl, ?_⟩))))
 refine aa (dU rfl) (aC (ak ?_))
 exact cO (!y39) ⟨h.cn _, hs⟩
 refine qc rfl (cB E5) rfl (qc rfl (cB E5) rfl (qc rfl (cB E5) rfl (qc rfl (cB E5) rfl (qc rfl (cB E5) rfl (aa (eO (b := false) (v := (.bool (false))) (cB E5) rfl) (aa (ae (v := (.bool (false))) rfl) (nR (bI (v := (.bool (false))) Tryz.results46 rfl (⟨_, rfl, ?_⟩)))))))))
 refine aa (dU rfl) (aC (ak ?_))
 exact cO true ⟨h.cn _, hs⟩
 rw [eX (hik ▸ e14), mY] at hs
 refine nE (aa (ae (v := (.bool (true))) rfl) (nR (bI (v := (.bool (true))) Tryz.results45 rfl (⟨_, rfl, ?_⟩))))
 refine aa (eO (b := true) (v := (.bool (true))) (cB c7) rfl) (aa (ae (v := (.bool (true))) rfl) (nR (bI (v := (.bool (true))) Tryz.results19 rfl ?_)))
 obtain rfl := gK hs
 exact ⟨h.grown, rfl⟩
 refine qc rfl (cB c7) rfl (qc rfl (cB c7) rfl (qc rfl (cB c7) rfl (qc rfl (cB c7) rfl (qc rfl (cB c7) rfl (aa (eO (b := false) (v := (.bool (false))) (cB c7) rfl) (aa (ae (v := (.bool (false))) rfl) (nR (bI (v := (.bool (false))) Tryz.results19 rfl ?_))))))))
 obtain rfl := gK hs
 exact ⟨h.grown, rfl⟩
 refine qc rfl (cB c3) rfl (qc rfl (cB c3) rfl (qc rfl (cB c3) rfl (qc rfl (cB c3) rfl (qc rfl (cB c3) rfl (aa (eO (b := false) (v := (.bool (false))) (cB c3) rfl) (aa (ag (v := (.bool (false))) rfl) (lG (b' := false) rfl rfl rfl (lG (b' := false) rfl rfl rfl (lG (b' := false) rfl rfl rfl (lG (b' := false) rfl rfl rfl (lG (b' := false) rfl rfl rfl (aa (eO (b := false) (v := (.bool (false))) rfl rfl) (aa (ae (v := (.bool (false))) rfl) (nR (bI (v := (.bool (false))) Tryz.results19 rfl ?_)))))))))))))))
 obtain rfl := gK hs
 exact ⟨h.grown, rfl⟩
end
end Go.Proofs.YtfclkapelkhlpaaGreatDoor
namespace Go.Proofs.YtfclkapelkhlpaaGreatDoor
open Go Go.Proofs Go.LX
noncomputable section
def gP (a : Ins) (b : cz) (ym : Int) (s : Unit) (Vl : Unit → Option Int) : Option Int :=
  bif (decide ((a.op : Int) = 7) && (!(aF ym b.regs))) then some 3 else Vl ()
def bA (s : Unit) : Option Int :=
  some 0
def bQ (a : Ins) (i27 : Int) (x28 : Int) (s : Unit) (nx30 : Unit → Option Int) : Option Int :=
  (idx ((lk a.op ([(1, [114, 110, 45]), (2, [114, 114, 45]), (3, [114, 114, 114]), (4, [114, 114, 110]), (5, [114, 110, 45]), (6, [114, 114, 110]), (7, [114, 110, 45]), (8, [114, 45, 45]), (9, [114, 45, 45]), (10, [45, 45, 45]), (11, [114, 45, 45]), (12, [45, 110, 45]), (13, [114, 110, 45])] : List (Int × Str))).getD []) i27).bind fun x38 => bif (decide (((x38.toNat : Int) : Int) = 45) && decide ((x28 : Int) ≠ 0)) then some 4 else nx30 ()
def bR (a : Ins) (mZ : Int) (b : cz) (s : Unit) : Option Int :=
  bif decide (((a.args.length : Int) : Int) ≠ mZ) then some 4 else each (gP a b) bA a.args ()
def aU (a : Ins) (b : cz) (c : List cz) (x22 : Bool) (mZ : Int) : Option Int :=
  bif (!x22) then some 3 else dQ (bQ a) (bR a mZ b) 0 [a.a, a.b, a.c] ()
def bS (a : Ins) (b : cz) (c : List cz) (x85 : Bool) : Option Int :=
  bif x85 then aU a b c (aF a.b (b.code.length : Int)) 0 else aU a b c ((lk a.op ([(1, [114, 110, 45]), (2, [114, 114, 45]), (3, [114, 114, 114]), (4, [114, 114, 110]), (5, [114, 110, 45]), (6, [114, 114, 110]), (7, [114, 110, 45]), (8, [114, 45, 45]), (9, [114, 45, 45]), (10, [45, 45, 45]), (11, [114, 45, 45]), (12, [45, 110, 45]), (13, [114, 110, 45])] : List (Int × Str))).isSome) 0
def bT (a : Ins) (b : cz) (c : List cz) (x72 : Bool) : Option Int :=
  bif x72 then aU a b c (aI a.c 0 3) 0 else bif decide ((a.op : Int) = 3) then bif decide (((a.args.length : Int) : Int) = 1) then (idx a.args 0).bind fun MH => aU a b c (aI MH 1 5) 1 else aU a b c false 1 else bif decide ((a.op : Int) = 12) then bS a b c (decide ((a.op : Int) = 12)) else bS a b c (decide ((a.op : Int) = 13))
def bU (a : Ins) (b : cz) (i7 : Int) (x8 : Int) (s : Unit) (LQ : Unit → Option Int) : Option Int :=
  (idx ((lk a.op ([(1, [114, 110, 45]), (2, [114, 114, 45]), (3, [114, 114, 114]), (4, [114, 114, 110]), (5, [114, 110, 45]), (6, [114, 114, 110]), (7, [114, 110, 45]), (8, [114, 45, 45]), (9, [114, 45, 45]), (10, [45, 45, 45]), (11, [114, 45, 45]), (12, [45, 110, 45]), (13, [114, 110, 45])] : List (Int × Str))).getD []) i7).bind fun yF => bif (decide (((yF.toNat : Int) : Int) = 114) && (!(aF x8 b.regs))) then some 3 else LQ ()
def bV (a : Ins) (b : cz) (c : List cz) (s : Unit) : Option Int :=
  bif decide ((a.op : Int) = 7) then bif (!(aF a.b (c.length : Int))) then some 5 else (idx c a.b).bind fun x59 => aU a b c ((lk a.op ([(1, [114, 110, 45]), (2, [114, 114, 45]), (3, [114, 114, 114]), (4, [114, 114, 110]), (5, [114, 110, 45]), (6, [114, 114, 110]), (7, [114, 110, 45]), (8, [114, 45, 45]), (9, [114, 45, 45]), (10, [45, 45, 45]), (11, [114, 45, 45]), (12, [45, 110, 45]), (13, [114, 110, 45])] : List (Int × Str))).isSome) x59.params else bif decide ((a.op : Int) = 1) then aU a b c (ed a.b) 0 else bif decide ((a.op : Int) = 5) then aU a b c (aI a.b 1 4) 0 else bif decide ((a.op : Int) = 4) then bT a b c (decide ((a.op : Int) = 4)) else bT a b c (decide ((a.op : Int) = 6))
def dh (a : Ins) (b : cz) (c : List cz) : Option Int :=
  bif (!(lk a.op ([(1, [114, 110, 45]), (2, [114, 114, 45]), (3, [114, 114, 114]), (4, [114, 114, 110]), (5, [114, 110, 45]), (6, [114, 114, 110]), (7, [114, 110, 45]), (8, [114, 45, 45]), (9, [114, 45, 45]), (10, [45, 45, 45]), (11, [114, 45, 45]), (12, [45, 110, 45]), (13, [114, 110, 45])] : List (Int × Str))).isSome) then some 4 else dQ (bU a b) (bV a b c) 0 [a.a, a.b, a.c] ()
theorem BG (w0 : World) (M : BS) (hM : ∀ b, M b → b < w0.heap.size) (a : Ins) (DT : Value) (ha4 : fK dw w0 BE M DT a.args) (b : cz) (OC : Value) (hb2 : fK jH w0 BE M OC b.code) (vc : Value) (c : List cz) (hc : fK jE w0 BE M vc c) (r : Int) (hs : dh a b c = some r) :
    Calls Tryz.prog 52 #[(.agg #[(I6 a.op), (I6 a.a), (I6 a.b), (I6 a.c), DT]), (.agg #[(I6 b.params), (I6 b.regs), OC]), vc] w0 (fun e w' => Grow w0 w' ∧ e = .returned (.int .i64 r)) := by
 refine aL (args := [(.agg #[(I6 a.op), (I6 a.a), (I6 a.b), (I6 a.c), DT]), (.agg #[(I6 b.params), (I6 b.regs), OC]), vc]) Tryz.func52 rfl Tryz.ntmps52 (bH rfl) ?_
 have h := SH.init hM
 replace h := h.eu 1 ha4 aT
 replace h := h.eu 2 hb2 (aW aT)
 replace h := h.eu 3 hc (aW (aW aT))
 have hl_c := hc.bD
 refine nG (l7 (cs := [(I6 a.op), (I6 a.a), (I6 a.b), (I6 a.c), DT]) h 4 rfl rfl fun w b1 h => l7 (cs := [(I6 b.params), (I6 b.regs), OC]) h 5 rfl rfl fun w b2 h => aa (ae (v := (I6 0)) rfl) (nJ (z8 h 6 fun w b3 h => iE (kP := [(1, (aN [114, 110, 45]))]) h 6 rfl gM rfl rfl rfl rfl fun w h => iE (kP := [(1, (aN [114, 110, 45])), (2, (aN [114, 114, 45]))]) h 6 rfl gM rfl rfl rfl rfl fun w h => iE (kP := [(1, (aN [114, 110, 45])), (2, (aN [114, 114, 45])), (3, (aN [114, 114, 114]))]) h 6 rfl gM rfl rfl rfl rfl fun w h => iE (kP := [(1, (aN [114, 110, 45])), (2, (aN [114, 114, 45])), (3, (aN [114, 114, 114])), (4, (aN [114, 114, 110]))]) h 6 rfl gM rfl rfl rfl rfl fun w h => iE (kP := [(1, (aN [114, 110, 45])), (2, (aN [114, 114, 45])), (3, (aN [114, 114, 114])), (4, (aN [114, 114, 110])), (5, (aN [114, 110, 45]))]) h 6 rfl gM rfl rfl rfl rfl fun w h => iE (kP := [(1, (aN [114, 110, 45])), (2, (aN [114, 114, 45])), (3, (aN [114, 114, 114])), (4, (aN [114, 114, 110])), (5, (aN [114, 110, 45])), (6, (aN [114, 114, 110]))]) h 6 rfl gM rfl rfl rfl rfl fun w h => iE (kP := [(1, (aN [114, 110, 45])), (2, (aN [114, 114, 45])), (3, (aN [114, 114, 114])), (4, (aN [114, 114, 110])), (5, (aN [114, 110, 45])), (6, (aN [114, 114, 110])), (7, (aN [114, 110, 45]))]) h 6 rfl gM rfl rfl rfl rfl fun w h => iE (kP := [(1, (aN [114, 110, 45])), (2, (aN [114, 114, 45])), (3, (aN [114, 114, 114])), (4, (aN [114, 114, 110])), (5, (aN [114, 110, 45])), (6, (aN [114, 114, 110])), (7, (aN [114, 110, 45])), (8, (aN [114, 45, 45]))]) h 6 rfl gM rfl rfl rfl rfl fun w h => iE (kP := [(1, (aN [114, 110, 45])), (2, (aN [114, 114, 45])), (3, (aN [114, 114, 114])), (4, (aN [114, 114, 110])), (5, (aN [114, 110, 45])), (6, (aN [114, 114, 110])), (7, (aN [114, 110, 45])), (8, (aN [114, 45, 45])), (9, (aN [114, 45, 45]))]) h 6 rfl gM rfl rfl rfl rfl fun w h => iE (kP := [(1, (aN [114, 110, 45])), (2, (aN [114, 114, 45])), (3, (aN [114, 114, 114])), (4, (aN [114, 114, 110])), (5, (aN [114, 110, 45])), (6, (aN [114, 114, 110])), (7, (aN [114, 110, 45])), (8, (aN [114, 45, 45])), (9, (aN [114, 45, 45])), (10, (aN [45, 45, 45]))]) h 6 rfl gM rfl rfl rfl rfl fun w h => iE (kP := [(1, (aN [114, 110, 45])), (2, (aN [114, 114, 45])), (3, (aN [114, 114, 114])), (4, (aN [114, 114, 110])), (5, (aN [114, 110, 45])), (6, (aN [114, 114, 110])), (7, (aN [114, 110, 45])), (8, (aN [114, 45, 45])), (9, (aN [114, 45, 45])), (10, (aN [45, 45, 45])), (11, (aN [114, 45, 45]))]) h 6 rfl gM rfl rfl rfl rfl fun w h => iE (kP := [(1, (aN [114, 110, 45])), (2, (aN [114, 114, 45])), (3, (aN [114, 114, 114])), (4, (aN [114, 114, 110])), (5, (aN [114, 110, 45])), (6, (aN [114, 114, 110])), (7, (aN [114, 110, 45])), (8, (aN [114, 45, 45])), (9, (aN [114, 45, 45])), (10, (aN [45, 45, 45])), (11, (aN [114, 45, 45])), (12, (aN [45, 110, 45]))]) h 6 rfl gM rfl rfl rfl rfl fun w h => iE (kP := [(1, (aN [114, 110, 45])), (2, (aN [114, 114, 45])), (3, (aN [114, 114, 114])), (4, (aN [114, 114, 110])), (5, (aN [114, 110, 45])), (6, (aN [114, 114, 110])), (7, (aN [114, 110, 45])), (8, (aN [114, 45, 45])), (9, (aN [114, 45, 45])), (10, (aN [45, 45, 45])), (11, (aN [114, 45, 45])), (12, (aN [45, 110, 45])), (13, (aN [114, 110, 45]))]) h 6 rfl gM rfl rfl rfl rfl fun w h => aa (ag (v := (.map (some b3))) rfl) ?_)))
 refine aa (ah rW rfl) (aa (aB h 4 rfl aP rfl rfl) (aa (X3 (f := aN) (zz := []) ([(1, [114, 110, 45]), (2, [114, 114, 45]), (3, [114, 114, 114]), (4, [114, 114, 110]), (5, [114, 110, 45]), (6, [114, 114, 110]), (7, [114, 110, 45]), (8, [114, 45, 45]), (9, [114, 45, 45]), (10, [45, 45, 45]), (11, [114, 45, 45]), (12, [45, 110, 45]), (13, [114, 110, 45])] : List (Int × Str)) h 6 rfl gM rfl rfl rfl rfl) (aa (ag (v := (.tuple #[(aN ((lk a.op ([(1, [114, 110, 45]), (2, [114, 114, 45]), (3, [114, 114, 114]), (4, [114, 114, 110]), (5, [114, 110, 45]), (6, [114, 114, 110]), (7, [114, 110, 45]), (8, [114, 45, 45]), (9, [114, 45, 45]), (10, [45, 45, 45]), (11, [114, 45, 45]), (12, [45, 110, 45]), (13, [114, 110, 45])] : List (Int × Str))).getD [])), (.bool ((lk a.op ([(1, [114, 110, 45]), (2, [114, 114, 45]), (3, [114, 114, 114]), (4, [114, 114, 110]), (5, [114, 110, 45]), (6, [114, 114, 110]), (7, [114, 110, 45]), (8, [114, 45, 45]), (9, [114, 45, 45]), (10, [45, 45, 45]), (11, [114, 45, 45]), (12, [45, 110, 45]), (13, [114, 110, 45])] : List (Int × Str))).isSome))])) rfl) (aa (bJ rfl rfl) (aa (bJ rfl rfl) (aa (ae (v := (aN ((lk a.op ([(1, [114, 110, 45]), (2, [114, 114, 45]), (3, [114, 114, 114]), (4, [114, 114, 110]), (5, [114, 110, 45]), (6, [114, 114, 110]), (7, [114, 110, 45]), (8, [114, 45, 45]), (9, [114, 45, 45]), (10, [45, 45, 45]), (11, [114, 45, 45]), (12, [45, 110, 45]), (13, [114, 110, 45])] : List (Int × Str))).getD []))) rfl) (aa (ae (v := (.bool ((lk a.op ([(1, [114, 110, 45]), (2, [114, 114, 45]), (3, [114, 114, 114]), (4, [114, 114, 110]), (5, [114, 110, 45]), (6, [114, 114, 110]), (7, [114, 110, 45]), (8, [114, 45, 45]), (9, [114, 45, 45]), (10, [45, 45, 45]), (11, [114, 45, 45]), (12, [45, 110, 45]), (13, [114, 110, 45])] : List (Int × Str))).isSome))) rfl) (nK (aa (ag (v := (.bool ((lk a.op ([(1, [114, 110, 45]), (2, [114, 114, 45]), (3, [114, 114, 114]), (4, [114, 114, 110]), (5, [114, 110, 45]), (6, [114, 114, 110]), (7, [114, 110, 45]), (8, [114, 45, 45]), (9, [114, 45, 45]), (10, [45, 45, 45]), (11, [114, 45, 45]), (12, [45, 110, 45]), (13, [114, 110, 45])] : List (Int × Str))).isSome))) rfl) (aa (dU rfl) (nN (aK hs rfl (fun c4 hs => ?_) (fun c4 hs => ?_)))))))))))))
 refine nG (aa (ae (v := (I6 4)) rfl) (nR (ax (bI (v := (I6 4)) Tryz.results52 rfl ?_))))
 obtain rfl := gK hs
 exact ⟨h.grown, rfl⟩
 refine aG (aj (aJ (nG (aa (ah zu rfl) (aa (aB h 4 rfl aP rfl rfl) (aa (ah kK rfl) (aa (aB h 4 rfl aP rfl rfl) (aa (ah uy rfl) (aa (aB h 4 rfl aP rfl rfl) (mX (R := dw) (vs := [(I6 a.a), (I6 a.b), (I6 a.c)]) (xs := [a.a, a.b, a.c]) h 7 fq rfl rfl rfl ⟨rfl, ⟨rfl, ⟨rfl, trivial⟩⟩⟩ rfl fun w u5 h => aa (aX bN rfl (h.dJ 7 rfl)) (aa (ag (v := (I6 0)) rfl) (nN (aH ?_)))))))))))))
 replace h := h.freeze 7 rfl
 refine eF (σ := Nat × Int) (inl ([6, 9, 10] ++ rg 34 17)) (fun ⟨k6, i7⟩ => [(34, (I6 i7))]) (fun ⟨k6, i7⟩ w => SH w0 M BE w (hset [(1, .sr dw DT a.args), (2, .sr jH OC b.code), (3, .sr jE vc c), (4, .blk b1 [(I6 a.op), (I6 a.a), (I6 a.b), (I6 a.c), DT]), (5, .blk b2 [(I6 b.params), (I6 b.regs), OC]), (7, .rd dw u5 [a.a, a.b, a.c])]) ∧ i7 = (k6 : Int) ∧ dQ (bU a b) (bV a b c) i7 ([a.a, a.b, a.c].drop k6) () = some r) (fun ⟨k6, i7⟩ => [a.a, a.b, a.c].length - k6) ⟨0, 0⟩ ⟨rfl, trivial⟩ ?_ ?_
 exact ⟨h.cn _, rfl, hs⟩
 rintro ⟨k6, i7⟩ w dC ⟨h, hik, hs⟩
 refine nG ?_
 refine aa (dK rfl rfl) (nN ?_)
 refine aJ (fD rfl (fun e11 => ?_) (fun e11 => ?_))
 refine aG (aj ?_)
 obtain ⟨x8, Zx, Zy⟩ := eU (hik ▸ e11)
 rw [Zy, jC] at hs
 generalize Uc : dQ (bU a b) (bV a b c) (i7 + 1) ([a.a, a.b, a.c].drop (k6 + 1)) = LQ at hs
 have Zz := eZ ((h.lF 7 rfl)).bD hik e11
 refine aJ (aH (nG (aa (ag (v := (I6 i7)) rfl) ?_)))
 obtain ⟨b14, o15, cs16, h, r17, i13⟩ := h.FH 7 8 rfl bN rfl (gB hik) (eY hik Zx)
 obtain rfl := r17
 refine aa (i13 _ _ _ _ _ _ _ _ _ rfl rfl) (aa (eQ (k := 0) h 8 rfl aP rfl rfl) (aa (ae (v := (I6 i7)) rfl) (aa (ae (v := (I6 x8)) rfl) (nJ (aa (ag (v := (aN ((lk a.op ([(1, [114, 110, 45]), (2, [114, 114, 45]), (3, [114, 114, 114]), (4, [114, 114, 110]), (5, [114, 110, 45]), (6, [114, 114, 110]), (7, [114, 110, 45]), (8, [114, 45, 45]), (9, [114, 45, 45]), (10, [45, 45, 45]), (11, [114, 45, 45]), (12, [45, 110, 45]), (13, [114, 110, 45])] : List (Int × Str))).getD []))) rfl) (aa (ag (v := (I6 i7)) rfl) ?_))))))
 obtain ⟨yF, e19, hs⟩ := aM hs
 refine aa (M0 Tryz.underlying9 rfl rfl (aR e19).1 (aR e19).2) (aa (bW rfl rfl) (aa (ag (v := (.bool (decide (((yF.toNat : Int) : Int) = 114)))) rfl) (az rfl rfl (fun q => ag (v := (I6 x8)) rfl) (az rfl rfl (fun q => ah wT rfl) (az rfl rfl (fun q => aB h 5 rfl aP (dE q) rfl) (vv rfl rfl yK rfl (fun q => iB (dE q) (iB (dE q) rfl)) (fG _ _ h.lt x8 b.regs _ rfl) fun w k20 => ?_))))))
 replace h := h.grow k20
 refine az rfl rfl (fun q => dU (dE q)) (aa (fB rfl rfl lW) (nN (aK hs rfl (fun c21 hs => ?_) (fun c21 hs => ?_))))
 refine nG (aa (ae (v := (I6 3)) rfl) (nR (aD (ax (ax (aD (ax (bI (v := (I6 3)) Tryz.results52 rfl ?_))))))))
 obtain rfl := gK hs
 exact ⟨h.grown, rfl⟩
 refine aG (au (aj (ay (aa (dz rfl rfl Zz) (aa (ag (v := (I6 ((i7 + 1)))) rfl) (aC (ak ?_)))))))
 subst Uc
 exact iw ⟨k6 + 1, i7 + 1⟩ ⟨h.cn _, by omega, hs⟩ (by have := kQ e11; dsimp only; omega)
 rw [eX (hik ▸ e11), mY] at hs
 refine nE (aa (ae (v := (I6 0)) rfl) (nN (dm (σ := Bool × Int) (inl ([6, 8, 11] ++ rg 51 54)) (fun ⟨x22, mZ⟩ => [(8, (.bool (x22))), (11, (I6 mZ))]) (fun ⟨x22, mZ⟩ w => SH w0 M BE w (hset [(1, .sr dw DT a.args), (2, .sr jH OC b.code), (4, .blk b1 [(I6 a.op), (I6 a.a), (I6 a.b), (I6 a.c), DT]), (5, .blk b2 [(I6 b.params), (I6 b.regs), OC])]) ∧ aU a b c x22 mZ = some r) ?_ ?_)))
 rintro ⟨x22, mZ⟩ w dC ⟨h, hs⟩
 refine aJ (nG (aa (ag (v := (.bool (x22))) rfl) (aa (dU rfl) (nN (aK hs rfl (fun c24 hs => ?_) (fun c24 hs => ?_))))))
 refine nG (aa (ae (v := (I6 3)) rfl) (nR (ax (bI (v := (I6 3)) Tryz.results52 rfl ?_))))
 obtain rfl := gK hs
 exact ⟨h.grown, rfl⟩
 refine aG (aj (aJ (nG (aa (ah zu rfl) (aa (aB h 4 rfl aP rfl rfl) (aa (ah kK rfl) (aa (aB h 4 rfl aP rfl rfl) (aa (ah uy rfl) (aa (aB h 4 rfl aP rfl rfl) (mX (R := dw) (vs := [(I6 a.a), (I6 a.b), (I6 a.c)]) (xs := [a.a, a.b, a.c]) h 9 fq rfl rfl rfl ⟨rfl, ⟨rfl, ⟨rfl, trivial⟩⟩⟩ rfl fun w u25 h => aa (aX bN rfl (h.dJ 9 rfl)) (aa (ag (v := (I6 0)) rfl) (nN (aH ?_)))))))))))))
 replace h := h.freeze 9 rfl
 refine eF (σ := Nat × Int) (inl ([6, 12, 13] ++ rg 115 14)) (fun ⟨k26, i27⟩ => [(115, (I6 i27))]) (fun ⟨k26, i27⟩ w => SH w0 M BE w (hset [(1, .sr dw DT a.args), (2, .sr jH OC b.code), (4, .blk b1 [(I6 a.op), (I6 a.a), (I6 a.b), (I6 a.c), DT]), (5, .blk b2 [(I6 b.params), (I6 b.regs), OC]), (9, .rd dw u25 [a.a, a.b, a.c])]) ∧ i27 = (k26 : Int) ∧ dQ (bQ a) (bR a mZ b) i27 ([a.a, a.b, a.c].drop k26) () = some r) (fun ⟨k26, i27⟩ => [a.a, a.b, a.c].length - k26) ⟨0, 0⟩ ⟨rfl, trivial⟩ ?_ ?_
 exact ⟨h.cn _, rfl, hs⟩
 rintro ⟨k26, i27⟩ w dC ⟨h, hik, hs⟩
 refine nG ?_
 refine aa (dK rfl rfl) (nN ?_)
 refine aJ (fD rfl (fun e31 => ?_) (fun e31 => ?_))
 refine aG (aj ?_)
 obtain ⟨x28, e32a, e32b⟩ := eU (hik ▸ e31)
 rw [e32b, jC] at hs
 generalize hnx30 : dQ (bQ a) (bR a mZ b) (i27 + 1) ([a.a, a.b, a.c].drop (k26 + 1)) = nx30 at hs
 have e32r := eZ ((h.lF 9 rfl)).bD hik e31
 refine aJ (aH (nG (aa (ag (v := (I6 i27)) rfl) ?_)))
 obtain ⟨MG, o35, cs36, h, r37, i33⟩ := h.FH 9 10 rfl bN rfl (gB hik) (eY hik e32a)
 obtain rfl := r37
 refine aa (i33 _ _ _ _ _ _ _ _ _ rfl rfl) (aa (eQ (k := 0) h 10 rfl aP rfl rfl) (aa (ae (v := (I6 i27)) rfl) (aa (ae (v := (I6 x28)) rfl) (nJ (aa (ag (v := (aN ((lk a.op ([(1, [114, 110, 45]), (2, [114, 114, 45]), (3, [114, 114, 114]), (4, [114, 114, 110]), (5, [114, 110, 45]), (6, [114, 114, 110]), (7, [114, 110, 45]), (8, [114, 45, 45]), (9, [114, 45, 45]), (10, [45, 45, 45]), (11, [114, 45, 45]), (12, [45, 110, 45]), (13, [114, 110, 45])] : List (Int × Str))).getD []))) rfl) (aa (ag (v := (I6 i27)) rfl) ?_))))))
 obtain ⟨x38, e39, hs⟩ := aM hs
 refine aa (M0 Tryz.underlying9 rfl rfl (aR e39).1 (aR e39).2) (aa (bW rfl rfl) (aa (ag (v := (.bool (decide (((x38.toNat : Int) : Int) = 45)))) rfl) (az rfl rfl (fun q => ag (v := (I6 x28)) rfl) (az rfl rfl (fun q => gV (dE q) rfl) (aa (fB rfl rfl lW) (nN (aK hs rfl (fun c40 hs => ?_) (fun c40 hs => ?_))))))))
 refine nG (aa (ae (v := (I6 4)) rfl) (nR (aD (ax (ax (aD (ax (bI (v := (I6 4)) Tryz.results52 rfl ?_))))))))
 obtain rfl := gK hs
 exact ⟨h.grown, rfl⟩
 refine aG (au (aj (ay (aa (dz rfl rfl e32r) (aa (ag (v := (I6 ((i27 + 1)))) rfl) (aC (ak ?_)))))))
 subst hnx30
 exact iw ⟨k26 + 1, i27 + 1⟩ ⟨h.cn _, by omega, hs⟩ (by have := kQ e31; dsimp only; omega)
 rw [eX (hik ▸ e31), mY] at hs
 refine iI (bC (bC (dV (aj (aJ (nG (aa (ah wU rfl) (aa (aB h 4 rfl jc rfl rfl) (aa (aX bN rfl (h.fQ 1 rfl)) (aa (ag (v := (I6 mZ)) rfl) (aa (gV rfl rfl) (nN (aK hs rfl (fun Uf hs => ?_) (fun Uf hs => ?_))))))))))))))
 refine nG (aa (ae (v := (I6 4)) rfl) (nR (ax (bI (v := (I6 4)) Tryz.results52 rfl ?_))))
 obtain rfl := gK hs
 exact ⟨h.grown, rfl⟩
 refine aG (aj (aJ (nG (aa (ah wU rfl) (aa (aB h 4 rfl jc rfl rfl) (aa (aX bN rfl (h.fQ 1 rfl)) (aa (ag (v := (I6 0)) rfl) (nN (aH (eF (σ := Nat × Int) (inl ([6, 15] ++ rg 137 15)) (fun ⟨JX, i43⟩ => [(137, (I6 i43))]) (fun ⟨JX, i43⟩ w => SH w0 M BE w (hset [(1, .sr dw DT a.args), (2, .sr jH OC b.code), (4, .blk b1 [(I6 a.op), (I6 a.a), (I6 a.b), (I6 a.c), DT]), (5, .blk b2 [(I6 b.params), (I6 b.regs), OC])]) ∧ i43 = (JX : Int) ∧ each (gP a b) bA (a.args.drop JX) () = some r) (fun ⟨JX, i43⟩ => a.args.length - JX) ⟨0, 0⟩ ⟨rfl, trivial⟩ ?_ ?_))))))))))
 exact ⟨h.cn _, rfl, hs⟩
 rintro ⟨JX, i43⟩ w dC ⟨h, hik, hs⟩
 refine nG ?_
 refine aa (dK rfl rfl) (nN ?_)
 refine aJ (fD rfl (fun e47 => ?_) (fun e47 => ?_))
 refine aG (aj ?_)
 obtain ⟨ym, UN, UO⟩ := eU (hik ▸ e47)
 rw [UO, df] at hs
 generalize Vm : each (gP a b) bA (a.args.drop (JX + 1)) = Vl at hs
 have e48r := eZ ((h.fQ 1 rfl)).bD hik e47
 refine aJ (aH (nG ?_))
 obtain ⟨b50, o51, cs52, h, r53, i49⟩ := h.vo 1 11 rfl bN rfl (gB hik) (eY hik UN)
 obtain rfl := r53
 refine aa (i49 _ _ _ _ _ _ _ _ _ rfl rfl) (aa (eQ (k := 0) h 11 rfl aP rfl rfl) (aa (ae (v := (I6 ym)) rfl) (nJ (aa (ah rW rfl) (aa (aB h 4 rfl aP rfl rfl) (aa (bW rfl rfl) (aa (ag (v := (.bool (decide ((a.op : Int) = 7)))) rfl) (az rfl rfl (fun q => ag (v := (I6 ym)) rfl) (az rfl rfl (fun q => ah wT rfl) (az rfl rfl (fun q => aB h 5 rfl aP (dE q) rfl) (vv rfl rfl yK rfl (fun q => iB (dE q) (iB (dE q) rfl)) (fG _ _ h.lt ym b.regs _ rfl) fun w k54 => ?_)))))))))))
 replace h := h.grow k54
 refine az rfl rfl (fun q => dU (dE q)) (aa (fB rfl rfl lW) (nN (aK hs rfl (fun c55 hs => ?_) (fun c55 hs => ?_))))
 refine nG (aa (ae (v := (I6 3)) rfl) (nR (aD (ax (ax (aD (ax (bI (v := (I6 3)) Tryz.results52 rfl ?_))))))))
 obtain rfl := gK hs
 exact ⟨h.grown, rfl⟩
 refine aG (au (aj (ay (aa (dz rfl rfl e48r) (aa (ag (v := (I6 ((i43 + 1)))) rfl) (aC (ak ?_)))))))
 subst Vm
 exact iw ⟨JX + 1, i43 + 1⟩ ⟨h.cn _, by omega, hs⟩ (by have := kQ e47; dsimp only; omega)
 rw [eX (hik ▸ e47), dZ] at hs
 refine nE (aa (ae (v := (I6 0)) rfl) (nR (bI (v := (I6 0)) Tryz.results52 rfl ?_)))
 obtain rfl := gK hs
 exact ⟨h.grown, rfl⟩
 refine nG (aa (ah rW rfl) (aa (aB h 4 rfl aP rfl rfl) (nN (aH (nG (aa (bW rfl rfl) (aa (ae (v := (.bool (decide ((a.op : Int) = 7)))) rfl) (nN (aK hs rfl (fun c56 hs => ?_) (fun c56 hs => ?_))))))))))
 refine aJ (nG (aa (ah kK rfl) (aa (aB h 4 rfl aP rfl rfl) (aa (ag (v := vc) rfl) (aa (aX iM rfl (h.fQ 3 rfl)) (aO yK rfl rfl (fG _ _ h.lt a.b (c.length : Int) _ rfl) ?_))))))
 rintro _ w ⟨k57, rfl⟩
 refine ⟨_, rfl, ?_⟩
 replace h := h.grow k57
 refine aa (dU rfl) (nN (aK hs rfl (fun c58 hs => ?_) (fun c58 hs => ?_)))
 refine nG (aa (ae (v := (I6 5)) rfl) (nR (ax (aD (ax (bI (v := (I6 5)) Tryz.results52 rfl ?_))))))
 obtain rfl := gK hs
 exact ⟨h.grown, rfl⟩
 refine aG (aj (ay (aa (ag (v := vc) rfl) (aa (ah kK rfl) (aa (aB h 4 rfl aP rfl rfl) ?_)))))
 obtain ⟨x59, e60, hs⟩ := aM hs
 obtain ⟨b62, o63, cs64, h, r65, i61⟩ := h.vo 3 12 rfl iM rfl (aR e60).1 (aR e60).2
 obtain ⟨u66, rfl, g67⟩ := pR r65
 replace h := h.bK 13 g67.up
 refine aa (i61 _ _ _ _ _ _ _ _ _ rfl rfl) (aa (ah yh rfl) (aa (eQ (k := 0) h 12 rfl aP rfl rfl) (aa (ae (v := (I6 x59.params)) rfl) (aC (au (ak ?_))))))
 exact cO ((lk a.op ([(1, [114, 110, 45]), (2, [114, 114, 45]), (3, [114, 114, 114]), (4, [114, 114, 110]), (5, [114, 110, 45]), (6, [114, 114, 110]), (7, [114, 110, 45]), (8, [114, 45, 45]), (9, [114, 45, 45]), (10, [45, 45, 45]), (11, [114, 45, 45]), (12, [45, 110, 45]), (13, [114, 110, 45])] : List (Int × Str))).isSome, x59.params) ⟨h.cn _, hs⟩
 refine nG (aa (bW rfl rfl) (aa (ae (v := (.bool (decide ((a.op : Int) = 1)))) rfl) (nN (aK hs rfl (fun c68 hs => ?_) (fun c68 hs => ?_)))))
 refine ay (aa (ah kK rfl) (aa (aB h 4 rfl aP rfl rfl) (aO LK rfl rfl (qR _ _ h.lt a.b _ rfl) ?_)))
 rintro _ w ⟨k69, rfl⟩
 refine ⟨_, rfl, ?_⟩
 replace h := h.grow k69
 refine aa (ae (v := (.bool ((ed a.b)))) rfl) (aC (au (ak ?_)))
 exact cO ((ed a.b), 0) ⟨h.cn _, hs⟩
 refine nG (aa (bW rfl rfl) (aa (ae (v := (.bool (decide ((a.op : Int) = 5)))) rfl) (nN (aK hs rfl (fun c70 hs => ?_) (fun c70 hs => ?_)))))
 refine ay (aa (ah kK rfl) (aa (aB h 4 rfl aP rfl rfl) (aO pU rfl rfl (dD _ _ h.lt a.b 1 4 _ rfl) ?_)))
 rintro _ w ⟨k71, rfl⟩
 refine ⟨_, rfl, ?_⟩
 replace h := h.grow k71
 refine aa (ae (v := (.bool ((aI a.b 1 4)))) rfl) (aC (au (ak ?_)))
 exact cO ((aI a.b 1 4), 0) ⟨h.cn _, hs⟩
 refine dm (σ := Bool) (inl [77, 78, 79]) (fun x72 => [(77, (.bool (x72)))]) (fun x72 w => SH w0 M BE w (hset [(1, .sr dw DT a.args), (2, .sr jH OC b.code), (4, .blk b1 [(I6 a.op), (I6 a.a), (I6 a.b), (I6 a.c), DT]), (5, .blk b2 [(I6 b.params), (I6 b.regs), OC])]) ∧ bT a b c x72 = some r) ?_ ?_
 rintro x72 w dC ⟨h, hs⟩
 refine aK hs rfl (fun c73 hs => ?_) (fun c73 hs => ?_)
 refine ay (aa (ah uy rfl) (aa (aB h 4 rfl aP rfl rfl) (aO pU rfl rfl (dD _ _ h.lt a.c 0 3 _ rfl) ?_)))
 rintro _ w ⟨k74, rfl⟩
 refine ⟨_, rfl, ?_⟩
 replace h := h.grow k74
 refine aa (ae (v := (.bool ((aI a.c 0 3)))) rfl) (aC (au (ak ?_)))
 exact cO ((aI a.c 0 3), 0) ⟨h.cn _, hs⟩
 refine nG (aa (bW rfl rfl) (aa (ae (v := (.bool (decide ((a.op : Int) = 3)))) rfl) (nN (aK hs rfl (fun c75 hs => ?_) (fun c75 hs => ?_)))))
 refine nG (aa (ae (v := (I6 1)) rfl) (nN (ay (aa (ah wU rfl) (aa (aB h 4 rfl jc rfl rfl) (aa (aX bN rfl (h.fQ 1 rfl)) (aa (bW rfl rfl) (aa (ag (v := (.bool (decide (((a.args.length : Int) : Int) = 1)))) rfl) (jT (b := decide (((a.args.length : Int) : Int) = 1)) hs (fun c76 hs => ?_) (fun c76 hs => ?_))))))))))
 refine dx rfl (cB c76) (aa (ah wU rfl) (dx rfl (cB c76) (aa (aB h 4 rfl jc rfl rfl) (dx rfl (cB c76) ?_))))
 obtain ⟨MH, UI, hs⟩ := aM hs
 obtain ⟨b80, o81, cs82, h, r83, i79⟩ := h.vo 1 14 rfl bN rfl (aR UI).1 (aR UI).2
 obtain rfl := r83
 refine aa (i79 _ _ _ _ _ _ _ _ _ rfl rfl) (dx rfl (cB c76) (aa (eQ (k := 0) h 14 rfl aP rfl rfl) (dx rfl (cB c76) (aO pU rfl rfl (dD _ _ h.lt MH 1 5 _ rfl) ?_))))
 rintro _ w ⟨k84, rfl⟩
 refine ⟨_, rfl, ?_⟩
 replace h := h.grow k84
 refine aa (eO (b := true) (v := (.bool ((aI MH 1 5)))) (cB c76) rfl) (aa (ae (v := (.bool ((aI MH 1 5)))) rfl) (aC (au (ak ?_))))
 exact cO ((aI MH 1 5), 1) ⟨h.cn _, hs⟩
 refine qc rfl (cB c76) rfl (qc rfl (cB c76) rfl (qc rfl (cB c76) rfl (qc rfl (cB c76) rfl (qc rfl (cB c76) rfl (aa (eO (b := false) (v := (.bool (false))) (cB c76) rfl) (aa (ae (v := (.bool (false))) rfl) (aC (au (ak ?_)))))))))
 exact cO (false, 1) ⟨h.cn _, hs⟩
 refine dm (σ := Bool) (inl [96, 97, 98]) (fun x85 => [(96, (.bool (x85)))]) (fun x85 w => SH w0 M BE w (hset [(1, .sr dw DT a.args), (2, .sr jH OC b.code), (4, .blk b1 [(I6 a.op), (I6 a.a), (I6 a.b), (I6 a.c), DT]), (5, .blk b2 [(I6 b.params), (I6 b.regs), OC])]) ∧ bS a b c x85 = some r) ?_ ?_
 rintro x85 w dC ⟨h, hs⟩
 refine aK hs rfl (fun c86 hs => ?_) (fun c86 hs => ?_)
 refine ay (aa (ah kK rfl) (aa (aB h 4 rfl aP rfl rfl) (aa (ah qJ rfl) (aa (aB h 5 rfl yM rfl rfl) (aa (aX iU rfl (h.fQ 2 rfl)) (aO yK rfl rfl (fG _ _ h.lt a.b (b.code.length : Int) _ rfl) ?_))))))
 rintro _ w ⟨k87, rfl⟩
 refine ⟨_, rfl, ?_⟩
 replace h := h.grow k87
 refine aa (ae (v := (.bool ((aF a.b (b.code.length : Int))))) rfl) (aC (au (ak ?_)))
 exact cO ((aF a.b (b.code.length : Int)), 0) ⟨h.cn _, hs⟩
 refine aG (au (ak ?_))
 exact cO ((lk a.op ([(1, [114, 110, 45]), (2, [114, 114, 45]), (3, [114, 114, 114]), (4, [114, 114, 110]), (5, [114, 110, 45]), (6, [114, 114, 110]), (7, [114, 110, 45]), (8, [114, 45, 45]), (9, [114, 45, 45]), (10, [45, 45, 45]), (11, [114, 45, 45]), (12, [45, 110, 45]), (13, [114, 110, 45])] : List (Int × Str))).isSome, 0) ⟨h.cn _, hs⟩
 refine nG (aa (bW rfl rfl) (aa (ae (v := (.bool (decide ((a.op : Int) = 12)))) rfl) (nN (aK hs rfl (fun c88 hs => ?_) (fun c88 hs => ?_)))))
 refine aG (ak ?_)
 exact cO (decide ((a.op : Int) = 12)) ⟨h.cn _, hs⟩
 refine ay (aa (bW rfl rfl) (aa (ae (v := (.bool (decide ((a.op : Int) = 13)))) rfl) (aC (ak ?_))))
 exact cO (decide ((a.op : Int) = 13)) ⟨h.cn _, hs⟩
 refine nG (aa (bW rfl rfl) (aa (ae (v := (.bool (decide ((a.op : Int) = 4)))) rfl) (nN (aK hs rfl (fun c89 hs => ?_) (fun c89 hs => ?_)))))
 refine aG (ak ?_)
 exact cO (decide ((a.op : Int) = 4)) ⟨h.cn _, hs⟩
 refine ay (aa (bW rfl rfl) (aa (ae (v := (.bool (decide ((a.op : Int) = 6)))) rfl) (aC (ak ?_))))
 exact cO (decide ((a.op : Int) = 6)) ⟨h.cn _, hs⟩
def dX (x25 : cz) (a : List cz) (x40 : Ins) (s : Unit) (nx42 : Unit → Option Int) : Option Int :=
  (dh x40 x25 a).bind fun GG => bif decide ((GG : Int) ≠ 0) then some GG else nx42 ()
def oU (x25 : cz) (RU : Unit → Option Int) (s : Unit) : Option Int :=
  iA (jN ((x25.code.length : Int) - 1)) ((idx x25.code ((x25.code.length : Int) - 1)).bind fun wV => bif (decide ((wV.op : Int) ≠ 8) && decide ((wV.op : Int) ≠ 12)) then some 4 else RU ())
def dY (a : List cz) (x25 : cz) (s : Unit) (RU : Unit → Option Int) : Option Int :=
  each (dX x25 a) (oU x25 RU) x25.code ()
def gD (s : Unit) : Option Int :=
  some 0
def fe (i4 : Int) (x5 : cz) (s : Unit) (nx7 : Unit → Option Int) : Option Int :=
  bif (((!(aI x5.params 0 3)) || (!(aI x5.regs (max 1 x5.params) 40))) || (decide ((i4 : Int) = 0) && decide ((x5.params : Int) ≠ 0))) then some 3 else bif (!(aI (x5.code.length : Int) 1 2000)) then some 2 else nx7 ()
def iH (a : List cz) (s : Unit) : Option Int :=
  each (dY a) gD a ()
def kS (a : List cz) : Option Int :=
  bif (!(aI (a.length : Int) 1 4)) then some 2 else dQ fe (iH a) 0 a ()
theorem Aw (w0 : World) (M : BS) (hM : ∀ b, M b → b < w0.heap.size) (va : Value) (a : List cz) (ha : fK jE w0 BE M va a) (r : Int) (hs : kS a = some r) :
    Calls Tryz.prog 21 #[va] w0 (fun e w' => Grow w0 w' ∧ e = .returned (.int .i64 r)) := by
 refine aL (args := [va]) Tryz.func21 rfl Tryz.ntmps21 (bH rfl) ?_
 have h := SH.init hM
 replace h := h.eu 1 ha aT
 have tQ := ha.bD
 refine nG (aa (ae (v := (I6 0)) rfl) (nK (aa (ag (v := va) rfl) (aa (aX iM rfl (h.fQ 1 rfl)) (aO pU rfl rfl (dD _ _ h.lt (a.length : Int) 1 4 _ rfl) ?_)))))
 rintro _ w ⟨k1, rfl⟩
 refine ⟨_, rfl, ?_⟩
 replace h := h.grow k1
 refine aa (dU rfl) (nN (aK hs rfl (fun c2 hs => ?_) (fun c2 hs => ?_)))
 refine nG (aa (ae (v := (I6 2)) rfl) (nR (ax (bI (v := (I6 2)) Tryz.results21 rfl ?_))))
 obtain rfl := gK hs
 exact ⟨h.grown, rfl⟩
 refine aG (aj (aJ (nG (aa (ag (v := va) rfl) (aa (aX iM rfl (h.fQ 1 rfl)) (aa (ag (v := (I6 0)) rfl) (nN (aH (eF (σ := Nat × Int) (inl ([2, 3, 4] ++ rg 17 33)) (fun ⟨k3, i4⟩ => [(17, (I6 i4))]) (fun ⟨k3, i4⟩ w => SH w0 M BE w (hset [(1, .sr jE va a)]) ∧ i4 = (k3 : Int) ∧ dQ fe (iH a) i4 (a.drop k3) () = some r) (fun ⟨k3, i4⟩ => a.length - k3) ⟨0, 0⟩ ⟨rfl, trivial⟩ ?_ ?_)))))))))
 exact ⟨h.cn _, rfl, hs⟩
 rintro ⟨k3, i4⟩ w dC ⟨h, hik, hs⟩
 refine nG ?_
 refine aa (dK rfl rfl) (nN ?_)
 refine aJ (fD rfl (fun e8 => ?_) (fun e8 => ?_))
 refine aG (aj ?_)
 obtain ⟨x5, e9a, e9b⟩ := eU (hik ▸ e8)
 rw [e9b, jC] at hs
 generalize ZE : dQ fe (iH a) (i4 + 1) (a.drop (k3 + 1)) = nx7 at hs
 have e9r := eZ ((h.fQ 1 rfl)).bD hik e8
 refine aJ (aH (nG (aa (ag (v := (I6 i4)) rfl) ?_)))
 obtain ⟨b11, o12, ZF, h, ZG, i10⟩ := h.vo 1 2 rfl iM rfl (gB hik) (eY hik e9a)
 obtain ⟨Dk, rfl, g16⟩ := pR ZG
 replace h := h.bK 3 g16.up
 refine aa (i10 _ _ _ _ _ _ _ _ _ rfl rfl) (aa (iD (k := 0) (vs := [(I6 x5.params), (I6 x5.regs), Dk]) h 2 rfl qL rfl rfl rfl (bH rfl)) (bu h 4 qL fun w b17 h => aa (ae (v := (I6 i4)) rfl) (dN (vs := [(I6 x5.params), (I6 x5.regs), Dk]) h 4 [(I6 x5.params), (I6 x5.regs), Dk] rfl qL rfl rfl rfl rfl rfl (ai rfl (ai rfl (ai (h.gy 3 rfl).one aS))) fun w h => nK (aa (ah yh rfl) (aa (aB h 4 rfl aP rfl rfl) (aO pU rfl rfl (dD _ _ h.lt x5.params 0 3 _ rfl) ?_))))))
 rintro _ w ⟨k18, rfl⟩
 refine ⟨_, rfl, ?_⟩
 replace h := h.grow k18
 refine aa (dU rfl) (aa (ag (v := (.bool ((!(aI x5.params 0 3))))) rfl) (az rfl rfl (fun q => ah wT rfl) (az rfl rfl (fun q => aB h 4 rfl aP (dE q) rfl) (az rfl rfl (fun q => ah yh rfl) (az rfl rfl (fun q => aB h 4 rfl aP (dE q) rfl) (az rfl rfl (fun q => Tf rfl (dE q)) (vv rfl rfl pU rfl (fun q => iB (dE q) (iB (dE q) (iB rfl rfl))) (dD _ _ h.lt x5.regs (max 1 x5.params) 40 _ rfl) fun w k19 => ?_)))))))
 replace h := h.grow k19
 refine az rfl rfl (fun q => dU (dE q)) (aa (iO rfl rfl lW) (aa (ag (v := (.bool (((!(aI x5.params 0 3)) || (!(aI x5.regs (max 1 x5.params) 40)))))) rfl) (az rfl rfl (fun q => ag (v := (I6 i4)) rfl) (az rfl rfl (fun q => bW (dE q) rfl) (az rfl rfl (fun q => ag (v := (.bool (decide ((i4 : Int) = 0)))) (dE q)) (kN (((!(aI x5.params 0 3)) || (!(aI x5.regs (max 1 x5.params) 40))) == false) rfl rfl (fun q => ah yh rfl) (kN (((!(aI x5.params 0 3)) || (!(aI x5.regs (max 1 x5.params) 40))) == false) rfl rfl (fun q => aB h 4 rfl aP (dE q) rfl) (kN (((!(aI x5.params 0 3)) || (!(aI x5.regs (max 1 x5.params) 40))) == false) rfl rfl (fun q => gV (dE q) rfl) (az rfl rfl (fun q => fB (dE q) (Qo q) lW) (aa (iO rfl rfl lW) (nN (aK hs rfl (fun c20 hs => ?_) (fun c20 hs => ?_)))))))))))))
 refine nG (aa (ae (v := (I6 3)) rfl) (nR (ax (aD (ax (ax (aD (ax (bI (v := (I6 3)) Tryz.results21 rfl ?_)))))))))
 obtain rfl := gK hs
 exact ⟨h.grown, rfl⟩
 refine nS (aa (ah qJ rfl) (aa (aB h 4 rfl yM rfl rfl) (aa (aX iU rfl (h.lF 3 rfl)) (aO pU rfl rfl (dD _ _ h.lt (x5.code.length : Int) 1 2000 _ rfl) ?_))))
 rintro _ w ⟨k21, rfl⟩
 refine ⟨_, rfl, ?_⟩
 replace h := h.grow k21
 refine aa (dU rfl) (nN (aK hs rfl (fun c22 hs => ?_) (fun c22 hs => ?_)))
 refine nG (aa (ae (v := (I6 2)) rfl) (nR (aD (ax (ax (aD (ax (bI (v := (I6 2)) Tryz.results21 rfl ?_))))))))
 obtain rfl := gK hs
 exact ⟨h.grown, rfl⟩
 refine aG (au (aj (ay (aa (dz rfl rfl e9r) (aa (ag (v := (I6 ((i4 + 1)))) rfl) (aC (ak ?_)))))))
 subst ZE
 exact iw ⟨k3 + 1, i4 + 1⟩ ⟨h.cn _, by omega, hs⟩ (by have := kQ e8; dsimp only; omega)
 rw [eX (hik ▸ e8), mY] at hs
 refine iI (bC (bC (dV (aj (aJ (nG (aa (ag (v := va) rfl) (aa (aX iM rfl (h.fQ 1 rfl)) (aa (ag (v := (I6 0)) rfl) (nN (aH (eF (σ := Nat × Int) (inl ([2, 6, 8, 9, 10] ++ rg 52 35)) (fun ⟨k23, i24⟩ => [(52, (I6 i24))]) (fun ⟨k23, i24⟩ w => SH w0 M BE w (hset [(1, .sr jE va a)]) ∧ i24 = (k23 : Int) ∧ each (dY a) gD (a.drop k23) () = some r) (fun ⟨k23, i24⟩ => a.length - k23) ⟨0, 0⟩ ⟨rfl, trivial⟩ ?_ ?_))))))))))))
 exact ⟨h.cn _, rfl, hs⟩
 rintro ⟨k23, i24⟩ w dC ⟨h, hik, hs⟩
 refine nG ?_
 refine aa (dK rfl rfl) (nN ?_)
 refine aJ (fD rfl (fun e28 => ?_) (fun e28 => ?_))
 refine aG (aj ?_)
 obtain ⟨x25, e29a, e29b⟩ := eU (hik ▸ e28)
 rw [e29b, df] at hs
 generalize hnx27 : each (dY a) gD (a.drop (k23 + 1)) = RU at hs
 have e29r := eZ ((h.fQ 1 rfl)).bD hik e28
 refine aJ (aH (nG ?_))
 obtain ⟨b31, o32, cs33, h, r34, i30⟩ := h.vo 1 5 rfl iM rfl (gB hik) (eY hik e29a)
 obtain ⟨u35, rfl, g36⟩ := pR r34
 replace h := h.bK 6 g36.up
 refine aa (i30 _ _ _ _ _ _ _ _ _ rfl rfl) (aa (iD (k := 0) (vs := [(I6 x25.params), (I6 x25.regs), u35]) h 5 rfl qL rfl rfl rfl (bH rfl)) (bu h 7 qL fun w b37 h => dN (vs := [(I6 x25.params), (I6 x25.regs), u35]) h 7 [(I6 x25.params), (I6 x25.regs), u35] rfl qL rfl rfl rfl rfl rfl (ai rfl (ai rfl (ai (h.gy 6 rfl).one aS))) fun w h => nK (aa (ah qJ rfl) (aa (aB h 7 rfl yM rfl rfl) (aa (aX iU rfl (h.lF 6 rfl)) (aa (ag (v := (I6 0)) rfl) (nN (aH (eF (σ := Nat × Int) (inl ([2, 8, 9] ++ rg 59 12)) (fun ⟨ME, i39⟩ => [(59, (I6 i39))]) (fun ⟨ME, i39⟩ w => SH w0 M BE w (hset [(1, .sr jE va a), (6, .rd jH u35 x25.code), (7, .blk b37 [(I6 x25.params), (I6 x25.regs), u35])]) ∧ i39 = (ME : Int) ∧ each (dX x25 a) (oU x25 RU) (x25.code.drop ME) () = some r) (fun ⟨ME, i39⟩ => x25.code.length - ME) ⟨0, 0⟩ ⟨rfl, trivial⟩ ?_ ?_)))))))))
 exact ⟨h.cn _, rfl, hs⟩
 rintro ⟨ME, i39⟩ w dC ⟨h, hik, hs⟩
 refine nG ?_
 refine aa (dK rfl rfl) (nN ?_)
 refine aJ (fD rfl (fun e43 => ?_) (fun e43 => ?_))
 refine aG (aj ?_)
 obtain ⟨x40, e44a, e44b⟩ := eU (hik ▸ e43)
 rw [e44b, df] at hs
 generalize hnx42 : each (dX x25 a) (oU x25 RU) (x25.code.drop (ME + 1)) = nx42 at hs
 have e44r := eZ ((h.lF 6 rfl)).bD hik e43
 refine aJ (aH (nG ?_))
 obtain ⟨b46, o47, cs48, h, r49, i45⟩ := h.FH 6 8 rfl iU rfl (gB hik) (eY hik e44a)
 obtain ⟨Vn, rfl, g51⟩ := Dh r49
 replace h := h.bK 9 g51.up
 refine aa (i45 _ _ _ _ _ _ _ _ _ rfl rfl) (aa (iD (k := 0) (vs := [(I6 x40.op), (I6 x40.a), (I6 x40.b), (I6 x40.c), Vn]) h 8 rfl uC rfl rfl rfl (bH rfl)) (bu h 10 uC fun w b52 h => dN (vs := [(I6 x40.op), (I6 x40.a), (I6 x40.b), (I6 x40.c), Vn]) h 10 [(I6 x40.op), (I6 x40.a), (I6 x40.b), (I6 x40.c), Vn] rfl uC rfl rfl rfl rfl rfl (ai rfl (ai rfl (ai rfl (ai rfl (ai (h.gy 9 rfl).one aS))))) fun w h => nJ (aa (eB (vs := [(I6 x40.op), (I6 x40.a), (I6 x40.b), (I6 x40.c), Vn]) h 10 rfl uC rfl rfl rfl) (aa (eB (vs := [(I6 x25.params), (I6 x25.regs), u35]) h 7 rfl qL rfl rfl rfl) (aa (ag (v := va) rfl) ?_)))))
 obtain ⟨GG, e54, hs⟩ := aM hs
 refine aO Zk rfl rfl (BG _ _ h.lt x40 Vn (h.lF 9 rfl) x25 u35 (h.lF 6 rfl) va a (h.fQ 1 rfl) _ e54) ?_
 rintro _ w ⟨ZC, rfl⟩
 refine ⟨_, rfl, ?_⟩
 replace h := h.grow ZC
 refine aa (ae (v := (I6 GG)) rfl) (nJ (aa (ag (v := (I6 GG)) rfl) (aa (gV rfl rfl) (nN (aK hs rfl (fun c56 hs => ?_) (fun c56 hs => ?_))))))
 refine nG (aa (ag (v := (I6 GG)) rfl) (aa (ae (v := (I6 GG)) rfl) (nR (aD (ax (ax (aD (ax (aD (ax (ax (aD (ax (bI (v := (I6 GG)) Tryz.results21 rfl ?_))))))))))))))
 obtain rfl := gK hs
 exact ⟨h.grown, rfl⟩
 refine aG (au (aj (ay (aa (dz rfl rfl e44r) (aa (ag (v := (I6 ((i39 + 1)))) rfl) (aC (ak ?_)))))))
 subst hnx42
 exact iw ⟨ME + 1, i39 + 1⟩ ⟨h.cn _, by omega, hs⟩ (by have := kQ e43; dsimp only; omega)
 rw [eX (hik ▸ e43), dZ] at hs
 refine nE (aa (ah qJ rfl) (aa (aB h 7 rfl yM rfl rfl) (aa (ah qJ rfl) (aa (aB h 7 rfl yM rfl rfl) (aa (aX iU rfl (h.lF 6 rfl)) ?_)))))
 obtain ⟨a57, hs⟩ := bE hs
 refine aa (tY rfl rfl a57) ?_
 obtain ⟨wV, e59, hs⟩ := aM hs
 obtain ⟨b61, o62, cs63, h, r64, i60⟩ := h.FH 6 11 rfl iU rfl (aR e59).1 (aR e59).2
 obtain ⟨u65, rfl, g66⟩ := Dh r64
 replace h := h.bK 12 g66.up
 refine aa (i60 _ _ _ _ _ _ _ _ _ rfl rfl) (aa (ah rW rfl) (aa (eQ (k := 0) h 11 rfl aP rfl rfl) (aa (ae (v := (I6 wV.op)) rfl) (nJ (aa (ag (v := (I6 wV.op)) rfl) (aa (gV rfl rfl) (aa (ag (v := (.bool (decide ((wV.op : Int) ≠ 8)))) rfl) (az rfl rfl (fun q => ag (v := (I6 wV.op)) rfl) (az rfl rfl (fun q => gV (dE q) rfl) (aa (fB rfl rfl lW) (nN (aK hs rfl (fun c67 hs => ?_) (fun c67 hs => ?_)))))))))))))
 refine nG (aa (ae (v := (I6 4)) rfl) (nR (aD (ax (ax (aD (ax (bI (v := (I6 4)) Tryz.results21 rfl ?_))))))))
 obtain rfl := gK hs
 exact ⟨h.grown, rfl⟩
 refine aG (au (aj (ay (aa (dz rfl rfl e29r) (aa (ag (v := (I6 ((i24 + 1)))) rfl) (aC (ak ?_)))))))
 subst hnx27
 exact iw ⟨k23 + 1, i24 + 1⟩ ⟨h.cn _, by omega, hs⟩ (by have := kQ e28; dsimp only; omega)
 rw [eX (hik ▸ e28), dZ] at hs
 refine nE (aa (ae (v := (I6 0)) rfl) (nR (bI (v := (I6 0)) Tryz.results21 rfl ?_)))
 obtain rfl := gK hs
 exact ⟨h.grown, rfl⟩
def lD (a : List (List Val)) (b : List (List Val)) (i3 : Int) (s : Unit) (D5 : Unit → Option Bool) : Option Bool :=
  (idx a i3).bind fun x9 => (idx b i3).bind fun yF => (jm x9 yF).bind fun y27 => bif (!y27) then some false else D5 ()
def pX (s : Unit) : Option Bool :=
  some true
def oF (a : List (List Val)) (b : List (List Val)) : Option Bool :=
  bif decide (((a.length : Int) : Int) ≠ (b.length : Int)) then some false else upto (lD a b) pX 0 ((a.length : Int)).toNat ()
theorem Ay (w0 : World) (M : BS) (hM : ∀ b, M b → b < w0.heap.size) (va : Value) (a : List (List Val)) (ha : fK (kW aY) w0 BE M va a) (vb : Value) (b : List (List Val)) (hb : fK (kW aY) w0 BE M vb b) (r : Bool) (hs : oF a b = some r) :
    Calls Tryz.prog 58 #[va, vb] w0 (fun e w' => Grow w0 w' ∧ e = .returned (.bool r)) := by
 refine aL (args := [va, vb]) Tryz.func58 rfl Tryz.ntmps58 (bH rfl) ?_
 have h := SH.init hM
 replace h := h.eu 1 ha aT
 replace h := h.eu 2 hb (aW aT)
 have tQ := ha.bD
 have FU := hb.bD
 refine nG (aa (ae (v := (.bool (false))) rfl) (nK (aa (ag (v := va) rfl) (aa (aX dO rfl (h.fQ 1 rfl)) (aa (ag (v := vb) rfl) (aa (aX dO rfl (h.fQ 2 rfl)) (aa (gV rfl rfl) (nN (aK hs rfl (fun c1 hs => ?_) (fun c1 hs => ?_))))))))))
 refine nG (aa (ae (v := (.bool (false))) rfl) (nR (ax (bI (v := (.bool (false))) Tryz.results58 rfl ?_))))
 obtain rfl := gK hs
 exact ⟨h.grown, rfl⟩
 refine aG (aj (aJ (nG (aa (ag (v := va) rfl) (aa (aX dO rfl (h.fQ 1 rfl)) (aa (ag (v := (I6 0)) rfl) (nN (aH ?_))))))))
 have Vk := (h.fQ 1 rfl).bD
 refine eF (σ := Nat × Int) (inl ([4, 5] ++ rg 13 14)) (fun ⟨k2, i3⟩ => [(13, (I6 i3))]) (fun ⟨k2, i3⟩ w => SH w0 M BE w (hset [(1, .sr (kW aY) va a), (2, .sr (kW aY) vb b)]) ∧ i3 = (k2 : Int) ∧ upto (lD a b) pX i3 (((a.length : Int)).toNat - k2) () = some r) (fun ⟨k2, i3⟩ => ((a.length : Int)).toNat - k2) ⟨0, 0⟩ ⟨rfl, trivial⟩ ?_ ?_
 exact ⟨h.cn _, rfl, hs⟩
 rintro ⟨k2, i3⟩ w dC ⟨h, hik, hs⟩
 refine nG ?_
 refine aa (dK rfl rfl) (nN ?_)
 refine aJ (fD rfl (fun e7 => ?_) (fun e7 => ?_))
 refine aG (aj ?_)
 rw [lv (by have := kQ e7; omega)] at hs
 generalize D6 : upto (lD a b) pX (i3 + 1) (((a.length : Int)).toNat - (k2 + 1)) = D5 at hs
 have OZ : jN (i3 + 1) := (by have := kQ e7; have := Vk; exact jN.mk (by omega) (by omega))
 refine aJ (aH (nG (aa (ag (v := (I6 i3)) rfl) (aa (ae (v := (I6 i3)) rfl) (nN (aJ (Le 8 mixed (by kernel_rfl) h fun w h => fM (ag (v := va) rfl) (fM (ag (v := (I6 i3)) rfl) ?_))))))))
 obtain ⟨x9, e10, hs⟩ := aM hs
 obtain ⟨b12, o13, cs14, h, r15, i11⟩ := h.vo 1 3 rfl dO rfl (aR e10).1 (aR e10).2
 obtain ⟨u16, rfl, g17⟩ := r15
 replace h := h.bK 4 g17.up
 refine fM (i11 _ _ _ _ _ _ _ _ _ rfl rfl) (fM (eQ (k := 0) h 3 rfl kr rfl rfl) (fM (ag (v := vb) rfl) (fM (ag (v := (I6 i3)) rfl) ?_)))
 obtain ⟨yF, e19, hs⟩ := aM hs
 obtain ⟨Iy, o22, cs23, h, r24, i20⟩ := h.vo 2 5 rfl dO rfl (aR e19).1 (aR e19).2
 obtain ⟨u25, rfl, g26⟩ := r24
 replace h := h.bK 6 g26.up
 refine fM (i20 _ _ _ _ _ _ _ _ _ rfl rfl) (fM (eQ (k := 0) h 5 rfl kr rfl rfl) (Te ?_))
 obtain ⟨y27, e28, hs⟩ := aM hs
 refine aO LJ rfl rfl (pG _ _ h.lt u16 x9 (h.lF 4 rfl) u25 yF (h.lF 6 rfl) _ e28) ?_
 rintro _ w ⟨k29, rfl⟩
 refine ⟨_, rfl, ?_⟩
 replace h := h.grow k29
 refine aa (dU rfl) (nN (aK hs rfl (fun c30 hs => ?_) (fun c30 hs => ?_)))
 refine nG (aa (ae (v := (.bool (false))) rfl) (nR (aD (ax (ax (aD (ax (bI (v := (.bool (false))) Tryz.results58 rfl ?_))))))))
 obtain rfl := gK hs
 exact ⟨h.grown, rfl⟩
 refine aG (au (aj (ay (aa (dz rfl rfl OZ) (aa (ag (v := (I6 ((i3 + 1)))) rfl) (aC (ak ?_)))))))
 subst D6
 exact iw ⟨k2 + 1, i3 + 1⟩ ⟨h.cn _, by omega, hs⟩ (by have := kQ e7; dsimp only; omega)
 rw [lC (by have := of_decide_eq_false e7; omega)] at hs
 refine nE (aa (ae (v := (.bool (true))) rfl) (nR (bI (v := (.bool (true))) Tryz.results58 rfl ?_)))
 obtain rfl := gK hs
 exact ⟨h.grown, rfl⟩
def oV (l8 : Unit → Option Bool) (x34 : Bool) : Option Bool :=
  bif x34 then some false else l8 ()
def oW (b : LX.State) (i10 : Int) (eH : LX.Frame) (s : Unit) (l8 : Unit → Option Bool) : Option Bool :=
  (idx b.frames i10).bind fun x24 => bif ((decide ((eH.proc : Int) = x24.proc) && decide ((eH.at_ : Int) = x24.at_)) && decide ((eH.ja : Int) = x24.ja)) then (jm eH.regs x24.regs).bind fun y39 => oV l8 (!y39) else oV l8 true
def oZ (s : Unit) : Option Bool :=
  some true
def gp (a : LX.State) (b : LX.State) : Option Bool :=
  bif (decide ((a.status : Int) = b.status) && decide ((a.bB : Int) = b.bB)) then (oF a.cells b.cells).bind fun y4 => bif y4 then bif decide (((a.frames.length : Int) : Int) ≠ (b.frames.length : Int)) then some false else dQ (oW b) oZ 0 a.frames () else some false else some false
theorem qw (w0 : World) (M : BS) (hM : ∀ b, M b → b < w0.heap.size) (a : LX.State) (rF rY : Value) (ha0 : fK dM w0 BE M rF a.frames) (ha1 : fK (kW aY) w0 BE M rY a.cells) (b : LX.State) (vb0 vb1 : Value) (hb0 : fK dM w0 BE M vb0 b.frames) (hb1 : fK (kW aY) w0 BE M vb1 b.cells) (r : Bool) (hs : gp a b = some r) :
    Calls Tryz.prog 24 #[(.agg #[rF, rY, (I6 a.status), (I6 a.bB)]), (.agg #[vb0, vb1, (I6 b.status), (I6 b.bB)])] w0 (fun e w' => Grow w0 w' ∧ e = .returned (.bool r)) := by
 refine aL (args := [(.agg #[rF, rY, (I6 a.status), (I6 a.bB)]), (.agg #[vb0, vb1, (I6 b.status), (I6 b.bB)])]) Tryz.func24 rfl Tryz.ntmps24 (bH rfl) ?_
 have h := SH.init hM
 replace h := h.eu 1 ha0 aT
 replace h := h.eu 2 ha1 (aW aT)
 replace h := h.eu 3 hb0 (aW (aW aT))
 replace h := h.eu 4 hb1 (aW (aW (aW aT)))
 refine nG (l7 (cs := [rF, rY, (I6 a.status), (I6 a.bB)]) h 5 rfl rfl fun w b1 h => l7 (cs := [vb0, vb1, (I6 b.status), (I6 b.bB)]) h 6 rfl rfl fun w b2 h => aa (ae (v := (.bool (false))) rfl) (nJ (aa (ah qI rfl) (aa (aB h 5 rfl aP rfl rfl) (aa (ah qI rfl) (aa (aB h 6 rfl aP rfl rfl) (aa (bW rfl rfl) (aa (ag (v := (.bool (decide ((a.status : Int) = b.status)))) rfl) (az rfl rfl (fun q => ah sZ rfl) (az rfl rfl (fun q => aB h 5 rfl aP (dE q) rfl) (az rfl rfl (fun q => ah sZ rfl) (az rfl rfl (fun q => aB h 6 rfl aP (dE q) rfl) (az rfl rfl (fun q => bW (dE q) (dE q)) (aa (fB rfl rfl lW) (aa (ag (v := (.bool ((decide ((a.status : Int) = b.status) && decide ((a.bB : Int) = b.bB))))) rfl) (jT (b := (decide ((a.status : Int) = b.status) && decide ((a.bB : Int) = b.bB))) hs (fun c3 hs => ?_) (fun c3 hs => ?_)))))))))))))))))
 refine dx rfl (cB c3) (aa (ah gL rfl) (dx rfl (cB c3) (aa (aB h 5 rfl jL rfl rfl) (dx rfl (cB c3) (aa (ah gL rfl) (dx rfl (cB c3) (aa (aB h 6 rfl jL rfl rfl) (dx rfl (cB c3) ?_))))))))
 obtain ⟨y4, e5, hs⟩ := aM hs
 refine aO Zm rfl rfl (Ay _ _ h.lt rY a.cells (h.fQ 2 rfl) vb1 b.cells (h.fQ 4 rfl) _ e5) ?_
 rintro _ w ⟨k6, rfl⟩
 refine ⟨_, rfl, ?_⟩
 replace h := h.grow k6
 refine aa (eO (b := true) (v := (.bool (y4))) (cB c3) rfl) (aa (ag (v := (.bool (y4))) rfl) (jT (b := y4) hs (fun c7 hs => ?_) (fun c7 hs => ?_)))
 refine dx rfl (cB c7) (aa (ah gQ rfl) (dx rfl (cB c7) (aa (aB h 5 rfl lJ rfl rfl) (dx rfl (cB c7) (aa (ah gQ rfl) (dx rfl (cB c7) (aa (aB h 6 rfl lJ rfl rfl) (dx rfl (cB c7) (iL (args := [rF, vb0, (.func (.func 59) #[] #[])]) TT rfl rfl (aL (args := [rF, vb0, (.func (.func 59) #[] #[])]) Tryz.func45 rfl Tryz.ntmps45 (bH rfl) (nG (aa (ae (v := (.bool (false))) rfl) (nK (aa (ag (v := rF) rfl) (aa (aX dI rfl (h.fQ 1 rfl)) (aa (ag (v := vb0) rfl) (aa (aX dI rfl (h.fQ 3 rfl)) (aa (gV rfl rfl) ?_))))))))))))))))))
 refine nN (aK hs rfl (fun c8 hs => ?_) (fun c8 hs => ?_))
 refine nG (aa (ae (v := (.bool (false))) rfl) (nR (ax (bI (v := (.bool (false))) Tryz.results45 rfl (⟨_, rfl, ?_⟩)))))
 refine aa (eO (b := true) (v := (.bool (false))) (cB c7) rfl) (aa (ae (v := (.bool (false))) rfl) (nR (bI (v := (.bool (false))) Tryz.results24 rfl ?_)))
 obtain rfl := gK hs
 exact ⟨h.grown, rfl⟩
 refine aG (aj (aJ (nG (aa (ag (v := rF) rfl) (aa (aX dI rfl (h.fQ 1 rfl)) (aa (ag (v := (I6 0)) rfl) (nN (aH (eF (σ := Nat × Int) (inl ([6, 7, 8, 9] ++ rg 17 15)) (fun ⟨k9, i10⟩ => [(17, (I6 i10))]) (fun ⟨k9, i10⟩ w => SH w0 M BE w (hset [(1, .sr dM rF a.frames), (3, .sr dM vb0 b.frames)]) ∧ i10 = (k9 : Int) ∧ dQ (oW b) oZ i10 (a.frames.drop k9) () = some r) (fun ⟨k9, i10⟩ => a.frames.length - k9) ⟨0, 0⟩ ⟨rfl, trivial⟩ ?_ ?_)))))))))
 exact ⟨h.cn _, rfl, hs⟩
 rintro ⟨k9, i10⟩ w dC ⟨h, hik, hs⟩
 refine nG ?_
 refine aa (dK rfl rfl) (nN ?_)
 refine aJ (fD rfl (fun e14 => ?_) (fun e14 => ?_))
 refine aG (aj ?_)
 obtain ⟨eH, IB, IC⟩ := eU (hik ▸ e14)
 rw [IC, jC] at hs
 generalize Cw : dQ (oW b) oZ (i10 + 1) (a.frames.drop (k9 + 1)) = l8 at hs
 have IE := eZ ((h.fQ 1 rfl)).bD hik e14
 refine aJ (aH (nG (aa (ag (v := (I6 i10)) rfl) ?_)))
 obtain ⟨b17, o18, UA, h, Rs, i16⟩ := h.vo 1 7 rfl dI rfl (gB hik) (eY hik IB)
 obtain ⟨u21, rfl, g22⟩ := mU Rs
 replace h := h.bK 8 g22.up
 refine aa (i16 _ _ _ _ _ _ _ _ _ rfl rfl) (aa (iD (k := 0) (vs := [(I6 eH.proc), (I6 eH.at_), u21, (I6 eH.ja)]) h 7 rfl fF rfl rfl rfl (bH rfl)) (bu h 9 fF fun w Dl h => aa (ae (v := (I6 i10)) rfl) (dN (vs := [(I6 eH.proc), (I6 eH.at_), u21, (I6 eH.ja)]) h 9 [(I6 eH.proc), (I6 eH.at_), u21, (I6 eH.ja)] rfl fF rfl rfl rfl rfl rfl (ai rfl (ai rfl (ai (h.gy 8 rfl).one (ai rfl aS)))) fun w h => nJ (aa (ag (v := vb0) rfl) (aa (ag (v := (I6 i10)) rfl) ?_)))))
 obtain ⟨x24, e25, hs⟩ := aM hs
 obtain ⟨b27, o28, cs29, h, Z8, i26⟩ := h.vo 3 10 rfl dI rfl (aR e25).1 (aR e25).2
 obtain ⟨u31, rfl, UU⟩ := mU Z8
 replace h := h.bK 11 UU.up
 refine aa (i26 _ _ _ _ _ _ _ _ _ rfl rfl) (aa (iD (k := 0) (vs := [(I6 x24.proc), (I6 x24.at_), u31, (I6 x24.ja)]) h 10 rfl fF rfl rfl rfl (bH rfl)) (bu h 12 fF fun w ZM h => dN (vs := [(I6 x24.proc), (I6 x24.at_), u31, (I6 x24.ja)]) h 12 [(I6 x24.proc), (I6 x24.at_), u31, (I6 x24.ja)] rfl fF rfl rfl rfl rfl rfl (ai rfl (ai rfl (ai (h.gy 11 rfl).one (ai rfl aS)))) fun w h => nN (dm (σ := Bool) (inl [26, 27, 28, 29, 30]) (fun x34 => [(30, (.bool (x34)))]) (fun x34 w => SH w0 M BE w (hset [(1, .sr dM rF a.frames), (3, .sr dM vb0 b.frames)]) ∧ oV l8 x34 = some r) ?_ ?_)))
 rintro x34 w dC ⟨h, hs⟩
 refine aK hs rfl (fun Xl hs => ?_) (fun Xl hs => ?_)
 refine nG (aa (ae (v := (.bool (false))) rfl) (nR (aD (ax (ax (aD (ax (bI (v := (.bool (false))) Tryz.results45 rfl (⟨_, rfl, ?_⟩)))))))))
 refine aa (eO (b := true) (v := (.bool (false))) (cB c7) rfl) (aa (ae (v := (.bool (false))) rfl) (nR (bI (v := (.bool (false))) Tryz.results24 rfl ?_)))
 obtain rfl := gK hs
 exact ⟨h.grown, rfl⟩
 refine aG (au (aj (ay (aa (dz rfl rfl IE) (aa (ag (v := (I6 ((i10 + 1)))) rfl) (aC (ak ?_)))))))
 subst Cw
 exact iw ⟨k9 + 1, i10 + 1⟩ ⟨h.cn _, by omega, hs⟩ (by have := kQ e14; dsimp only; omega)
 refine ay (aa (ag (v := (.func (.func 59) #[] #[])) rfl) (aa (eB (vs := [(I6 eH.proc), (I6 eH.at_), u21, (I6 eH.ja)]) h 9 rfl fF rfl rfl rfl) (aa (eB (vs := [(I6 x24.proc), (I6 x24.at_), u31, (I6 x24.ja)]) h 12 rfl fF rfl rfl rfl) (iL (args := [(.agg #[(I6 eH.proc), (I6 eH.at_), u21, (I6 eH.ja)]), (.agg #[(I6 x24.proc), (I6 x24.at_), u31, (I6 x24.ja)])]) Zn rfl rfl (aL (args := [(.agg #[(I6 eH.proc), (I6 eH.at_), u21, (I6 eH.ja)]), (.agg #[(I6 x24.proc), (I6 x24.at_), u31, (I6 x24.ja)])]) Tryz.func59 rfl Tryz.ntmps59 (bH rfl) (nG (l7 (cs := [(I6 eH.proc), (I6 eH.at_), u21, (I6 eH.ja)]) h 13 rfl rfl fun w b36 h => l7 (cs := [(I6 x24.proc), (I6 x24.at_), u31, (I6 x24.ja)]) h 14 rfl rfl fun w b37 h => aa (ae (v := (.bool (false))) rfl) (nJ (aa (ah tq rfl) (aa (aB h 13 rfl aP rfl rfl) (aa (ah tq rfl) (aa (aB h 14 rfl aP rfl rfl) (aa (bW rfl rfl) (aa (ag (v := (.bool (decide ((eH.proc : Int) = x24.proc)))) rfl) (az rfl rfl (fun q => ah vD rfl) (az rfl rfl (fun q => aB h 13 rfl aP (dE q) rfl) (az rfl rfl (fun q => ah vD rfl) ?_)))))))))))))))))
 refine az rfl rfl (fun q => aB h 14 rfl aP (dE q) rfl) (az rfl rfl (fun q => bW (dE q) (dE q)) (aa (fB rfl rfl lW) (aa (ag (v := (.bool ((decide ((eH.proc : Int) = x24.proc) && decide ((eH.at_ : Int) = x24.at_))))) rfl) (az rfl rfl (fun q => ah uw rfl) (az rfl rfl (fun q => aB h 13 rfl aP (dE q) rfl) (az rfl rfl (fun q => ah uw rfl) (az rfl rfl (fun q => aB h 14 rfl aP (dE q) rfl) (az rfl rfl (fun q => bW (dE q) (dE q)) (aa (fB rfl rfl lW) (aa (ag (v := (.bool (((decide ((eH.proc : Int) = x24.proc) && decide ((eH.at_ : Int) = x24.at_)) && decide ((eH.ja : Int) = x24.ja))))) rfl) (jT (b := ((decide ((eH.proc : Int) = x24.proc) && decide ((eH.at_ : Int) = x24.at_)) && decide ((eH.ja : Int) = x24.ja))) hs (fun E5 hs => ?_) (fun E5 hs => ?_))))))))))))
 refine dx rfl (cB E5) (aa (ah ko rfl) (dx rfl (cB E5) (aa (aB h 13 rfl kr rfl rfl) (dx rfl (cB E5) (aa (ah ko rfl) (dx rfl (cB E5) (aa (aB h 14 rfl kr rfl rfl) (dx rfl (cB E5) ?_))))))))
 obtain ⟨y39, e40, hs⟩ := aM hs
 refine aO LJ rfl rfl (pG _ _ h.lt u21 eH.regs (h.lF 8 rfl) u31 x24.regs (h.lF 11 rfl) _ e40) ?_
 rintro _ w ⟨k41, rfl⟩
 refine ⟨_, rfl, ?_⟩
 replace h := h.grow k41
 refine aa (eO (b := true) (v := (.bool (y39))) (cB E5) rfl) (aa (ae (v := (.bool (y39))) rfl) (nR (bI (v := (.bool (y39))) Tryz.results59 rfl (⟨_, rfl, ?_⟩))))
 refine aa (dU rfl) (aC (ak ?_))
 exact cO (!y39) ⟨h.cn _, hs⟩
 refine qc rfl (cB E5) rfl (qc rfl (cB E5) rfl (qc rfl (cB E5) rfl (qc rfl (cB E5) rfl (qc rfl (cB E5) rfl (aa (eO (b := false) (v := (.bool (false))) (cB E5) rfl) (aa (ae (v := (.bool (false))) rfl) (nR (bI (v := (.bool (false))) Tryz.results59 rfl (⟨_, rfl, ?_⟩)))))))))
 refine aa (dU rfl) (aC (ak ?_))
 exact cO true ⟨h.cn _, hs⟩
 rw [eX (hik ▸ e14), mY] at hs
 refine nE (aa (ae (v := (.bool (true))) rfl) (nR (bI (v := (.bool (true))) Tryz.results45 rfl (⟨_, rfl, ?_⟩))))
 refine aa (eO (b := true) (v := (.bool (true))) (cB c7) rfl) (aa (ae (v := (.bool (true))) rfl) (nR (bI (v := (.bool (true))) Tryz.results24 rfl ?_)))
 obtain rfl := gK hs
 exact ⟨h.grown, rfl⟩
 refine qc rfl (cB c7) rfl (qc rfl (cB c7) rfl (qc rfl (cB c7) rfl (qc rfl (cB c7) rfl (qc rfl (cB c7) rfl (aa (eO (b := false) (v := (.bool (false))) (cB c7) rfl) (aa (ae (v := (.bool (false))) rfl) (nR (bI (v := (.bool (false))) Tryz.results24 rfl ?_))))))))
 obtain rfl := gK hs
 exact ⟨h.grown, rfl⟩
 refine qc rfl (cB c3) rfl (qc rfl (cB c3) rfl (qc rfl (cB c3) rfl (qc rfl (cB c3) rfl (qc rfl (cB c3) rfl (aa (eO (b := false) (v := (.bool (false))) (cB c3) rfl) (aa (ag (v := (.bool (false))) rfl) (lG (b' := false) rfl rfl rfl (lG (b' := false) rfl rfl rfl (lG (b' := false) rfl rfl rfl (lG (b' := false) rfl rfl rfl (lG (b' := false) rfl rfl rfl (aa (eO (b := false) (v := (.bool (false))) rfl rfl) (aa (ae (v := (.bool (false))) rfl) (nR (bI (v := (.bool (false))) Tryz.results24 rfl ?_)))))))))))))))
 obtain rfl := gK hs
 exact ⟨h.grown, rfl⟩
def kL (a : Val) (b : Int) (x2 : Bool) : Int :=
  bif x2 then 4 else bif (decide ((a.kind : Int) = 1) && (!(ed a.n))) then 3 else bif (decide ((a.kind : Int) = 2) && (!(aF a.n b))) then 5 else 0
def bF (a : Val) (b : Int) : Int :=
  bif (!(aI a.kind 0 2)) then kL a b (!(aI a.kind 0 2)) else kL a b (decide ((a.kind : Int) = 0) && decide ((a.n : Int) ≠ 0))
theorem uj (w0 : World) (M : BS) (hM : ∀ b, M b → b < w0.heap.size) (a : Val) (b : Int) (r : Int) (hs : bF a b = r) :
    Calls Tryz.prog 56 #[(.agg #[(I6 a.kind), (I6 a.n)]), (I6 b)] w0 (fun e w' => Grow w0 w' ∧ e = .returned (.int .i64 r)) := by
 refine aL (args := [(.agg #[(I6 a.kind), (I6 a.n)]), (I6 b)]) Tryz.func56 rfl Tryz.ntmps56 (bH rfl) ?_
 have h := SH.init hM
 refine nG (l7 (cs := [(I6 a.kind), (I6 a.n)]) h 1 rfl rfl fun w b1 h => aa (ae (v := (I6 0)) rfl) (nN (aJ (aH (dm (σ := Bool) (inl (rg 5 13)) (fun x2 => [(5, (.bool (x2)))]) (fun x2 w => SH w0 M BE w (hset [(1, .blk b1 [(I6 a.kind), (I6 a.n)])]) ∧ kL a b x2 = r) ?_ ?_)))))
 rintro x2 w dC ⟨h, hs⟩
 refine aK hs rfl (fun c3 hs => ?_) (fun c3 hs => ?_)
 refine nG (aa (ae (v := (I6 4)) rfl) (nR (aD (ax (bI (v := (I6 4)) Tryz.results56 rfl ?_)))))
 obtain rfl := hs
 exact ⟨h.grown, rfl⟩
 refine nG (aa (ah rV rfl) (aa (aB h 1 rfl aP rfl rfl) (aa (bW rfl rfl) (aa (ag (v := (.bool (decide ((a.kind : Int) = 1)))) rfl) (az rfl rfl (fun q => ah jF rfl) (az rfl rfl (fun q => aB h 1 rfl aP (dE q) rfl) (vv rfl rfl LK rfl (fun q => iB (dE q) rfl) (qR _ _ h.lt a.n _ rfl) fun w k4 => ?_)))))))
 replace h := h.grow k4
 refine az rfl rfl (fun q => dU (dE q)) (aa (fB rfl rfl lW) (aa (ae (v := (.bool ((decide ((a.kind : Int) = 1) && (!(ed a.n)))))) rfl) (nN (aK hs rfl (fun c5 hs => ?_) (fun c5 hs => ?_)))))
 refine nG (aa (ae (v := (I6 3)) rfl) (nR (aD (ax (bI (v := (I6 3)) Tryz.results56 rfl ?_)))))
 obtain rfl := hs
 exact ⟨h.grown, rfl⟩
 refine nG (aa (ah rV rfl) (aa (aB h 1 rfl aP rfl rfl) (aa (bW rfl rfl) (aa (ag (v := (.bool (decide ((a.kind : Int) = 2)))) rfl) (az rfl rfl (fun q => ah jF rfl) (az rfl rfl (fun q => aB h 1 rfl aP (dE q) rfl) (az rfl rfl (fun q => ag (v := (I6 b)) rfl) (vv rfl rfl yK rfl (fun q => iB (dE q) (iB (dE q) rfl)) (fG _ _ h.lt a.n b _ rfl) fun w k6 => ?_))))))))
 replace h := h.grow k6
 refine az rfl rfl (fun q => dU (dE q)) (aa (fB rfl rfl lW) (aa (ae (v := (.bool ((decide ((a.kind : Int) = 2) && (!(aF a.n b)))))) rfl) (nN (aK hs rfl (fun c7 hs => ?_) (fun c7 hs => ?_)))))
 refine nG (aa (ae (v := (I6 5)) rfl) (nR (aD (ax (bI (v := (I6 5)) Tryz.results56 rfl ?_)))))
 obtain rfl := hs
 exact ⟨h.grown, rfl⟩
 refine aG (au (aj (nG (aa (ae (v := (I6 0)) rfl) (nR (bI (v := (I6 0)) Tryz.results56 rfl ?_))))))
 obtain rfl := hs
 exact ⟨h.grown, rfl⟩
 refine nG (aa (ah rV rfl) (aa (aB h 1 rfl aP rfl rfl) (aO pU rfl rfl (dD _ _ h.lt a.kind 0 2 _ rfl) ?_)))
 rintro _ w ⟨k8, rfl⟩
 refine ⟨_, rfl, ?_⟩
 replace h := h.grow k8
 refine aa (dU rfl) (aa (ae (v := (.bool ((!(aI a.kind 0 2))))) rfl) (nN (aK hs rfl (fun c9 hs => ?_) (fun c9 hs => ?_))))
 refine aG (ak ?_)
 exact cO (!(aI a.kind 0 2)) ⟨h.cn _, hs⟩
 refine ay (aa (ah rV rfl) (aa (aB h 1 rfl aP rfl rfl) (aa (bW rfl rfl) (aa (ag (v := (.bool (decide ((a.kind : Int) = 0)))) rfl) (az rfl rfl (fun q => ah jF rfl) (az rfl rfl (fun q => aB h 1 rfl aP (dE q) rfl) (az rfl rfl (fun q => gV (dE q) rfl) (aa (fB rfl rfl lW) (aa (ae (v := (.bool ((decide ((a.kind : Int) = 0) && decide ((a.n : Int) ≠ 0))))) rfl) (aC (ak ?_)))))))))))
 exact cO (decide ((a.kind : Int) = 0) && decide ((a.n : Int) ≠ 0)) ⟨h.cn _, hs⟩
def ic (a : List (List Val)) (x20 : Val) (s : Unit) (UR : Unit → Int) : Int :=
  bif decide (((bF x20 (a.length : Int)) : Int) ≠ 0) then (bF x20 (a.length : Int)) else UR ()
def ig (D5 : Unit → Int) (s : Unit) : Int :=
  D5 ()
def ik (a : List (List Val)) (x4 : List Val) (s : Unit) (D5 : Unit → Int) : Int :=
  bif (!(aI (x4.length : Int) 1 4)) then 2 else each (ic a) (ig D5) x4 ()
def il (s : Unit) : Int :=
  0
def fA (a : List (List Val)) : Int :=
  bif decide ((24 : Int) < (a.length : Int)) then 2 else each (ik a) il a ()
theorem zO (w0 : World) (M : BS) (hM : ∀ b, M b → b < w0.heap.size) (va : Value) (a : List (List Val)) (ha : fK (kW aY) w0 BE M va a) (r : Int) (hs : fA a = r) :
    Calls Tryz.prog 54 #[va] w0 (fun e w' => Grow w0 w' ∧ e = .returned (.int .i64 r)) := by
 refine aL (args := [va]) Tryz.func54 rfl Tryz.ntmps54 (bH rfl) ?_
 have h := SH.init hM
 replace h := h.eu 1 ha aT
 have tQ := ha.bD
 refine nG (aa (ae (v := (I6 0)) rfl) (nK (aa (ag (v := va) rfl) (aa (aX dO rfl (h.fQ 1 rfl)) (aa (jK rfl rfl) (nN (aK hs rfl (fun c1 hs => ?_) (fun c1 hs => ?_))))))))
 refine nG (aa (ae (v := (I6 2)) rfl) (nR (ax (bI (v := (I6 2)) Tryz.results54 rfl ?_))))
 obtain rfl := hs
 exact ⟨h.grown, rfl⟩
 refine aG (aj (aJ (nG (aa (ag (v := va) rfl) (aa (aX dO rfl (h.fQ 1 rfl)) (aa (ag (v := (I6 0)) rfl) (nN (aH (eF (σ := Nat × Int) (inl ([2, 4, 6, 7] ++ rg 13 23)) (fun ⟨k2, i3⟩ => [(13, (I6 i3))]) (fun ⟨k2, i3⟩ w => SH w0 M BE w (hset [(1, .sr (kW aY) va a)]) ∧ i3 = (k2 : Int) ∧ each (ik a) il (a.drop k2) () = r) (fun ⟨k2, i3⟩ => a.length - k2) ⟨0, 0⟩ ⟨rfl, trivial⟩ ?_ ?_)))))))))
 exact ⟨h.cn _, rfl, hs⟩
 rintro ⟨k2, i3⟩ w dC ⟨h, hik, hs⟩
 refine nG ?_
 refine aa (dK rfl rfl) (nN ?_)
 refine aJ (fD rfl (fun e7 => ?_) (fun e7 => ?_))
 refine aG (aj ?_)
 obtain ⟨x4, Xd, Xe⟩ := eU (hik ▸ e7)
 rw [Xe, df] at hs
 generalize D6 : each (ik a) il (a.drop (k2 + 1)) = D5 at hs
 have OZ := eZ ((h.fQ 1 rfl)).bD hik e7
 refine aJ (aH (nG ?_))
 obtain ⟨b10, o11, Xf, h, Xg, i9⟩ := h.vo 1 2 rfl dO rfl (gB hik) (eY hik Xd)
 obtain ⟨G5, rfl, g15⟩ := Xg
 replace h := h.bK 3 g15.up
 refine aa (i9 _ _ _ _ _ _ _ _ _ rfl rfl) (aa (eQ (k := 0) h 2 rfl kr rfl rfl) (aa (ae (v := G5) rfl) (nK (aa (ag (v := G5) rfl) (aa (aX di rfl (h.lF 3 rfl)) (aO pU rfl rfl (dD _ _ h.lt (x4.length : Int) 1 4 _ rfl) ?_))))))
 rintro _ w ⟨k16, rfl⟩
 refine ⟨_, rfl, ?_⟩
 replace h := h.grow k16
 refine aa (dU rfl) (nN (aK hs rfl (fun c17 hs => ?_) (fun c17 hs => ?_)))
 refine nG (aa (ae (v := (I6 2)) rfl) (nR (ax (aD (ax (ax (aD (ax (bI (v := (I6 2)) Tryz.results54 rfl ?_)))))))))
 obtain rfl := hs
 exact ⟨h.grown, rfl⟩
 refine nS (aa (ag (v := G5) rfl) (aa (aX di rfl (h.lF 3 rfl)) (aa (ag (v := (I6 0)) rfl) (nN (aH (eF (σ := Nat × Int) (inl ([2, 6, 7] ++ rg 23 12)) (fun ⟨k18, i19⟩ => [(23, (I6 i19))]) (fun ⟨k18, i19⟩ w => SH w0 M BE w (hset [(1, .sr (kW aY) va a), (3, .rd aY G5 x4)]) ∧ i19 = (k18 : Int) ∧ each (ic a) (ig D5) (x4.drop k18) () = r) (fun ⟨k18, i19⟩ => x4.length - k18) ⟨0, 0⟩ ⟨rfl, trivial⟩ ?_ ?_))))))
 exact ⟨h.cn _, rfl, hs⟩
 rintro ⟨k18, i19⟩ w dC ⟨h, hik, hs⟩
 refine nG ?_
 refine aa (dK rfl rfl) (nN ?_)
 refine aJ (fD rfl (fun e23 => ?_) (fun e23 => ?_))
 refine aG (aj ?_)
 obtain ⟨x20, Z5, Z6⟩ := eU (hik ▸ e23)
 rw [Z6, df] at hs
 generalize UT : each (ic a) (ig D5) (x4.drop (k18 + 1)) = UR at hs
 have Z7 := eZ ((h.lF 3 rfl)).bD hik e23
 refine aJ (aH (nG ?_))
 obtain ⟨ZB, o27, Xr, h, Xt, i25⟩ := h.FH 3 4 rfl di rfl (gB hik) (eY hik Z5)
 obtain rfl := Xt
 refine aa (i25 _ _ _ _ _ _ _ _ _ rfl rfl) (aa (iD (k := 0) (vs := [(I6 x20.kind), (I6 x20.n)]) h 4 rfl dR rfl rfl rfl (bH rfl)) (bu h 5 dR fun w b30 h => dN (vs := [(I6 x20.kind), (I6 x20.n)]) h 5 [(I6 x20.kind), (I6 x20.n)] rfl dR rfl rfl rfl rfl rfl (ai rfl (ai rfl aS)) fun w h => nJ (aa (eB (vs := [(I6 x20.kind), (I6 x20.n)]) h 5 rfl dR rfl rfl rfl) (aa (ag (v := va) rfl) (aa (aX dO rfl (h.fQ 1 rfl)) (aO TV rfl rfl (uj _ _ h.lt x20 (a.length : Int) _ rfl) ?_))))))
 rintro _ w ⟨k31, rfl⟩
 refine ⟨_, rfl, ?_⟩
 replace h := h.grow k31
 refine aa (ae (v := (I6 ((bF x20 (a.length : Int))))) rfl) (nJ (aa (ag (v := (I6 ((bF x20 (a.length : Int))))) rfl) (aa (gV rfl rfl) (nN (aK hs rfl (fun c32 hs => ?_) (fun c32 hs => ?_))))))
 refine nG (aa (ag (v := (I6 ((bF x20 (a.length : Int))))) rfl) (aa (ae (v := (I6 ((bF x20 (a.length : Int))))) rfl) (nR (aD (ax (ax (aD (aD (ax (ax (aD (ax (bI (v := (I6 ((bF x20 (a.length : Int))))) Tryz.results54 rfl ?_)))))))))))))
 obtain rfl := hs
 exact ⟨h.grown, rfl⟩
 refine aG (au (aj (ay (aa (dz rfl rfl Z7) (aa (ag (v := (I6 ((i19 + 1)))) rfl) (aC (ak ?_)))))))
 subst UT
 exact iw ⟨k18 + 1, i19 + 1⟩ ⟨h.cn _, by omega, hs⟩ (by have := kQ e23; dsimp only; omega)
 rw [eX (hik ▸ e23), dZ] at hs
 refine iI (bC (bC (dV (au (aj (ay (aa (dz rfl rfl OZ) (aa (ag (v := (I6 ((i3 + 1)))) rfl) (aC (ak ?_))))))))))
 subst D6
 exact iw ⟨k2 + 1, i3 + 1⟩ ⟨h.cn _, by omega, hs⟩ (by have := kQ e7; dsimp only; omega)
 rw [eX (hik ▸ e7), dZ] at hs
 refine nE (aa (ae (v := (I6 0)) rfl) (nR (bI (v := (I6 0)) Tryz.results54 rfl ?_)))
 obtain rfl := hs
 exact ⟨h.grown, rfl⟩
def jo (b : LX.State) (ym : Val) (s : Unit) (Vl : Unit → Option Int) : Option Int :=
  bif decide (((bF ym (b.cells.length : Int)) : Int) ≠ 0) then some (bF ym (b.cells.length : Int)) else Vl ()
def jq (F7 : Int → Option Int) (vJ : LX.Frame) (s : Unit) : Option Int :=
  F7 (vJ.regs.length : Int)
def fZ (a : List cz) (vJ : LX.Frame) (b : LX.State) (F7 : Int → Option Int) (x30 : Bool) : Option Int :=
  bif x30 then some 3 else (idx a vJ.proc).bind fun x32 => bif decide (((vJ.regs.length : Int) : Int) ≠ x32.regs) then some 4 else each (jo b) (jq F7 vJ) vJ.regs ()
def eP (a : List cz) (b : LX.State) (vJ : LX.Frame) (FJ : Int) (F7 : Int → Option Int) : Option Int :=
  bif (!(aF vJ.proc (a.length : Int))) then some 5 else (idx a vJ.proc).bind fun CR => bif (!(aF vJ.at_ (CR.code.length : Int))) then fZ a vJ b F7 true else fZ a vJ b F7 (!(aF vJ.ja FJ))
def gm (FJ : Int) : Option Int :=
  some 0
def gN (a : List cz) (b : LX.State) : Option Int :=
  bif ((!(aI b.status 0 3)) || (!(ed b.bB))) then some 3 else bif (((decide ((b.bB : Int) ≠ 0) && decide ((b.status : Int) ≠ 3)) || (decide ((b.status : Int) = 1) && decide ((0 : Int) < (b.frames.length : Int)))) || (decide ((b.status : Int) ≠ 1) && decide (((b.frames.length : Int) : Int) = 0))) then some 4 else bif decide ((10 : Int) < (b.frames.length : Int)) then some 2 else bif decide (((fA b.cells) : Int) ≠ 0) then some (fA b.cells) else each (eP a b) gm b.frames 1
theorem uk (w0 : World) (M : BS) (hM : ∀ b, M b → b < w0.heap.size) (va : Value) (a : List cz) (ha : fK jE w0 BE M va a) (b : LX.State) (vb0 vb1 : Value) (hb0 : fK dM w0 BE M vb0 b.frames) (hb1 : fK (kW aY) w0 BE M vb1 b.cells) (r : Int) (hs : gN a b = some r) :
    Calls Tryz.prog 22 #[va, (.agg #[vb0, vb1, (I6 b.status), (I6 b.bB)])] w0 (fun e w' => Grow w0 w' ∧ e = .returned (.int .i64 r)) := by
 refine aL (args := [va, (.agg #[vb0, vb1, (I6 b.status), (I6 b.bB)])]) Tryz.func22 rfl Tryz.ntmps22 (bH rfl) ?_
 have h := SH.init hM
 replace h := h.eu 1 ha aT
 replace h := h.eu 2 hb0 (aW aT)
 replace h := h.eu 3 hb1 (aW (aW aT))
 have tQ := ha.bD
 refine nG (l7 (cs := [vb0, vb1, (I6 b.status), (I6 b.bB)]) h 4 rfl rfl fun w b1 h => aa (ae (v := (I6 0)) rfl) (nK (aa (ah qI rfl) (aa (aB h 4 rfl aP rfl rfl) (aO pU rfl rfl (dD _ _ h.lt b.status 0 3 _ rfl) ?_)))))
 rintro _ w ⟨k2, rfl⟩
 refine ⟨_, rfl, ?_⟩
 replace h := h.grow k2
 refine aa (dU rfl) (aa (ag (v := (.bool ((!(aI b.status 0 3))))) rfl) (az rfl rfl (fun q => ah sZ rfl) (az rfl rfl (fun q => aB h 4 rfl aP (dE q) rfl) (vv rfl rfl LK rfl (fun q => iB (dE q) rfl) (qR _ _ h.lt b.bB _ rfl) fun w k3 => ?_))))
 replace h := h.grow k3
 refine az rfl rfl (fun q => dU (dE q)) (aa (iO rfl rfl lW) (nN (aK hs rfl (fun c4 hs => ?_) (fun c4 hs => ?_))))
 refine nG (aa (ae (v := (I6 3)) rfl) (nR (ax (bI (v := (I6 3)) Tryz.results22 rfl ?_))))
 obtain rfl := gK hs
 exact ⟨h.grown, rfl⟩
 refine aG (aj (aJ (nG (aa (ah sZ rfl) (aa (aB h 4 rfl aP rfl rfl) (aa (gV rfl rfl) (aa (ag (v := (.bool (decide ((b.bB : Int) ≠ 0)))) rfl) (az rfl rfl (fun q => ah qI rfl) (az rfl rfl (fun q => aB h 4 rfl aP (dE q) rfl) (az rfl rfl (fun q => gV (dE q) rfl) (aa (fB rfl rfl lW) (aa (ag (v := (.bool ((decide ((b.bB : Int) ≠ 0) && decide ((b.status : Int) ≠ 3))))) rfl) (az rfl rfl (fun q => ah qI rfl) (az rfl rfl (fun q => aB h 4 rfl aP (dE q) rfl) (az rfl rfl (fun q => bW (dE q) rfl) (az rfl rfl (fun q => ag (v := (.bool (decide ((b.status : Int) = 1)))) (dE q)) (kN ((decide ((b.bB : Int) ≠ 0) && decide ((b.status : Int) ≠ 3)) == false) rfl rfl (fun q => ah gQ rfl) (kN ((decide ((b.bB : Int) ≠ 0) && decide ((b.status : Int) ≠ 3)) == false) rfl rfl (fun q => aB h 4 rfl lJ (dE q) rfl) (kN ((decide ((b.bB : Int) ≠ 0) && decide ((b.status : Int) ≠ 3)) == false) rfl rfl (fun q => aX dI (dE q) (h.fQ 2 rfl)) (kN ((decide ((b.bB : Int) ≠ 0) && decide ((b.status : Int) ≠ 3)) == false) rfl rfl (fun q => jK (dE q) rfl) (az rfl rfl (fun q => fB (dE q) (Qo q) lW) (aa (iO rfl rfl lW) ?_))))))))))))))))))))))
 refine aa (ag (v := (.bool (((decide ((b.bB : Int) ≠ 0) && decide ((b.status : Int) ≠ 3)) || (decide ((b.status : Int) = 1) && decide ((0 : Int) < (b.frames.length : Int))))))) rfl) (az rfl rfl (fun q => ah qI rfl) (az rfl rfl (fun q => aB h 4 rfl aP (dE q) rfl) (az rfl rfl (fun q => gV (dE q) rfl) (az rfl rfl (fun q => ag (v := (.bool (decide ((b.status : Int) ≠ 1)))) (dE q)) (kN (((decide ((b.bB : Int) ≠ 0) && decide ((b.status : Int) ≠ 3)) || (decide ((b.status : Int) = 1) && decide ((0 : Int) < (b.frames.length : Int)))) == false) rfl rfl (fun q => ah gQ rfl) (kN (((decide ((b.bB : Int) ≠ 0) && decide ((b.status : Int) ≠ 3)) || (decide ((b.status : Int) = 1) && decide ((0 : Int) < (b.frames.length : Int)))) == false) rfl rfl (fun q => aB h 4 rfl lJ (dE q) rfl) (kN (((decide ((b.bB : Int) ≠ 0) && decide ((b.status : Int) ≠ 3)) || (decide ((b.status : Int) = 1) && decide ((0 : Int) < (b.frames.length : Int)))) == false) rfl rfl (fun q => aX dI (dE q) (h.fQ 2 rfl)) (kN (((decide ((b.bB : Int) ≠ 0) && decide ((b.status : Int) ≠ 3)) || (decide ((b.status : Int) = 1) && decide ((0 : Int) < (b.frames.length : Int)))) == false) rfl rfl (fun q => bW (dE q) rfl) (az rfl rfl (fun q => fB (dE q) (Qo q) lW) (aa (iO rfl rfl lW) (nN (aK hs rfl (fun c5 hs => ?_) (fun c5 hs => ?_)))))))))))))
 refine nG (aa (ae (v := (I6 4)) rfl) (nR (ax (bI (v := (I6 4)) Tryz.results22 rfl ?_))))
 obtain rfl := gK hs
 exact ⟨h.grown, rfl⟩
 refine aG (aj (aJ (nG (aa (ah gQ rfl) (aa (aB h 4 rfl lJ rfl rfl) (aa (aX dI rfl (h.fQ 2 rfl)) (aa (jK rfl rfl) (nN (aK hs rfl (fun c6 hs => ?_) (fun c6 hs => ?_))))))))))
 refine nG (aa (ae (v := (I6 2)) rfl) (nR (ax (bI (v := (I6 2)) Tryz.results22 rfl ?_))))
 obtain rfl := gK hs
 exact ⟨h.grown, rfl⟩
 refine aG (aj (aJ (nG (aa (ah gL rfl) (aa (aB h 4 rfl jL rfl rfl) (aO Zl rfl rfl (zO _ _ h.lt vb1 b.cells (h.fQ 3 rfl) _ rfl) ?_))))))
 rintro _ w ⟨k7, rfl⟩
 refine ⟨_, rfl, ?_⟩
 replace h := h.grow k7
 refine aa (ae (v := (I6 ((fA b.cells)))) rfl) (nJ (aa (ag (v := (I6 ((fA b.cells)))) rfl) (aa (gV rfl rfl) (nN (aK hs rfl (fun c8 hs => ?_) (fun c8 hs => ?_))))))
 refine nG (aa (ag (v := (I6 ((fA b.cells)))) rfl) (aa (ae (v := (I6 ((fA b.cells)))) rfl) (nR (ax (bI (v := (I6 ((fA b.cells)))) Tryz.results22 rfl ?_)))))
 obtain rfl := gK hs
 exact ⟨h.grown, rfl⟩
 refine nS (aa (ae (v := (I6 1)) rfl) (nK (aa (ah gQ rfl) (aa (aB h 4 rfl lJ rfl rfl) (aa (aX dI rfl (h.fQ 2 rfl)) (aa (ag (v := (I6 0)) rfl) (nN (aH (eF (σ := Nat × Int × Int) (inl ([4, 6, 8, 10, 11] ++ rg 65 56)) (fun ⟨k13, i14, FJ⟩ => [(6, (I6 FJ)), (65, (I6 i14))]) (fun ⟨k13, i14, FJ⟩ w => SH w0 M BE w (hset [(1, .sr jE va a), (2, .sr dM vb0 b.frames), (3, .sr (kW aY) vb1 b.cells), (4, .blk b1 [vb0, vb1, (I6 b.status), (I6 b.bB)])]) ∧ i14 = (k13 : Int) ∧ each (eP a b) gm (b.frames.drop k13) FJ = some r) (fun ⟨k13, i14, FJ⟩ => b.frames.length - k13) ⟨0, 0, 1⟩ ⟨rfl, rfl, trivial⟩ ?_ ?_)))))))))
 exact ⟨h.cn _, rfl, hs⟩
 rintro ⟨k13, i14, FJ⟩ w dC ⟨h, hik, hs⟩
 refine nG ?_
 refine aa (dK rfl rfl) (nN ?_)
 refine aJ (fD rfl (fun e18 => ?_) (fun e18 => ?_))
 refine aG (aj ?_)
 obtain ⟨vJ, e19a, e19b⟩ := eU (hik ▸ e18)
 rw [e19b, df] at hs
 generalize U1 : each (eP a b) gm (b.frames.drop (k13 + 1)) = F7 at hs
 have aac := eZ ((h.fQ 2 rfl)).bD hik e18
 refine aJ (aH (nG ?_))
 obtain ⟨Iy, o22, cs23, h, r24, i20⟩ := h.vo 2 5 rfl dI rfl (gB hik) (eY hik e19a)
 obtain ⟨u25, rfl, g26⟩ := mU r24
 replace h := h.bK 6 g26.up
 refine aa (i20 _ _ _ _ _ _ _ _ _ rfl rfl) (aa (iD (k := 0) (vs := [(I6 vJ.proc), (I6 vJ.at_), u25, (I6 vJ.ja)]) h 5 rfl fF rfl rfl rfl (bH rfl)) (bu h 7 fF fun w b27 h => dN (vs := [(I6 vJ.proc), (I6 vJ.at_), u25, (I6 vJ.ja)]) h 7 [(I6 vJ.proc), (I6 vJ.at_), u25, (I6 vJ.ja)] rfl fF rfl rfl rfl rfl rfl (ai rfl (ai rfl (ai (h.gy 6 rfl).one (ai rfl aS)))) fun w h => nK (aa (ah tq rfl) (aa (aB h 7 rfl aP rfl rfl) (aa (ag (v := va) rfl) (aa (aX iM rfl (h.fQ 1 rfl)) (aO yK rfl rfl (fG _ _ h.lt vJ.proc (a.length : Int) _ rfl) ?_)))))))
 rintro _ w ⟨k28, rfl⟩
 refine ⟨_, rfl, ?_⟩
 replace h := h.grow k28
 refine aa (dU rfl) (nN (aK hs rfl (fun c29 hs => ?_) (fun c29 hs => ?_)))
 refine nG (aa (ae (v := (I6 5)) rfl) (nR (ax (aD (ax (ax (aD (ax (bI (v := (I6 5)) Tryz.results22 rfl ?_)))))))))
 obtain rfl := gK hs
 exact ⟨h.grown, rfl⟩
 refine aG (aj (aJ (dm (σ := Bool) (inl (rg 75 18)) (fun x30 => [(92, (.bool (x30)))]) (fun x30 w => SH w0 M BE w (hset [(1, .sr jE va a), (2, .sr dM vb0 b.frames), (3, .sr (kW aY) vb1 b.cells), (4, .blk b1 [vb0, vb1, (I6 b.status), (I6 b.bB)]), (6, .rd aY u25 vJ.regs), (7, .blk b27 [(I6 vJ.proc), (I6 vJ.at_), u25, (I6 vJ.ja)])]) ∧ fZ a vJ b F7 x30 = some r) ?_ ?_)))
 rintro x30 w dC ⟨h, hs⟩
 refine aK hs rfl (fun c31 hs => ?_) (fun c31 hs => ?_)
 refine nG (aa (ae (v := (I6 3)) rfl) (nR (ax (aD (ax (ax (aD (ax (bI (v := (I6 3)) Tryz.results22 rfl ?_)))))))))
 obtain rfl := gK hs
 exact ⟨h.grown, rfl⟩
 refine aG (aj (aJ (nG (aa (ah ko rfl) (aa (aB h 7 rfl kr rfl rfl) (aa (aX di rfl (h.lF 6 rfl)) (aa (ae (v := (I6 ((vJ.regs.length : Int)))) rfl) (nJ (aa (ag (v := (I6 ((vJ.regs.length : Int)))) rfl) (aa (ag (v := va) rfl) (aa (ah tq rfl) (aa (aB h 7 rfl aP rfl rfl) ?_))))))))))))
 obtain ⟨x32, e33, hs⟩ := aM hs
 obtain ⟨b35, o36, cs37, h, r38, i34⟩ := h.vo 1 8 rfl iM rfl (aR e33).1 (aR e33).2
 obtain ⟨Mf, rfl, g40⟩ := pR r38
 replace h := h.bK 9 g40.up
 refine aa (i34 _ _ _ _ _ _ _ _ _ rfl rfl) (aa (ah wT rfl) (aa (eQ (k := 1) h 8 rfl aP rfl rfl) (aa (gV rfl rfl) (nN (aK hs rfl (fun Uf hs => ?_) (fun Uf hs => ?_))))))
 refine nG (aa (ae (v := (I6 4)) rfl) (nR (ax (aD (ax (ax (aD (ax (bI (v := (I6 4)) Tryz.results22 rfl ?_)))))))))
 obtain rfl := gK hs
 exact ⟨h.grown, rfl⟩
 refine nS (aa (ah ko rfl) (aa (aB h 7 rfl kr rfl rfl) (aa (aX di rfl (h.lF 6 rfl)) (aa (ag (v := (I6 0)) rfl) (nN (aH (eF (σ := Nat × Int) (inl ([4, 10, 11] ++ rg 107 13)) (fun ⟨JX, i43⟩ => [(107, (I6 i43))]) (fun ⟨JX, i43⟩ w => SH w0 M BE w (hset [(1, .sr jE va a), (2, .sr dM vb0 b.frames), (3, .sr (kW aY) vb1 b.cells), (4, .blk b1 [vb0, vb1, (I6 b.status), (I6 b.bB)]), (6, .rd aY u25 vJ.regs)]) ∧ i43 = (JX : Int) ∧ each (jo b) (jq F7 vJ) (vJ.regs.drop JX) () = some r) (fun ⟨JX, i43⟩ => vJ.regs.length - JX) ⟨0, 0⟩ ⟨rfl, trivial⟩ ?_ ?_)))))))
 exact ⟨h.cn _, rfl, hs⟩
 rintro ⟨JX, i43⟩ w dC ⟨h, hik, hs⟩
 refine nG ?_
 refine aa (dK rfl rfl) (nN ?_)
 refine aJ (fD rfl (fun e47 => ?_) (fun e47 => ?_))
 refine aG (aj ?_)
 obtain ⟨ym, UN, UO⟩ := eU (hik ▸ e47)
 rw [UO, df] at hs
 generalize Vm : each (jo b) (jq F7 vJ) (vJ.regs.drop (JX + 1)) = Vl at hs
 have e48r := eZ ((h.lF 6 rfl)).bD hik e47
 refine aJ (aH (nG ?_))
 obtain ⟨b50, o51, cs52, h, r53, i49⟩ := h.FH 6 10 rfl di rfl (gB hik) (eY hik UN)
 obtain rfl := r53
 refine aa (i49 _ _ _ _ _ _ _ _ _ rfl rfl) (aa (iD (k := 0) (vs := [(I6 ym.kind), (I6 ym.n)]) h 10 rfl dR rfl rfl rfl (bH rfl)) (bu h 11 dR fun w b54 h => dN (vs := [(I6 ym.kind), (I6 ym.n)]) h 11 [(I6 ym.kind), (I6 ym.n)] rfl dR rfl rfl rfl rfl rfl (ai rfl (ai rfl aS)) fun w h => nJ (aa (eB (vs := [(I6 ym.kind), (I6 ym.n)]) h 11 rfl dR rfl rfl rfl) (aa (ah gL rfl) (aa (aB h 4 rfl jL rfl rfl) (aa (aX dO rfl (h.fQ 3 rfl)) (aO TV rfl rfl (uj _ _ h.lt ym (b.cells.length : Int) _ rfl) ?_)))))))
 rintro _ w ⟨ZC, rfl⟩
 refine ⟨_, rfl, ?_⟩
 replace h := h.grow ZC
 refine aa (ae (v := (I6 ((bF ym (b.cells.length : Int))))) rfl) (nJ (aa (ag (v := (I6 ((bF ym (b.cells.length : Int))))) rfl) (aa (gV rfl rfl) (nN (aK hs rfl (fun c56 hs => ?_) (fun c56 hs => ?_))))))
 refine nG (aa (ag (v := (I6 ((bF ym (b.cells.length : Int))))) rfl) (aa (ae (v := (I6 ((bF ym (b.cells.length : Int))))) rfl) (nR (aD (ax (ax (aD (aD (ax (ax (aD (ax (bI (v := (I6 ((bF ym (b.cells.length : Int))))) Tryz.results22 rfl ?_)))))))))))))
 obtain rfl := gK hs
 exact ⟨h.grown, rfl⟩
 refine aG (au (aj (ay (aa (dz rfl rfl e48r) (aa (ag (v := (I6 ((i43 + 1)))) rfl) (aC (ak ?_)))))))
 subst Vm
 exact iw ⟨JX + 1, i43 + 1⟩ ⟨h.cn _, by omega, hs⟩ (by have := kQ e47; dsimp only; omega)
 rw [eX (hik ▸ e47), dZ] at hs
 refine iI (bC (bC (dV (au (aj (ay (aa (dz rfl rfl aac) (aa (ag (v := (I6 ((i14 + 1)))) rfl) (aC (ak ?_))))))))))
 subst U1
 exact iw ⟨k13 + 1, i14 + 1, (vJ.regs.length : Int)⟩ ⟨h.cn _, by omega, hs⟩ (by have := kQ e18; dsimp only; omega)
 refine EK mixed h fun w h => ni 0 (aQ.refl BE _) rfl aA (by kernel_rfl) (by kernel_rfl) (by kernel_rfl) (fun w hk => ah vD rfl) (ni 1 (aQ.refl BE _) rfl aA (by kernel_rfl) (by kernel_rfl) (by kernel_rfl) (fun w hk => have h := h.grow hk; aB h 7 rfl aP rfl rfl) (ni 2 (aQ.refl BE _) rfl aA (by kernel_rfl) (by kernel_rfl) (by kernel_rfl) (fun w hk => ag (v := va) rfl) (ni 3 (aQ.refl BE _) rfl aA (by kernel_rfl) (by kernel_rfl) (by kernel_rfl) (fun w hk => ah tq rfl) (ni 4 (aQ.refl BE _) rfl aA (by kernel_rfl) (by kernel_rfl) (by kernel_rfl) (fun w hk => have h := h.grow hk; aB h 7 rfl aP rfl rfl) ?_))))
 obtain ⟨CR, NM, hs⟩ := aM hs
 obtain ⟨bq57x5_4, oq57x5_5, csq57x5_6, h, Vo, Vp⟩ := h.vo 1 72 rfl iM rfl (aR NM).1 (aR NM).2
 obtain ⟨uq57x5_8, rfl, Vq⟩ := pR Vo
 replace h := h.bK 73 Vq.up
 refine ni 5 (aQ.refl BE _) rfl aA (by kernel_rfl) (by kernel_rfl) (by kernel_rfl) (fun w hk => Vp _ _ _ _ _ _ _ _ _ rfl rfl) (ni 6 (aQ.refl BE _) rfl aA (by kernel_rfl) (by kernel_rfl) (by kernel_rfl) (fun w hk => ah qJ rfl) (ni 7 (aQ.refl BE _) rfl aA (by kernel_rfl) (by kernel_rfl) (by kernel_rfl) (fun w hk => have h := h.grow hk; eQ (k := 2) h 72 rfl yM rfl rfl) (ni 8 (aQ.refl BE _) rfl aA (by kernel_rfl) (by kernel_rfl) (by kernel_rfl) (fun w hk => aX iU rfl (h.lF 73 rfl)) ?_)))
 obtain ⟨ws58, Yv⟩ : ∃ x, x = w := ⟨_, rfl⟩
 have Gc : Grow ws58 w := Yv ▸ aQ.refl BE w
 refine Kb Yv.symm (Bi 9 (by kernel_rfl) rfl aA (aO yK rfl rfl (fG _ _ h.lt vJ.at_ (CR.code.length : Int) _ rfl) ?_))
 rintro _ w ⟨NP, rfl⟩
 refine ⟨_, rfl, ?_⟩
 replace h := h.grow NP
 replace Gc := Gc.trans NP
 refine aC (yf Gc (zJ 10 Gc rfl (by kernel_rfl) (fun w hk => dU rfl) (zJ 11 Gc rfl (by kernel_rfl) (fun w hk => ag (v := (.bool ((!(aF vJ.at_ (CR.code.length : Int)))))) rfl) (jT (b := (!(aF vJ.at_ (CR.code.length : Int)))) hs (fun Fb hs => ?_) (fun Fb hs => ?_)))))
 refine EM 12 Gc rfl (Cj (b' := true) rfl (cB Fb) rfl) (by kernel_rfl) (by kernel_rfl) (by kernel_rfl) (EM 13 Gc rfl (Cj (b' := true) rfl (cB Fb) rfl) (by kernel_rfl) (by kernel_rfl) (by kernel_rfl) (EM 14 Gc rfl (Cj (b' := true) rfl (cB Fb) rfl) (by kernel_rfl) (by kernel_rfl) (by kernel_rfl) (EM 15 Gc rfl (Cj (b' := true) rfl (cB Fb) rfl) (by kernel_rfl) (by kernel_rfl) (by kernel_rfl) (EM 16 Gc rfl (Cj (b' := true) rfl (cB Fb) rfl) (by kernel_rfl) (by kernel_rfl) (by kernel_rfl) (zJ 17 Gc rfl (by kernel_rfl) (fun w hk => eO (b := true) (v := (.bool (true))) (cB Fb) rfl) (Da (by kernel_rfl) (ak ?_)))))))
 exact cO true ⟨h.cn _, hs⟩
 refine ni 12 Gc rfl (EL rfl (cB Fb)) (by kernel_rfl) (by kernel_rfl) (by kernel_rfl) (fun w hk => ah uw rfl) (Qq Gc ?_)
 obtain ⟨Py, NQ⟩ : ∃ x, x = w := ⟨_, rfl⟩
 have hgq57x13_2 : Grow Py w := NQ ▸ aQ.refl _ _
 refine ni 13 (aQ.refl BE _) rfl (EL rfl (cB Fb)) (by kernel_rfl) (by kernel_rfl) (by kernel_rfl) (fun w hk => have h := h.grow hk; aB h 7 rfl aP rfl rfl) (ni 14 (aQ.refl BE _) rfl (EL rfl (cB Fb)) (by kernel_rfl) (by kernel_rfl) (by kernel_rfl) (fun w hk => ag (v := (I6 FJ)) rfl) ?_)
 obtain ⟨ws61, Yw⟩ : ∃ x, x = w := ⟨_, rfl⟩
 have Vr : Grow ws61 w := Yw ▸ aQ.refl BE w
 refine Kb Yw.symm (Bi 15 (by kernel_rfl) rfl (EL rfl (cB Fb)) (aO yK rfl rfl (fG _ _ h.lt vJ.ja FJ _ rfl) ?_))
 rintro _ w ⟨Ky, rfl⟩
 refine ⟨_, rfl, ?_⟩
 replace h := h.grow Ky
 replace Vr := Vr.trans Ky
 refine aC (yf Vr (ni 16 Vr rfl (EL rfl (cB Fb)) (by kernel_rfl) (by kernel_rfl) (by kernel_rfl) (fun w hk => dU rfl) (zJ 17 Vr rfl (by kernel_rfl) (fun w hk => eO (b := false) (v := (.bool ((!(aF vJ.ja FJ))))) (cB Fb) rfl) (Da (by kernel_rfl) (ak ?_)))))
 exact cO (!(aF vJ.ja FJ)) ⟨h.cn _, hs⟩
 rw [eX (hik ▸ e18), dZ] at hs
 refine nE (aa (ae (v := (I6 0)) rfl) (nR (bI (v := (I6 0)) Tryz.results22 rfl ?_)))
 obtain rfl := gK hs
 exact ⟨h.grown, rfl⟩
def jD (a : List Int) (b : Int) (i2 : Int) (s : Unit) (GD : Unit → Option Int) : Option Int :=
  (idx a i2).bind fun x8 => bif decide ((b : Int) = x8) then some i2 else GD ()
def mf (s : Unit) : Option Int :=
  some (-1)
def slices_Index_int (a : List Int) (b : Int) : Option Int :=
  upto (jD a b) mf 0 ((a.length : Int)).toNat ()
theorem uG (w0 : World) (M : BS) (hM : ∀ b, M b → b < w0.heap.size) (va : Value) (a : List Int) (ha : fK dw w0 BE M va a) (b : Int) (r : Int) (hs : slices_Index_int a b = some r) :
    Calls Tryz.prog 68 #[va, (I6 b)] w0 (fun e w' => Grow w0 w' ∧ e = .returned (.int .i64 r)) := by
 refine aL (args := [va, (I6 b)]) Tryz.func68 rfl Tryz.ntmps68 (bH rfl) ?_
 have h := SH.init hM
 replace h := h.eu 1 ha aT
 have tQ := ha.bD
 refine nG (aa (ae (v := (I6 0)) rfl) (nK (aa (ag (v := va) rfl) (aa (aX bN rfl (h.fQ 1 rfl)) (aa (ag (v := (I6 0)) rfl) (nN (aH ?_)))))))
 have ZL := (h.fQ 1 rfl).bD
 refine eF (σ := Nat × Int) (inl ([4, 5] ++ rg 8 11)) (fun ⟨k1, i2⟩ => [(8, (I6 i2))]) (fun ⟨k1, i2⟩ w => SH w0 M BE w (hset [(1, .sr dw va a)]) ∧ i2 = (k1 : Int) ∧ upto (jD a b) mf i2 (((a.length : Int)).toNat - k1) () = some r) (fun ⟨k1, i2⟩ => ((a.length : Int)).toNat - k1) ⟨0, 0⟩ ⟨rfl, trivial⟩ ?_ ?_
 exact ⟨h.cn _, rfl, hs⟩
 rintro ⟨k1, i2⟩ w dC ⟨h, hik, hs⟩
 refine nG ?_
 refine aa (dK rfl rfl) (nN ?_)
 refine aJ (fD rfl (fun e6 => ?_) (fun e6 => ?_))
 refine aG (aj ?_)
 rw [lv (by have := kQ e6; omega)] at hs
 generalize Uh : upto (jD a b) mf (i2 + 1) (((a.length : Int)).toNat - (k1 + 1)) = GD at hs
 have e7r : jN (i2 + 1) := (by have := kQ e6; have := ZL; exact jN.mk (by omega) (by omega))
 refine aJ (aH (nG (aa (ag (v := (I6 i2)) rfl) (aa (ae (v := (I6 i2)) rfl) (nJ (aa (ag (v := (I6 b)) rfl) (aa (ag (v := va) rfl) (aa (ag (v := (I6 i2)) rfl) ?_))))))))
 obtain ⟨x8, e9, hs⟩ := aM hs
 obtain ⟨b11, o12, ZF, h, ZG, i10⟩ := h.vo 1 2 rfl bN rfl (aR e9).1 (aR e9).2
 obtain rfl := ZG
 refine aa (i10 _ _ _ _ _ _ _ _ _ rfl rfl) (aa (eQ (k := 0) h 2 rfl aP rfl rfl) (aa (bW rfl rfl) (nN (aK hs rfl (fun c15 hs => ?_) (fun c15 hs => ?_)))))
 refine nG (aa (ag (v := (I6 i2)) rfl) (aa (ae (v := (I6 i2)) rfl) (nR (aD (ax (ax (aD (ax (bI (v := (I6 i2)) Tryz.results68 rfl ?_)))))))))
 obtain rfl := gK hs
 exact ⟨h.grown, rfl⟩
 refine aG (au (aj (ay (aa (dz rfl rfl e7r) (aa (ag (v := (I6 ((i2 + 1)))) rfl) (aC (ak ?_)))))))
 subst Uh
 exact iw ⟨k1 + 1, i2 + 1⟩ ⟨h.cn _, by omega, hs⟩ (by have := kQ e6; dsimp only; omega)
 rw [lC (by have := of_decide_eq_false e6; omega)] at hs
 refine nE (aa (ae (v := (I6 (-1))) rfl) (nR (bI (v := (I6 (-1))) Tryz.results68 rfl ?_)))
 obtain rfl := gK hs
 exact ⟨h.grown, rfl⟩
def slices_Contains_int (a : List Int) (b : Int) : Option Bool :=
  (slices_Index_int a b).bind fun y1 => some (decide ((0 : Int) ≤ y1))
theorem Cb (w0 : World) (M : BS) (hM : ∀ b, M b → b < w0.heap.size) (va : Value) (a : List Int) (ha : fK dw w0 BE M va a) (b : Int) (r : Bool) (hs : slices_Contains_int a b = some r) :
    Calls Tryz.prog 92 #[va, (I6 b)] w0 (fun e w' => Grow w0 w' ∧ e = .returned (.bool r)) := by
 refine aL (args := [va, (I6 b)]) Tryz.func92 rfl Tryz.ntmps92 (bH rfl) ?_
 have h := SH.init hM
 replace h := h.eu 1 ha aT
 have tQ := ha.bD
 refine nG (aa (ae (v := (.bool (false))) rfl) (nJ (aa (ag (v := va) rfl) (aa (ag (v := (I6 b)) rfl) ?_))))
 obtain ⟨y1, e2, hs⟩ := aM hs
 refine aO OV rfl rfl (uG _ _ h.lt va a (h.fQ 1 rfl) b _ e2) ?_
 rintro _ w ⟨k3, rfl⟩
 refine ⟨_, rfl, ?_⟩
 replace h := h.grow k3
 refine aa (qE rfl rfl) (aa (ae (v := (.bool (decide ((0 : Int) ≤ y1)))) rfl) (nR (bI (v := (.bool (decide ((0 : Int) ≤ y1)))) Tryz.results92 rfl ?_)))
 obtain rfl := gK hs
 exact ⟨h.grown, rfl⟩
def pI (J3 : List Int → Option (List Int)) (x53 : List Int) : Option (List Int) :=
  J3 x53
def pJ (ym : List Int) (Ch : Val) (J3 : List Int → Option (List Int)) (FI : Bool) : Option (List Int) :=
  bif FI then iA (Room 8 ym [Ch.n]) (pI J3 (ym ++ [Ch.n])) else pI J3 ym
def jP (Ch : Val) (ym : List Int) (J3 : List Int → Option (List Int)) : Option (List Int) :=
  bif decide ((Ch.kind : Int) = 2) then (slices_Contains_int ym Ch.n).bind fun Oz => pJ ym Ch J3 (!Oz) else pJ ym Ch J3 false
def lK (Br : Int) (wF : (List Int × List Val × Int) → Option (List Int)) (qC : List Val) (ym : List Int) : Option (List Int) :=
  iA (jN (Br + 1)) (wF (ym, qC, (Br + 1)))
def lL (Br : Int) (wF : (List Int × List Val × Int) → Option (List Int)) (mZ : List Int) (qC : List Val) : Option (List Int) :=
  each jP (lK Br wF qC) qC mZ
def iF (a : List (List Val)) (s : List Int × List Val × Int) (wF : List Int × List Val × Int → Option (List Int)) : Option (List Int) :=
  match s with | (mZ, x25, Br) => bif decide ((Br : Int) < (mZ.length : Int)) then bif decide ((0 : Int) ≤ Br) then (idx mZ Br).bind fun x71 => (idx a x71).bind fun Ym => lL Br wF mZ Ym else lL Br wF mZ x25 else some mZ
def uA (N : Nat) (a : List (List Val)) (b : List Val) : Option (List Int) :=
  again (iF a) N ([], b, -1)
theorem Fj (N : Nat) (w0 : World) (M : BS) (hM : ∀ b, M b → b < w0.heap.size) (va : Value) (a : List (List Val)) (ha : fK (kW aY) w0 BE M va a) (vb : Value) (b : List Val) (hb : fK aY w0 BE M vb b) (r : List Int) (hs : uA N a b = some r) :
    Calls Tryz.prog 66 #[va, vb] w0 (fun e w' => Grow w0 w' ∧ ∃ u0, e = .returned (u0) ∧ fI dw 3 w' M u0 r ∧ (∀ b, ob u0 b → w0.heap.size ≤ b)) := by
 refine aL (args := [va, vb]) Tryz.func66 rfl Tryz.ntmps66 (bH rfl) ?_
 have h := SH.init hM
 replace h := h.eu 1 ha aT
 replace h := h.eu 2 hb (aW aT)
 have tQ := ha.bD
 have FU := hb.bD
 refine nG (aa (ae (v := (.slice none 0 0)) rfl) (nJ (aa (ae (v := (.slice none 0 0)) rfl) (nJ (aa (ag (v := vb) rfl) (aa (ae (v := vb) rfl) (nK (aa (ae (v := (I6 (-1))) rfl) (nN (aH ?_))))))))))
 replace h := h.uZ (R := dw) (E := 3) 11
 replace h := h.Tj 2 12 rfl
 refine eF (σ := Nat × Value × List Int × Value × List Val × Int) (inl ([5, 6, 7, 9] ++ rg 11 37)) (fun ⟨Vs, v22, mZ, v24, x25, Br⟩ => [(5, v22), (6, v24), (7, (I6 Br))]) (fun ⟨Vs, v22, mZ, v24, x25, Br⟩ w => SH w0 M BE w (hset [(1, .sr (kW aY) va a), (11, .own dw 3 v22 mZ), (12, .sr aY v24 x25)]) ∧ again (iF a) Vs (mZ, x25, Br) = some r) (fun ⟨Vs, v22, mZ, v24, x25, Br⟩ => Vs) ⟨N, (.slice none 0 0), [], vb, b, -1⟩ ⟨rfl, rfl, rfl, trivial⟩ ?_ ?_
 exact ⟨h.cn _, hs⟩
 rintro ⟨Vs, v22, mZ, v24, x25, Br⟩ w dC ⟨h, hs⟩
 obtain ⟨Vt, m30e, m30h⟩ := lQ hs
 subst m30e
 replace hs := m30h
 generalize Nb : again (iF a) Vt = wF at hs
 refine aJ (nG (aa (ag (v := (I6 Br)) rfl) (aa (ag (v := v22) rfl) (aa (aX bN rfl (h.dJ 11 rfl)) (aa (dK rfl rfl) (nN (aK hs rfl (fun c34 hs => ?_) (fun c34 hs => ?_))))))))
 refine aG (aj (aJ (aH (dm (σ := Value × List Val) (inl ([6] ++ rg 17 9)) (fun ⟨v35, qC⟩ => [(6, v35)]) (fun ⟨v35, qC⟩ w => SH w0 M BE w (hset [(1, .sr (kW aY) va a), (11, .own dw 3 v22 mZ), (13, .sr aY v35 qC)]) ∧ lL Br wF mZ qC = some r) ?_ ?_))))
 rintro ⟨v35, qC⟩ w dC ⟨h, hs⟩
 refine nG (aa (ag (v := v35) rfl) (aa (aX di rfl (h.fQ 13 rfl)) (aa (ag (v := (I6 0)) rfl) (nN (aH (eF (σ := Nat × Int × Value × List Int) (inl ([5, 9] ++ rg 28 20)) (fun ⟨SC, i46, v43, ym⟩ => [(5, v43), (28, (I6 i46))]) (fun ⟨SC, i46, v43, ym⟩ w => SH w0 M BE w (hset [(1, .sr (kW aY) va a), (11, .own dw 3 v43 ym), (13, .sr aY v35 qC)]) ∧ i46 = (SC : Int) ∧ each jP (lK Br wF qC) (qC.drop SC) ym = some r) (fun ⟨SC, i46, v43, ym⟩ => qC.length - SC) ⟨0, 0, v22, mZ⟩ ⟨rfl, rfl, trivial⟩ ?_ ?_))))))
 exact ⟨h.cn _, rfl, hs⟩
 rintro ⟨SC, i46, v43, ym⟩ w dC ⟨h, hik, hs⟩
 refine nG ?_
 refine aa (dK rfl rfl) (nN ?_)
 refine aJ (fD rfl (fun e50 => ?_) (fun e50 => ?_))
 refine aG (aj ?_)
 obtain ⟨Ch, e51a, e51b⟩ := eU (hik ▸ e50)
 rw [e51b, df] at hs
 generalize hnx49 : each jP (lK Br wF qC) (qC.drop (SC + 1)) = J3 at hs
 have e51r := eZ ((h.fQ 13 rfl)).bD hik e50
 refine dm (σ := Value × List Int) (inl ([5, 9] ++ rg 30 17)) (fun ⟨v52, x53⟩ => [(5, v52)]) (fun ⟨v52, x53⟩ w => SH w0 M BE w (hset [(1, .sr (kW aY) va a), (11, .own dw 3 v52 x53), (13, .sr aY v35 qC)]) ∧ pI J3 x53 = some r) ?_ ?_
 rintro ⟨v52, x53⟩ w dC ⟨h, hs⟩
 refine ay (aa (dz rfl rfl e51r) (aa (ag (v := (I6 ((i46 + 1)))) rfl) (aC (ak ?_))))
 subst hnx49
 exact iw ⟨SC + 1, i46 + 1, v52, x53⟩ ⟨h.cn _, by omega, hs⟩ (by have := kQ e50; dsimp only; omega)
 refine aH (nG ?_)
 obtain ⟨b55, o56, cs57, h, r58, i54⟩ := h.vo 13 14 rfl di rfl (gB hik) (eY hik e51a)
 obtain rfl := r58
 refine aa (i54 _ _ _ _ _ _ _ _ _ rfl rfl) (aa (iD (k := 0) (vs := [(I6 Ch.kind), (I6 Ch.n)]) h 14 rfl dR rfl rfl rfl (bH rfl)) (bu h 15 dR fun w b59 h => dN (vs := [(I6 Ch.kind), (I6 Ch.n)]) h 15 [(I6 Ch.kind), (I6 Ch.n)] rfl dR rfl rfl rfl rfl rfl (ai rfl (ai rfl aS)) fun w h => nN (dm (σ := Bool) (inl (rg 32 10)) (fun FI => [(41, (.bool (FI)))]) (fun FI w => SH w0 M BE w (hset [(1, .sr (kW aY) va a), (11, .own dw 3 v43 ym), (13, .sr aY v35 qC), (15, .blk b59 [(I6 Ch.kind), (I6 Ch.n)])]) ∧ pJ ym Ch J3 FI = some r) ?_ ?_)))
 rintro FI w dC ⟨h, hs⟩
 refine aK hs rfl (fun c61 hs => ?_) (fun c61 hs => ?_)
 refine ay (aa (ag (v := v43) rfl) (aa (ah jF rfl) (aa (aB h 15 rfl aP rfl rfl) (mX (R := dw) (vs := [(I6 Ch.n)]) (xs := [Ch.n]) h 16 fq rfl rfl rfl ⟨rfl, trivial⟩ rfl fun w Wo h => ?_))))
 obtain ⟨a63, hs⟩ := bE hs
 refine jb (R := dw) (m := [Ch.n]) h 11 rfl (h.dJ 16 rfl) fq rfl rfl rfl a63.1 a63.2 fun w u64 h => aa (ae (v := u64) rfl) (aC (au (ak ?_)))
 exact cO (u64, (ym ++ [Ch.n])) ⟨h.cn _, hs⟩
 refine aG (au (ak ?_))
 exact cO (v43, ym) ⟨h.cn _, hs⟩
 refine ay (aa (ah rV rfl) (aa (aB h 15 rfl aP rfl rfl) (aa (bW rfl rfl) (aa (ag (v := (.bool (decide ((Ch.kind : Int) = 2)))) rfl) (jT (b := decide ((Ch.kind : Int) = 2)) hs (fun LU hs => ?_) (fun LU hs => ?_))))))
 refine dx rfl (cB LU) (aa (ag (v := v43) rfl) (dx rfl (cB LU) (aa (ah jF rfl) (dx rfl (cB LU) (aa (aB h 15 rfl aP rfl rfl) (dx rfl (cB LU) ?_))))))
 obtain ⟨Oz, e67, hs⟩ := aM hs
 refine aO Zw rfl rfl (Cb _ _ h.lt v43 ym (h.dJ 11 rfl) Ch.n _ e67) ?_
 rintro _ w ⟨k68, rfl⟩
 refine ⟨_, rfl, ?_⟩
 replace h := h.grow k68
 refine dx rfl (cB LU) (aa (dU rfl) (aa (eO (b := true) (v := (.bool ((!Oz)))) (cB LU) rfl) (aC (ak ?_))))
 exact cO (!Oz) ⟨h.cn _, hs⟩
 refine qc rfl (cB LU) rfl (qc rfl (cB LU) rfl (qc rfl (cB LU) rfl (qc rfl (cB LU) rfl (qc rfl (cB LU) rfl (aa (eO (b := false) (v := (.bool (false))) (cB LU) rfl) (aC (ak ?_)))))))
 exact cO false ⟨h.cn _, hs⟩
 rw [eX (hik ▸ e50), dZ] at hs
 refine iI (bC (bC (dV (au (aj (ay (aa (ag (v := (I6 Br)) rfl) ?_)))))))
 obtain ⟨a69, hs⟩ := bE hs
 refine aa (dz rfl rfl a69) (aa (ae (v := (I6 ((Br + 1)))) rfl) (aC (ak ?_)))
 replace h := h.Tj 13 12 rfl
 subst Nb
 exact iw ⟨Vt, v43, ym, v35, qC, (Br + 1)⟩ ⟨h.cn _, hs⟩
 refine nG (aa (ag (v := (I6 Br)) rfl) (aa (qE rfl rfl) (nN (aK hs rfl (fun c70 hs => ?_) (fun c70 hs => ?_)))))
 refine ay (aa (ag (v := va) rfl) (aa (ag (v := v22) rfl) (aa (ag (v := (I6 Br)) rfl) ?_)))
 obtain ⟨x71, Xy, hs⟩ := aM hs
 obtain ⟨b74, q75, i73⟩ := h.FL 11 rfl bN rfl (aR Xy).1 (aR Xy).2
 refine aa (i73 _ _ _ _ _ _ _ _ _ rfl rfl) ?_
 obtain ⟨cs76, m77, r78⟩ := h.JU 11 rfl q75 (aR Xy).2
 obtain rfl := r78
 refine aa (zX (k := 0) m77 aP rfl rfl) ?_
 obtain ⟨Ym, Yn, hs⟩ := aM hs
 obtain ⟨b82, o83, cs84, h, r85, i81⟩ := h.vo 1 17 rfl dO rfl (aR Yn).1 (aR Yn).2
 obtain ⟨u86, rfl, g87⟩ := r85
 replace h := h.bK 18 g87.up
 refine aa (i81 _ _ _ _ _ _ _ _ _ rfl rfl) (aa (eQ (k := 0) h 17 rfl kr rfl rfl) (aa (ae (v := u86) rfl) (aC (ak ?_))))
 replace h := h.toSr 18 13 rfl
 exact cO (u86, Ym) ⟨h.cn _, hs⟩
 refine aG (ak ?_)
 replace h := h.Tj 12 13 rfl
 exact cO (v24, x25) ⟨h.cn _, hs⟩
 refine nE (aa (ag (v := v22) rfl) (aa (ae (v := v22) rfl) (nR (bI (v := v22) Tryz.results66 rfl ?_))))
 obtain rfl := gK hs
 exact ⟨h.grown, _, rfl, (h.mh 11 rfl).1, (h.mh 11 rfl).2⟩
def iV (RV : List Val) (xM : List (List Val)) (Iw : List (List Val) → Option LX.State) : Option LX.State :=
  iA (Room 16 ([] : List Val) RV) (iA (Room 24 xM [(([] : List Val) ++ RV)]) (Iw (xM ++ [(([] : List Val) ++ RV)])))
def jQ (Mg : List LX.Frame) (a : LX.State) (xM : List (List Val)) : Option LX.State :=
  some (⟨Mg, xM, a.status, a.bB⟩ : LX.State)
def iW (qW : LX.Frame) (Mg : List LX.Frame) (nx19 : List LX.Frame → Option LX.State) : Option LX.State :=
  iA (Room 16 ([] : List Val) qW.regs) (iA (Room 48 Mg [(⟨qW.proc, qW.at_, (([] : List Val) ++ qW.regs), qW.ja⟩ : LX.Frame)]) (nx19 (Mg ++ [(⟨qW.proc, qW.at_, (([] : List Val) ++ qW.regs), qW.ja⟩ : LX.Frame)])))
def iX (a : LX.State) (Mg : List LX.Frame) : Option LX.State :=
  each iV (jQ Mg a) a.cells []
def pK (a : LX.State) : Option LX.State :=
  each iW (iX a) a.frames []
theorem BH (w0 : World) (M : BS) (hM : ∀ b, M b → b < w0.heap.size) (a : LX.State) (rF rY : Value) (ha0 : fK dM w0 BE M rF a.frames) (ha1 : fK (kW aY) w0 BE M rY a.cells) (r : LX.State) (hs : pK a = some r) :
    Calls Tryz.prog 69 #[(.agg #[rF, rY, (I6 a.status), (I6 a.bB)])] w0 (fun e w' => Grow w0 w' ∧ ∃ tT, ∃ wG, ∃ zl, ∃ Eh, e = .returned (.agg #[tT, wG, .int .i64 r.status, .int .i64 r.bB]) ∧ Chunk.holds w' M (Chunk.own' ((cU tT wG r.frames zl r.cells Eh) : Chunk)) ((cU tT wG r.frames zl r.cells Eh) : Chunk) ∧ (∀ b, Chunk.own' ((cU tT wG r.frames zl r.cells Eh) : Chunk) b → w0.heap.size ≤ b)) := by
 refine aL (args := [(.agg #[rF, rY, (I6 a.status), (I6 a.bB)])]) Tryz.func69 rfl Tryz.ntmps69 (bH rfl) ?_
 have h := SH.init hM
 replace h := h.eu 1 ha0 aT
 replace h := h.eu 2 ha1 (aW aT)
 refine nG (l7 (cs := [rF, rY, (I6 a.status), (I6 a.bB)]) h 3 rfl rfl fun w b1 h => bu h 4 bM fun w b2 h => nJ (aa (ae (v := (.slice none 0 0)) rfl) (nK (aa (ah gQ rfl) (aa (aB h 3 rfl lJ rfl rfl) (aa (aX dI rfl (h.fQ 1 rfl)) (aa (ag (v := (I6 0)) rfl) (nN (aH ?_)))))))))
 replace h := h.uZ (R := fo.raw) (E := 49) 11
 replace h := h.Ls (R := aY) (Es := 51) 12
 refine eF (σ := Nat × Int × Value × List Value × List LX.Frame) (inl ([3, 5] ++ rg 12 14)) (fun ⟨k15, i16, v12, J4, Mg⟩ => [(3, v12), (12, (I6 i16))]) (fun ⟨k15, i16, v12, J4, Mg⟩ w => SH w0 M BE w (hset [(1, .sr dM rF a.frames), (2, .sr (kW aY) rY a.cells), (3, .blk b1 [rF, rY, (I6 a.status), (I6 a.bB)]), (4, .blk b2 [(.slice none 0 0), (.slice none 0 0), (I6 0), (I6 0)]), (11, .own fo.raw 49 v12 (List.zip Mg J4)), (12, .jv (fw aY 51 hn J4 (List.map fo.sub Mg)))]) ∧ i16 = (k15 : Int) ∧ each iW (iX a) (a.frames.drop k15) Mg = some r) (fun ⟨k15, i16, v12, J4, Mg⟩ => a.frames.length - k15) ⟨0, 0, (.slice none 0 0), ([] : List Value), []⟩ ⟨rfl, rfl, trivial⟩ ?_ ?_
 exact ⟨h.cn _, rfl, hs⟩
 rintro ⟨k15, i16, v12, J4, Mg⟩ w dC ⟨h, hik, hs⟩
 refine nG ?_
 refine aa (dK rfl rfl) (nN ?_)
 refine aJ (fD rfl (fun e20 => ?_) (fun e20 => ?_))
 refine aG (aj ?_)
 obtain ⟨qW, e21a, e21b⟩ := eU (hik ▸ e20)
 rw [e21b, df] at hs
 generalize hnx19 : each iW (iX a) (a.frames.drop (k15 + 1)) = nx19 at hs
 have e21r := eZ ((h.fQ 1 rfl)).bD hik e20
 refine aJ (aH (nG ?_))
 obtain ⟨Dl, o24, cs25, h, r26, i22⟩ := h.vo 1 13 rfl dI rfl (gB hik) (eY hik e21a)
 obtain ⟨u27, rfl, g28⟩ := mU r26
 replace h := h.bK 14 g28.up
 refine aa (i22 _ _ _ _ _ _ _ _ _ rfl rfl) (aa (iD (k := 0) (vs := [(I6 qW.proc), (I6 qW.at_), u27, (I6 qW.ja)]) h 13 rfl fF rfl rfl rfl (bH rfl)) (bu h 15 fF fun w b29 h => dN (vs := [(I6 qW.proc), (I6 qW.at_), u27, (I6 qW.ja)]) h 15 [(I6 qW.proc), (I6 qW.at_), u27, (I6 qW.ja)] rfl fF rfl rfl rfl rfl rfl (ai rfl (ai rfl (ai (h.gy 14 rfl).one (ai rfl aS)))) fun w h => nJ (mX (R := aY) (vs := []) (xs := ([] : List Val)) h 16 nk rfl rfl rfl trivial rfl fun w u30 h => aa (ah ko rfl) (aa (aB h 15 rfl kr rfl rfl) ?_))))
 obtain ⟨a31, hs⟩ := bE hs
 refine jb (R := aY) (m := qW.regs) h 16 rfl (h.lF 14 rfl) nk rfl rfl rfl a31.1 a31.2 fun w u32 h => aa (ah ko rfl) (dS h 15 [(I6 qW.proc), (I6 qW.at_), u32, (I6 qW.ja)] rfl kr rfl rfl rfl rfl (h.eD 16 rfl).one fun w h => nN (ay (aa (ag (v := v12) rfl) (aa (eB (vs := [(I6 qW.proc), (I6 qW.at_), u32, (I6 qW.ja)]) h 15 rfl fF rfl rfl rfl) ?_))))
 have u33o : (Value.oneCell' u32) = true := (h.eD 16 rfl).one
 refine mX (R := fo.raw) (vs := [(.agg #[(I6 qW.proc), (I6 qW.at_), u32, (I6 qW.ja)])]) (xs := List.zip [(⟨qW.proc, qW.at_, (([] : List Val) ++ qW.regs), qW.ja⟩ : LX.Frame)] [u32]) h 17 vC rfl rfl rfl ⟨⟨rfl, u33o⟩, trivial⟩ rfl fun w u33 h => ?_
 replace h := h.Hm (N := fo) 16 (⟨qW.proc, qW.at_, (([] : List Val) ++ qW.regs), qW.ja⟩ : LX.Frame) rfl rfl
 obtain ⟨a34, hs⟩ := bE hs
 have z36 := h.lq 12 rfl
 have z36b := h.lq 16 rfl
 refine jb (R := fo.raw) (m := List.zip [(⟨qW.proc, qW.at_, (([] : List Val) ++ qW.regs), qW.ja⟩ : LX.Frame)] [u32]) h 11 rfl (h.dJ 17 rfl) vC rfl rfl rfl (by rw [j4 z36, j4 z36b]; exact a34.1) (by rw [j4 z36, j4 z36b]; exact a34.2) fun w u35 h => ?_
 replace h := (h.Hg 12 16 rfl rfl (by decide)).ug 17
 rw [Hl z36, ← List.map_append] at h
 obtain ⟨us37, us37e⟩ : ∃ z, z = J4 ++ [u32] := ⟨_, rfl⟩
 rw [← us37e] at h
 refine aa (ae (v := u35) rfl) (aC (au (aj (ay (aa (dz rfl rfl e21r) (aa (ag (v := (I6 ((i16 + 1)))) rfl) (aC (ak ?_))))))))
 subst hnx19
 exact iw ⟨k15 + 1, i16 + 1, u35, us37, (Mg ++ [(⟨qW.proc, qW.at_, (([] : List Val) ++ qW.regs), qW.ja⟩ : LX.Frame)])⟩ ⟨h.cn _, by omega, hs⟩ (by have := kQ e20; dsimp only; omega)
 rw [eX (hik ▸ e20), dZ] at hs
 refine nE (aa (ae (v := (.slice none 0 0)) rfl) (nK (aa (ah gL rfl) (aa (aB h 3 rfl jL rfl rfl) (aa (aX dO rfl (h.fQ 2 rfl)) (aa (ag (v := (I6 0)) rfl) (nN (aH ?_))))))))
 replace h := h.uZ (R := (gW Val).raw) (E := 47) 24
 replace h := h.Ls (R := aY) (Es := 51) 25
 refine eF (σ := Nat × Int × Value × List Value × List (List Val)) (inl ([6, 8] ++ rg 29 11)) (fun ⟨QH, i51, v47, NR, xM⟩ => [(6, v47), (29, (I6 i51))]) (fun ⟨QH, i51, v47, NR, xM⟩ w => SH w0 M BE w (hset [(1, .sr dM rF a.frames), (2, .sr (kW aY) rY a.cells), (3, .blk b1 [rF, rY, (I6 a.status), (I6 a.bB)]), (4, .blk b2 [(.slice none 0 0), (.slice none 0 0), (I6 0), (I6 0)]), (11, .own fo.raw 49 v12 (List.zip Mg J4)), (12, .jv (fw aY 51 hn J4 (List.map fo.sub Mg))), (24, .own (gW Val).raw 47 v47 (List.zip xM NR)), (25, .jv (fw aY 51 hn NR (List.map (gW Val).sub xM)))]) ∧ i51 = (QH : Int) ∧ each iV (jQ Mg a) (a.cells.drop QH) xM = some r) (fun ⟨QH, i51, v47, NR, xM⟩ => a.cells.length - QH) ⟨0, 0, (.slice none 0 0), ([] : List Value), []⟩ ⟨rfl, rfl, trivial⟩ ?_ ?_
 exact ⟨h.cn _, rfl, hs⟩
 rintro ⟨QH, i51, v47, NR, xM⟩ w dC ⟨h, hik, hs⟩
 refine nG ?_
 refine aa (dK rfl rfl) (nN ?_)
 refine aJ (fD rfl (fun e55 => ?_) (fun e55 => ?_))
 refine aG (aj ?_)
 obtain ⟨RV, e56a, e56b⟩ := eU (hik ▸ e55)
 rw [e56b, df] at hs
 generalize Ug : each iV (jQ Mg a) (a.cells.drop (QH + 1)) = Iw at hs
 have e56r := eZ ((h.fQ 2 rfl)).bD hik e55
 refine aJ (aH (nG ?_))
 obtain ⟨b58, o59, cs60, h, r61, i57⟩ := h.vo 2 26 rfl dO rfl (gB hik) (eY hik e56a)
 obtain ⟨Wo, rfl, g63⟩ := r61
 replace h := h.bK 27 g63.up
 refine aa (i57 _ _ _ _ _ _ _ _ _ rfl rfl) (aa (eQ (k := 0) h 26 rfl kr rfl rfl) (aa (ae (v := Wo) rfl) (nN (ay (aa (ag (v := v47) rfl) (mX (R := aY) (vs := []) (xs := ([] : List Val)) h 28 nk rfl rfl rfl trivial rfl fun w u64 h => aa (ag (v := Wo) rfl) ?_))))))
 obtain ⟨a65, hs⟩ := bE hs
 refine jb (R := aY) (m := RV) h 28 rfl (h.lF 27 rfl) nk rfl rfl rfl a65.1 a65.2 fun w u66 h => ?_
 have u67o : (Value.oneCell' u66) = true := (h.eD 28 rfl).one
 refine mX (R := (gW Val).raw) (vs := [u66]) (xs := List.zip [(([] : List Val) ++ RV)] [u66]) h 29 jB rfl rfl rfl ⟨⟨mQ u67o, u67o⟩, trivial⟩ rfl fun w u67 h => ?_
 replace h := h.Hm (N := (gW Val)) 28 (([] : List Val) ++ RV) rfl rfl
 obtain ⟨a68, hs⟩ := bE hs
 have z70 := h.lq 25 rfl
 have z70b := h.lq 28 rfl
 refine jb (R := (gW Val).raw) (m := List.zip [(([] : List Val) ++ RV)] [u66]) h 24 rfl (h.dJ 29 rfl) jB rfl rfl rfl (by rw [j4 z70, j4 z70b]; exact a68.1) (by rw [j4 z70, j4 z70b]; exact a68.2) fun w u69 h => ?_
 replace h := (h.Hg 25 28 rfl rfl (by decide)).ug 29
 rw [Hl z70, ← List.map_append] at h
 obtain ⟨us71, us71e⟩ : ∃ z, z = NR ++ [u66] := ⟨_, rfl⟩
 rw [← us71e] at h
 refine aa (ae (v := u69) rfl) (aC (au (aj (ay (aa (dz rfl rfl e56r) (aa (ag (v := (I6 ((i51 + 1)))) rfl) (aC (ak ?_))))))))
 subst Ug
 exact iw ⟨QH + 1, i51 + 1, u69, us71, (xM ++ [(([] : List Val) ++ RV)])⟩ ⟨h.cn _, by omega, hs⟩ (by have := kQ e55; dsimp only; omega)
 rw [eX (hik ▸ e55), dZ] at hs
 refine nE (aa (ag (v := v12) rfl) (aa (ag (v := v47) rfl) (aa (ah gQ rfl) (dS h 3 [v12, rY, (I6 a.status), (I6 a.bB)] rfl lJ rfl rfl rfl rfl (h.eD 11 rfl).one fun w h => aa (ah gL rfl) (dS h 3 [v12, v47, (I6 a.status), (I6 a.bB)] rfl jL rfl rfl rfl rfl (h.eD 24 rfl).one fun w h => nJ (aa (eB (vs := [v12, v47, (I6 a.status), (I6 a.bB)]) h 3 rfl bM rfl rfl rfl) (dN (vs := [v12, v47, (I6 a.status), (I6 a.bB)]) h 4 [v12, v47, (I6 a.status), (I6 a.bB)] rfl bM rfl rfl rfl rfl rfl (ai (h.eD 11 rfl).one (ai (h.eD 24 rfl).one (ai rfl (ai rfl aS)))) fun w h => nR (Ki (vs := [v12, v47, (I6 a.status), (I6 a.bB)]) Tryz.results69 rfl h 4 rfl bM rfl ?_))))))))
 replace h := h.pair 11 12 (by decide)
 replace h := h.pair 11 24 (by decide)
 replace h := h.pair 11 25 (by decide)
 obtain rfl := gK hs
 obtain ⟨o1, o2, o3⟩ := h.zI 11 (C := (cU v12 v47 Mg J4 xM NR)) rfl ⟨⟨⟨trivial, trivial⟩, trivial⟩, trivial⟩
 exact ⟨o2, v12, v47, J4, NR, rfl, o1, EU o3⟩
def lU (a : Val) (y3 : Int) : Option Val :=
  some (⟨a.kind, y3⟩ : Val)
def pM (a : Val) (z0 : List Int) : Option Val :=
  bif decide ((a.kind : Int) = 2) then (slices_Index_int z0 a.n).bind fun y5 => lU a y5 else lU a a.n
theorem BI (w0 : World) (M : BS) (hM : ∀ b, M b → b < w0.heap.size) (a : Val) (vz0 : Value) (z0 : List Int) (hvz0 : fK dw w0 BE M vz0 z0) (q0 : Nat) (hq0 : ∃ E, w0.heap[q0]? = some (.cells #[vz0] E (0, 0))) (r : Val) (hs : pM a z0 = some r) :
    Calls Tryz.prog 67 #[(.agg #[(I6 a.kind), (I6 a.n)]), (.pointer (some ⟨q0, 0, none⟩))] w0 (fun e w' => Grow w0 w' ∧ e = .returned (.agg #[.int .i64 r.kind, .int .i64 r.n])) := by
 refine aL (args := [(.agg #[(I6 a.kind), (I6 a.n)]), (.pointer (some ⟨q0, 0, none⟩))]) Tryz.func67 rfl Tryz.ntmps67 (bH rfl) ?_
 have h := SH.init hM
 replace h := h.eu 1 hvz0 aT
 replace h := h.Ie 2 (cs := [vz0]) hq0 (aW aT)
 refine nG (l7 (cs := [(I6 a.kind), (I6 a.n)]) h 3 rfl rfl fun w b1 h => bu h 4 dR fun w b2 h => nN (dm (σ := Int) (inl (rg 4 8)) (fun y3 => []) (fun y3 w => SH w0 M BE w (hset [(3, .blk b1 [(I6 a.kind), (I6 y3)]), (4, .blk b2 [(I6 0), (I6 0)])]) ∧ lU a y3 = some r) ?_ ?_))
 rintro y3 w dC ⟨h, hs⟩
 refine nG (aa (eB (vs := [(I6 a.kind), (I6 y3)]) h 3 rfl dR rfl rfl rfl) (dN (vs := [(I6 a.kind), (I6 y3)]) h 4 [(I6 a.kind), (I6 y3)] rfl dR rfl rfl rfl rfl rfl (ai rfl (ai rfl aS)) fun w h => nR (Ki (vs := [(I6 a.kind), (I6 y3)]) Tryz.results67 rfl h 4 rfl dR rfl ?_)))
 obtain rfl := gK hs
 exact ⟨h.grown, rfl⟩
 refine nG (aa (ah rV rfl) (aa (aB h 3 rfl aP rfl rfl) (aa (bW rfl rfl) (nN (aK hs rfl (fun c4 hs => ?_) (fun c4 hs => ?_))))))
 refine ay (aa (eQ (k := 0) h 2 rfl jc rfl rfl) (aa (ah jF rfl) (aa (aB h 3 rfl aP rfl rfl) ?_)))
 obtain ⟨y5, e6, hs⟩ := aM hs
 refine aO OV rfl rfl (uG _ _ h.lt vz0 z0 (h.fQ 1 rfl) a.n _ e6) ?_
 rintro _ w ⟨k7, rfl⟩
 refine ⟨_, rfl, ?_⟩
 replace h := h.grow k7
 refine aa (ah jF rfl) (dS h 3 [(I6 a.kind), (I6 y5)] rfl aP rfl rfl rfl rfl rfl fun w h => aC (ak ?_))
 exact cO y5 ⟨h.cn _, hs⟩
 refine aG (ak ?_)
 exact cO a.n ⟨h.cn _, hs⟩
def kT (y28 : List Int) (i71 : Int) (x69 : List Val) (nx74 : List Val → Option LX.State) : Option LX.State :=
  (idx x69 i71).bind fun MH => (pM MH y28).bind fun Az => nx74 (x69.set (i71).toNat Az)
def oG (RX : List LX.Frame → Option LX.State) (sU : List LX.Frame) (i50 : Int) (Pz : LX.Frame) (x69 : List Val) : Option LX.State :=
  RX (sU.set (i50).toNat ({ Pz with regs := x69 }))
def mq (zP : List Val) (qi : Val) (Kz : List Val → Option LX.State) (y151 : Int) : Option LX.State :=
  iA (Room 16 zP [(⟨qi.kind, y151⟩ : Val)]) (Kz (zP ++ [(⟨qi.kind, y151⟩ : Val)]))
def iJ (y28 : List Int) (qi : Val) (zP : List Val) (Kz : List Val → Option LX.State) : Option LX.State :=
  bif decide ((qi.kind : Int) = 2) then (slices_Index_int y28 qi.n).bind fun Xz => mq zP qi Kz Xz else mq zP qi Kz qi.n
def mr (xm : List (List Val)) (KA : List (List Val) → Option LX.State) (zP : List Val) : Option LX.State :=
  iA (Room 24 xm [zP]) (KA (xm ++ [zP]))
def iK (y28 : List Int) (a : LX.State) (i105 : Int) (xm : List (List Val)) (KA : List (List Val) → Option LX.State) : Option LX.State :=
  (idx y28 i105).bind fun G7 => (idx a.cells G7).bind fun PD => each (iJ y28) (mr xm KA) PD []
def kD (sU : List LX.Frame) (lM : LX.State) (xm : List (List Val)) : Option LX.State :=
  some (⟨sU, xm, lM.status, lM.bB⟩ : LX.State)
def kE (y28 : List Int) (i50 : Int) (sU : List LX.Frame) (RX : List LX.Frame → Option LX.State) : Option LX.State :=
  (idx sU i50).bind fun Pz => upto (kT y28) (oG RX sU i50 Pz) 0 ((Pz.regs.length : Int)).toNat Pz.regs
def mD (y28 : List Int) (a : LX.State) (lM : LX.State) (sU : List LX.Frame) : Option LX.State :=
  upto (iK y28 a) (kD sU lM) 0 ((y28.length : Int)).toNat []
def jy (zx : LX.Frame) (xZ : List Val) (Ve : List Val → Option LX.State) : Option LX.State :=
  iA (Room 16 xZ zx.regs) (Ve (xZ ++ zx.regs))
def mE (N : Nat) (a : LX.State) (xZ : List Val) : Option LX.State :=
  (uA N a.cells xZ).bind fun y28 => (pK a).bind fun lM => upto (kE y28) (mD y28 a lM) 0 ((lM.frames.length : Int)).toNat lM.frames
def lV (N : Nat) (a : LX.State) : Option LX.State :=
  each jy (mE N a) a.frames []
theorem yc (N : Nat) (w0 : World) (M : BS) (hM : ∀ b, M b → b < w0.heap.size) (a : LX.State) (rF rY : Value) (ha0 : fK dM w0 BE M rF a.frames) (ha1 : fK (kW aY) w0 BE M rY a.cells) (r : LX.State) (hs : lV N a = some r) :
    Calls Tryz.prog 31 #[(.agg #[rF, rY, (I6 a.status), (I6 a.bB)])] w0 (fun e w' => Grow w0 w' ∧ ∃ tT, ∃ wG, ∃ zl, ∃ Eh, e = .returned (.agg #[tT, wG, .int .i64 r.status, .int .i64 r.bB]) ∧ Chunk.holds w' M (Chunk.own' ((cU tT wG r.frames zl r.cells Eh) : Chunk)) ((cU tT wG r.frames zl r.cells Eh) : Chunk) ∧ (∀ b, Chunk.own' ((cU tT wG r.frames zl r.cells Eh) : Chunk) b → w0.heap.size ≤ b)) := by
 refine aL (args := [(.agg #[rF, rY, (I6 a.status), (I6 a.bB)])]) Tryz.func31 rfl Tryz.ntmps31 (bH rfl) ?_
 have h := SH.init hM
 replace h := h.eu 1 ha0 aT
 replace h := h.eu 2 ha1 (aW aT)
 refine nG (l7 (cs := [rF, rY, (I6 a.status), (I6 a.bB)]) h 3 rfl rfl fun w b1 h => bu h 4 bM fun w b2 h => nJ (aa (ae (v := (.slice none 0 0)) rfl) (nK (aa (ah gQ rfl) (aa (aB h 3 rfl lJ rfl rfl) (aa (aX dI rfl (h.fQ 1 rfl)) (aa (ag (v := (I6 0)) rfl) (nN (aH ?_)))))))))
 replace h := h.uZ (R := aY) (E := 51) 8
 refine eF (σ := Nat × Int × Value × List Val) (inl ([3, 5] ++ rg 20 9)) (fun ⟨k11, i12, v9, xZ⟩ => [(3, v9), (20, (I6 i12))]) (fun ⟨k11, i12, v9, xZ⟩ w => SH w0 M BE w (hset [(1, .sr dM rF a.frames), (2, .sr (kW aY) rY a.cells), (3, .blk b1 [rF, rY, (I6 a.status), (I6 a.bB)]), (4, .blk b2 [(.slice none 0 0), (.slice none 0 0), (I6 0), (I6 0)]), (8, .own aY 51 v9 xZ)]) ∧ i12 = (k11 : Int) ∧ each jy (mE N a) (a.frames.drop k11) xZ = some r) (fun ⟨k11, i12, v9, xZ⟩ => a.frames.length - k11) ⟨0, 0, (.slice none 0 0), []⟩ ⟨rfl, rfl, trivial⟩ ?_ ?_
 exact ⟨h.cn _, rfl, hs⟩
 rintro ⟨k11, i12, v9, xZ⟩ w dC ⟨h, hik, hs⟩
 refine nG ?_
 refine aa (dK rfl rfl) (nN ?_)
 refine aJ (fD rfl (fun e16 => ?_) (fun e16 => ?_))
 refine aG (aj ?_)
 obtain ⟨zx, e17a, e17b⟩ := eU (hik ▸ e16)
 rw [e17b, df] at hs
 generalize Vf : each jy (mE N a) (a.frames.drop (k11 + 1)) = Ve at hs
 have e17r := eZ ((h.fQ 1 rfl)).bD hik e16
 refine aJ (aH (nG ?_))
 obtain ⟨b19, o20, Xw, h, Xx, i18⟩ := h.vo 1 9 rfl dI rfl (gB hik) (eY hik e17a)
 obtain ⟨u23, rfl, g24⟩ := mU Xx
 replace h := h.bK 10 g24.up
 refine aa (i18 _ _ _ _ _ _ _ _ _ rfl rfl) (aa (iD (k := 0) (vs := [(I6 zx.proc), (I6 zx.at_), u23, (I6 zx.ja)]) h 9 rfl fF rfl rfl rfl (bH rfl)) (bu h 11 fF fun w b25 h => dN (vs := [(I6 zx.proc), (I6 zx.at_), u23, (I6 zx.ja)]) h 11 [(I6 zx.proc), (I6 zx.at_), u23, (I6 zx.ja)] rfl fF rfl rfl rfl rfl rfl (ai rfl (ai rfl (ai (h.gy 10 rfl).one (ai rfl aS)))) fun w h => nN (ay (aa (ag (v := v9) rfl) (aa (ah ko rfl) (aa (aB h 11 rfl kr rfl rfl) ?_))))))
 obtain ⟨a26, hs⟩ := bE hs
 refine jb (R := aY) (m := zx.regs) h 8 rfl (h.lF 10 rfl) nk rfl rfl rfl a26.1 a26.2 fun w u27 h => aa (ae (v := u27) rfl) (aC (au (aj (ay (aa (dz rfl rfl e17r) (aa (ag (v := (I6 ((i12 + 1)))) rfl) (aC (ak ?_))))))))
 subst Vf
 exact iw ⟨k11 + 1, i12 + 1, u27, (xZ ++ zx.regs)⟩ ⟨h.cn _, by omega, hs⟩ (by have := kQ e16; dsimp only; omega)
 rw [eX (hik ▸ e16), dZ] at hs
 refine nE (aa (ah gL rfl) (aa (aB h 3 rfl jL rfl rfl) (aa (ag (v := v9) rfl) ?_)))
 obtain ⟨y28, e29, hs⟩ := aM hs
 refine aO Zp rfl rfl (Fj N _ _ h.lt rY a.cells (h.fQ 2 rfl) v9 xZ (h.dJ 8 rfl) _ e29) ?_
 rintro _ w ⟨QG, u30, rfl, g31, UU⟩
 refine ⟨_, rfl, ?_⟩
 replace h := h.mg 12 QG g31 UU
 refine lZ h 13 jc fun w MG h => dS h 13 [u30] rfl jc rfl rfl rfl rfl (h.eD 12 rfl).one fun w h => nJ (aa (ng (c1 := []) (c2 := [(.pointer (some ⟨MG, 0, none⟩))]) rfl rfl) (aa (ae (v := (.func (.func 67) #[] #[(.pointer (some ⟨MG, 0, none⟩))])) rfl) (nJ (aa (eB (vs := [rF, rY, (I6 a.status), (I6 a.bB)]) h 3 rfl bM rfl rfl rfl) ?_))))
 obtain ⟨lM, e36, hs⟩ := aM hs
 refine aO Zq rfl rfl (BH _ _ h.lt a rF rY (h.fQ 1 rfl) (h.fQ 2 rfl) _ e36) ?_
 rintro _ w ⟨k43, u37, Mf, yP, Gb, rfl, h41, h42⟩
 refine ⟨_, rfl, ?_⟩
 replace h := h.Lu 14 (C := (cU u37 Mf lM.frames yP lM.cells Gb)) k43 ⟨⟨⟨trivial, trivial⟩, trivial⟩, trivial⟩ h41 h42
 replace h := h.gJ 14 17 (by decide) rfl rfl
 replace h := h.gJ 14 16 (by decide) rfl rfl
 replace h := h.gJ 14 15 (by decide) rfl rfl
 refine bu h 18 bM fun w OA h => dN (vs := [u37, Mf, (I6 lM.status), (I6 lM.bB)]) h 18 [u37, Mf, (I6 lM.status), (I6 lM.bB)] rfl bM rfl rfl rfl rfl rfl (ai (h.eD 14 rfl).one (ai (h.eD 16 rfl).one (ai rfl (ai rfl aS)))) fun w h => nK (aa (ah gQ rfl) (aa (aB h 18 rfl lJ rfl rfl) (aa (wL (N := fo) dI rfl (h.dJ 14 rfl) (h.lq 15 rfl)) (aa (ag (v := (I6 0)) rfl) (nN (aH ?_))))))
 have hli50 := Ct (h.dJ 14 rfl) (h.lq 15 rfl)
 refine eF (σ := Nat × Int × List LX.Frame) (inl ([9, 10, 11] ++ rg 39 28)) (fun ⟨Wp, i50, sU⟩ => [(39, (I6 i50))]) (fun ⟨Wp, i50, sU⟩ w => SH w0 M BE w (hset [(1, .sr dM rF a.frames), (2, .sr (kW aY) rY a.cells), (3, .blk b1 [rF, rY, (I6 a.status), (I6 a.bB)]), (4, .blk b2 [(.slice none 0 0), (.slice none 0 0), (I6 0), (I6 0)]), (12, .own dw 3 u30 y28), (13, .blk MG [u30]), (14, .own fo.raw 49 u37 (List.zip sU yP)), (15, .jv (fw aY 51 hn yP (List.map fo.sub sU))), (16, .own (gW Val).raw 47 Mf (List.zip lM.cells Gb)), (17, .jv (fw aY 51 hn Gb (List.map (gW Val).sub lM.cells))), (18, .blk OA [u37, Mf, (I6 lM.status), (I6 lM.bB)])]) ∧ i50 = (Wp : Int) ∧ upto (kE y28) (mD y28 a lM) i50 (((lM.frames.length : Int)).toNat - Wp) sU = some r) (fun ⟨Wp, i50, sU⟩ => ((lM.frames.length : Int)).toNat - Wp) ⟨0, 0, lM.frames⟩ ⟨rfl, trivial⟩ ?_ ?_
 exact ⟨h.cn _, rfl, hs⟩
 rintro ⟨Wp, i50, sU⟩ w dC ⟨h, hik, hs⟩
 refine nG ?_
 refine aa (dK rfl rfl) (nN ?_)
 refine aJ (fD rfl (fun e54 => ?_) (fun e54 => ?_))
 refine aG (aj ?_)
 rw [lv (by have := kQ e54; omega)] at hs
 generalize hnx53 : upto (kE y28) (mD y28 a lM) (i50 + 1) (((lM.frames.length : Int)).toNat - (Wp + 1)) = RX at hs
 have e55r : jN (i50 + 1) := (by have := kQ e54; have := hli50; exact jN.mk (by omega) (by omega))
 refine aJ (aH (nG (aa (ag (v := (I6 i50)) rfl) (aa (ae (v := (I6 i50)) rfl) (nJ (aa (ah gQ rfl) (aa (aB h 18 rfl lJ rfl rfl) (aa (ag (v := (I6 i50)) rfl) ?_))))))))
 obtain ⟨Pz, e57, hs⟩ := aM hs
 obtain ⟨Xn, e62, h⟩ := h.Bn 15 19 Pz.regs rfl rfl (by decide) (aR e57).2 rfl
 obtain ⟨b59, q60, i58⟩ := h.FL 14 rfl dI rfl (aR e57).1 (kX (aR e57).2 e62)
 refine aa (i58 _ _ _ _ _ _ _ _ _ rfl rfl) (aa (ah ko rfl) ?_)
 obtain ⟨cs63, m64, r65⟩ := h.JU 14 rfl q60 (kX (aR e57).2 e62)
 obtain ⟨rfl, -⟩ := r65
 refine aa (zX (k := 2) m64 kr rfl rfl) (aa (aX di rfl (h.dJ 19 rfl)) (aa (ag (v := (I6 0)) rfl) (nN (aH ?_))))
 have hli71 := (h.dJ 19 rfl).bD
 refine eF (σ := Nat × Int × List Val) (inl ([10, 11] ++ rg 49 17)) (fun ⟨Yx, i71, x69⟩ => [(49, (I6 i71))]) (fun ⟨Yx, i71, x69⟩ w => SH w0 M BE w (hset [(1, .sr dM rF a.frames), (2, .sr (kW aY) rY a.cells), (3, .blk b1 [rF, rY, (I6 a.status), (I6 a.bB)]), (4, .blk b2 [(.slice none 0 0), (.slice none 0 0), (I6 0), (I6 0)]), (12, .own dw 3 u30 y28), (13, .blk MG [u30]), (14, .own fo.raw 49 u37 (List.zip sU yP)), (15, .jv (fw aY 51 (hat (i50).toNat) yP (List.map fo.sub sU))), (16, .own (gW Val).raw 47 Mf (List.zip lM.cells Gb)), (17, .jv (fw aY 51 hn Gb (List.map (gW Val).sub lM.cells))), (18, .blk OA [u37, Mf, (I6 lM.status), (I6 lM.bB)]), (19, .own aY 51 Xn x69)]) ∧ i71 = (Yx : Int) ∧ upto (kT y28) (oG RX sU i50 Pz) i71 (((Pz.regs.length : Int)).toNat - Yx) x69 = some r) (fun ⟨Yx, i71, x69⟩ => ((Pz.regs.length : Int)).toNat - Yx) ⟨0, 0, Pz.regs⟩ ⟨rfl, trivial⟩ ?_ ?_
 exact ⟨h.cn _, rfl, hs⟩
 rintro ⟨Yx, i71, x69⟩ w dC ⟨h, hik, hs⟩
 refine nG ?_
 refine aa (dK rfl rfl) (nN ?_)
 refine aJ (fD rfl (fun e75 => ?_) (fun e75 => ?_))
 refine aG (aj ?_)
 rw [lv (by have := kQ e75; omega)] at hs
 generalize hnx74 : upto (kT y28) (oG RX sU i50 Pz) (i71 + 1) (((Pz.regs.length : Int)).toNat - (Yx + 1)) = nx74 at hs
 have e76r : jN (i71 + 1) := (by have := kQ e75; have := hli71; exact jN.mk (by omega) (by omega))
 refine aJ (aH (nG (aa (ag (v := (I6 i71)) rfl) ?_)))
 obtain ⟨MH, UI, hs⟩ := aM hs
 obtain ⟨b80, q81, i79⟩ := h.FL 19 rfl di rfl (aR UI).1 (aR UI).2
 refine aa (i79 _ _ _ _ _ _ _ _ _ rfl rfl) ?_
 obtain ⟨cs82, m83, r84⟩ := h.JU 19 rfl q81 (aR UI).2
 obtain rfl := r84
 refine aa (zF (k := 0) (vs := [(I6 MH.kind), (I6 MH.n)]) m83 dR rfl rfl rfl (bH rfl)) (bu h 20 dR fun w JM h => aa (ae (v := (I6 i71)) rfl) (dN (vs := [(I6 MH.kind), (I6 MH.n)]) h 20 [(I6 MH.kind), (I6 MH.n)] rfl dR rfl rfl rfl rfl rfl (ai rfl (ai rfl aS)) fun w h => nN (uf (L := (ob Xn)) mixed h fun w h => dW 0 (aQ.refl _ _) rfl aA (by kernel_rfl) (by kernel_rfl) (by kernel_rfl) (fun w hk => ah gQ rfl) (dW 1 (aQ.refl _ _) rfl aA (by kernel_rfl) (by kernel_rfl) (by kernel_rfl) (fun w hk => have h := h.vB 19 rfl hk; aB h 18 rfl lJ rfl rfl) (dW 2 (aQ.refl _ _) rfl aA (by kernel_rfl) (by kernel_rfl) (by kernel_rfl) (fun w hk => ag (v := (I6 i50)) rfl) ?_)))))
 obtain ⟨bq89x3_2, NS, Vu⟩ := h.FL 14 rfl dI rfl (aR e57).1 (kX (aR e57).2 e62)
 refine dW 3 (aQ.refl _ _) rfl aA (by kernel_rfl) (by kernel_rfl) (by kernel_rfl) (fun w hk => Vu _ _ _ _ _ _ _ _ _ rfl rfl) (dW 4 (aQ.refl _ _) rfl aA (by kernel_rfl) (by kernel_rfl) (by kernel_rfl) (fun w hk => ah ko rfl) ?_)
 obtain ⟨csq89x5_1, Vv, Vw⟩ := h.JU 14 rfl NS (kX (aR e57).2 e62)
 obtain ⟨rfl, -⟩ := Vw
 have Vx : ¬ (ob Xn _) := (h.apart 14 19 (by decide) _ NS)
 refine dW 5 (aQ.refl _ _) rfl aA (by kernel_rfl) (by kernel_rfl) (by kernel_rfl) (fun w hk => have h := h.vB 19 rfl hk; zX (k := 2) (Vv.hold hk Vx) kr rfl rfl) (dW 6 (aQ.refl _ _) rfl aA (by kernel_rfl) (by kernel_rfl) (by kernel_rfl) (fun w hk => ag (v := (I6 i71)) rfl) (dW 7 (aQ.refl _ _) rfl aA (by kernel_rfl) (by kernel_rfl) (by kernel_rfl) (fun w hk => ag (v := (.func (.func 67) #[] #[(.pointer (some ⟨MG, 0, none⟩))])) rfl) (dW 8 (aQ.refl _ _) rfl aA (by kernel_rfl) (by kernel_rfl) (by kernel_rfl) (fun w hk => have h := h.vB 19 rfl hk; eB (vs := [(I6 MH.kind), (I6 MH.n)]) h 20 rfl dR rfl rfl rfl) ?_)))
 obtain ⟨ws90, Yy⟩ : ∃ x, x = w := ⟨_, rfl⟩
 have PE : aQ (ob Xn) ws90 w := Yy ▸ aQ.refl (ob Xn) w
 refine zG Yy.symm (dB 9 (by kernel_rfl) rfl aA ?_)
 obtain ⟨Az, Vy, hs⟩ := aM hs
 refine aO TY rfl rfl (BI _ _ h.lt MH u30 y28 (h.dJ 12 rfl) MG (h.lH 13 rfl) _ Vy) ?_
 rintro _ w ⟨NT, rfl⟩
 refine ⟨_, rfl, ?_⟩
 replace h := h.grow NT
 replace PE := PE.grow NT
 refine aC (aV PE ?_)
 obtain ⟨bq89x10_2, RY, RZ⟩ := h.FL 19 rfl di rfl (aR UI).1 (aR UI).2
 refine iQ 10 PE rfl (by kernel_rfl) (fun w hk => RZ _ _ _ _ _ _ _ _ _ rfl rfl) (dB 11 (by kernel_rfl) rfl aA (Za (a' := Az) (vs := [(I6 Az.kind), (I6 Az.n)]) h 19 rfl RY rfl (aR UI).2 dR rfl rfl rfl rfl rfl fun w h R3 => ?_))
 replace PE := PE.same R3
 refine aC (aV PE (j3 (by kernel_rfl) (au (aj (ay (aa (dz rfl rfl e76r) (aa (ag (v := (I6 ((i71 + 1)))) rfl) (aC (ak ?_)))))))))
 subst hnx74
 exact iw ⟨Yx + 1, i71 + 1, (x69.set (i71).toNat Az)⟩ ⟨h.cn _, by omega, hs⟩ (by have := kQ e75; dsimp only; omega)
 rw [lC (by have := of_decide_eq_false e75; omega)] at hs
 refine iI (bC (bC (dV (au (aj (ay (aa (dz rfl rfl e55r) (aa (ag (v := (I6 ((i50 + 1)))) rfl) (aC ?_)))))))))
 replace h := h.Lr 14 15 19 ({ Pz with regs := x69 }) rfl rfl rfl (by decide) (by decide) (by decide) (aR e57).2 e62 rfl
 refine ak ?_
 subst hnx53
 exact iw ⟨Wp + 1, i50 + 1, (sU.set (i50).toNat ({ Pz with regs := x69 }))⟩ ⟨h.cn _, by omega, hs⟩ (by have := kQ e54; dsimp only; omega)
 rw [lC (by have := of_decide_eq_false e54; omega)] at hs
 refine nE (aa (ah gL rfl) (dS h 18 [u37, (.slice none 0 0), (I6 lM.status), (I6 lM.bB)] rfl jL rfl rfl rfl rfl rfl fun w h => nK (aa (aB h 13 rfl jc rfl rfl) (aa (aX bN rfl (h.dJ 12 rfl)) (aa (ag (v := (I6 0)) rfl) (nN (aH ?_)))))))
 have hli105 := (h.dJ 12 rfl).bD
 replace h := h.uZ (R := (gW Val).raw) (E := 47) 183
 replace h := h.Ls (R := aY) (Es := 51) 184
 refine eF (σ := Nat × Int × Value × List Value × List (List Val)) (inl ([13, 14, 16] ++ rg 70 28)) (fun ⟨NU, i105, El, BU, xm⟩ => [(70, (I6 i105))]) (fun ⟨NU, i105, El, BU, xm⟩ w => SH w0 M BE w (hset [(1, .sr dM rF a.frames), (2, .sr (kW aY) rY a.cells), (3, .blk b1 [rF, rY, (I6 a.status), (I6 a.bB)]), (4, .blk b2 [(.slice none 0 0), (.slice none 0 0), (I6 0), (I6 0)]), (12, .own dw 3 u30 y28), (13, .blk MG [u30]), (14, .own fo.raw 49 u37 (List.zip sU yP)), (15, .jv (fw aY 51 hn yP (List.map fo.sub sU))), (18, .blk OA [u37, El, (I6 lM.status), (I6 lM.bB)]), (183, .own (gW Val).raw 47 El (List.zip xm BU)), (184, .jv (fw aY 51 hn BU (List.map (gW Val).sub xm)))]) ∧ i105 = (NU : Int) ∧ upto (iK y28 a) (kD sU lM) i105 (((y28.length : Int)).toNat - NU) xm = some r) (fun ⟨NU, i105, El, BU, xm⟩ => ((y28.length : Int)).toNat - NU) ⟨0, 0, (.slice none 0 0), ([] : List Value), []⟩ ⟨rfl, trivial⟩ ?_ ?_
 exact ⟨h.cn _, rfl, hs⟩
 rintro ⟨NU, i105, El, BU, xm⟩ w dC ⟨h, hik, hs⟩
 refine nG ?_
 refine aa (dK rfl rfl) (nN ?_)
 refine aJ (fD rfl (fun e109 => ?_) (fun e109 => ?_))
 refine aG (aj ?_)
 rw [lv (by have := kQ e109; omega)] at hs
 generalize hnx108 : upto (iK y28 a) (kD sU lM) (i105 + 1) (((y28.length : Int)).toNat - (NU + 1)) = KA at hs
 have e110r : jN (i105 + 1) := (by have := kQ e109; have := hli105; exact jN.mk (by omega) (by omega))
 refine aJ (aH (nG ?_))
 obtain ⟨G7, Ry, hs⟩ := aM hs
 obtain ⟨b114, q115, i113⟩ := h.FL 12 rfl bN rfl (aR Ry).1 (aR Ry).2
 refine aa (i113 _ _ _ _ _ _ _ _ _ rfl rfl) ?_
 obtain ⟨cs116, m117, r118⟩ := h.JU 12 rfl q115 (aR Ry).2
 obtain rfl := r118
 refine aa (zX (k := 0) m117 aP rfl rfl) (aa (ae (v := (I6 G7)) rfl) (nJ (aa (ae (v := (.slice none 0 0)) rfl) (nK (aa (ah gL rfl) (aa (aB h 3 rfl jL rfl rfl) (aa (ag (v := (I6 G7)) rfl) ?_)))))))
 obtain ⟨PD, e120, hs⟩ := aM hs
 obtain ⟨b122, o123, cs124, h, r125, i121⟩ := h.vo 2 185 rfl dO rfl (aR e120).1 (aR e120).2
 obtain ⟨u126, rfl, g127⟩ := r125
 replace h := h.bK 186 g127.up
 refine aa (i121 _ _ _ _ _ _ _ _ _ rfl rfl) (aa (eQ (k := 0) h 185 rfl kr rfl rfl) (aa (aX di rfl (h.lF 186 rfl)) (aa (ag (v := (I6 0)) rfl) (nN (aH ?_)))))
 replace h := h.uZ (R := aY) (E := 51) 190
 refine eF (σ := Nat × Int × Value × List Val) (inl ([14, 16] ++ rg 80 11)) (fun ⟨NV, i137, Gd, zP⟩ => [(14, Gd), (80, (I6 i137))]) (fun ⟨NV, i137, Gd, zP⟩ w => SH w0 M BE w (hset [(1, .sr dM rF a.frames), (2, .sr (kW aY) rY a.cells), (3, .blk b1 [rF, rY, (I6 a.status), (I6 a.bB)]), (4, .blk b2 [(.slice none 0 0), (.slice none 0 0), (I6 0), (I6 0)]), (12, .own dw 3 u30 y28), (13, .blk MG [u30]), (14, .own fo.raw 49 u37 (List.zip sU yP)), (15, .jv (fw aY 51 hn yP (List.map fo.sub sU))), (18, .blk OA [u37, El, (I6 lM.status), (I6 lM.bB)]), (183, .own (gW Val).raw 47 El (List.zip xm BU)), (184, .jv (fw aY 51 hn BU (List.map (gW Val).sub xm))), (186, .rd aY u126 PD), (190, .own aY 51 Gd zP)]) ∧ i137 = (NV : Int) ∧ each (iJ y28) (mr xm KA) (PD.drop NV) zP = some r) (fun ⟨NV, i137, Gd, zP⟩ => PD.length - NV) ⟨0, 0, (.slice none 0 0), []⟩ ⟨rfl, rfl, trivial⟩ ?_ ?_
 exact ⟨h.cn _, rfl, hs⟩
 rintro ⟨NV, i137, Gd, zP⟩ w dC ⟨h, hik, hs⟩
 refine nG ?_
 refine aa (dK rfl rfl) (nN ?_)
 refine aJ (fD rfl (fun Nw => ?_) (fun Nw => ?_))
 refine aG (aj ?_)
 obtain ⟨qi, e142a, e142b⟩ := eU (hik ▸ Nw)
 rw [e142b, df] at hs
 generalize hnx140 : each (iJ y28) (mr xm KA) (PD.drop (NV + 1)) = Kz at hs
 have e142r := eZ ((h.lF 186 rfl)).bD hik Nw
 refine aJ (aH (nG ?_))
 obtain ⟨b144, o145, cs146, h, r147, i143⟩ := h.FH 186 191 rfl di rfl (gB hik) (eY hik e142a)
 obtain rfl := r147
 refine aa (i143 _ _ _ _ _ _ _ _ _ rfl rfl) (aa (iD (k := 0) (vs := [(I6 qi.kind), (I6 qi.n)]) h 191 rfl dR rfl rfl rfl (bH rfl)) (bu h 192 dR fun w b148 h => dN (vs := [(I6 qi.kind), (I6 qi.n)]) h 192 [(I6 qi.kind), (I6 qi.n)] rfl dR rfl rfl rfl rfl rfl (ai rfl (ai rfl aS)) fun w h => nN (ay (aa (ag (v := Gd) rfl) (aa (ag (v := (.func (.func 67) #[] #[(.pointer (some ⟨MG, 0, none⟩))])) rfl) (aa (eB (vs := [(I6 qi.kind), (I6 qi.n)]) h 192 rfl dR rfl rfl rfl) (iL (args := [(.agg #[(I6 qi.kind), (I6 qi.n)]), (.pointer (some ⟨MG, 0, none⟩))]) TY rfl rfl (aL (args := [(.agg #[(I6 qi.kind), (I6 qi.n)]), (.pointer (some ⟨MG, 0, none⟩))]) Tryz.func67 rfl Tryz.ntmps67 (bH rfl) (nG (l7 (cs := [(I6 qi.kind), (I6 qi.n)]) h 193 rfl rfl fun w b149 h => bu h 194 dR fun w b150 h => nN (dm (σ := Int) (inl (rg 4 8)) (fun y151 => []) (fun y151 w => SH w0 M BE w (hset [(1, .sr dM rF a.frames), (2, .sr (kW aY) rY a.cells), (3, .blk b1 [rF, rY, (I6 a.status), (I6 a.bB)]), (4, .blk b2 [(.slice none 0 0), (.slice none 0 0), (I6 0), (I6 0)]), (12, .own dw 3 u30 y28), (13, .blk MG [u30]), (14, .own fo.raw 49 u37 (List.zip sU yP)), (15, .jv (fw aY 51 hn yP (List.map fo.sub sU))), (18, .blk OA [u37, El, (I6 lM.status), (I6 lM.bB)]), (183, .own (gW Val).raw 47 El (List.zip xm BU)), (184, .jv (fw aY 51 hn BU (List.map (gW Val).sub xm))), (186, .rd aY u126 PD), (190, .own aY 51 Gd zP), (193, .blk b149 [(I6 qi.kind), (I6 y151)]), (194, .blk b150 [(I6 0), (I6 0)])]) ∧ mq zP qi Kz y151 = some r) ?_ ?_)))))))))))
 rintro y151 w dC ⟨h, hs⟩
 refine nG (aa (eB (vs := [(I6 qi.kind), (I6 y151)]) h 193 rfl dR rfl rfl rfl) (dN (vs := [(I6 qi.kind), (I6 y151)]) h 194 [(I6 qi.kind), (I6 y151)] rfl dR rfl rfl rfl rfl rfl (ai rfl (ai rfl aS)) fun w h => nR (Ki (vs := [(I6 qi.kind), (I6 y151)]) Tryz.results67 rfl h 194 rfl dR rfl (⟨_, rfl, ?_⟩))))
 refine mX (R := aY) (vs := [(.agg #[(I6 qi.kind), (I6 y151)])]) (xs := [(⟨qi.kind, y151⟩ : Val)]) h 195 nk rfl rfl rfl ⟨rfl, trivial⟩ rfl fun w u152 h => ?_
 obtain ⟨XA, hs⟩ := bE hs
 refine jb (R := aY) (m := [(⟨qi.kind, y151⟩ : Val)]) h 190 rfl (h.dJ 195 rfl) nk rfl rfl rfl XA.1 XA.2 fun w u154 h => aa (ae (v := u154) rfl) (aC (au (aj (ay (aa (dz rfl rfl e142r) (aa (ag (v := (I6 ((i137 + 1)))) rfl) (aC (ak ?_))))))))
 subst hnx140
 exact iw ⟨NV + 1, i137 + 1, u154, (zP ++ [(⟨qi.kind, y151⟩ : Val)])⟩ ⟨h.cn _, by omega, hs⟩ (by have := kQ Nw; dsimp only; omega)
 refine nG (aa (ah rV rfl) (aa (aB h 193 rfl aP rfl rfl) (aa (bW rfl rfl) (nN (aK hs rfl (fun c155 hs => ?_) (fun c155 hs => ?_))))))
 refine ay (aa (aB h 13 rfl jc rfl rfl) (aa (ah jF rfl) (aa (aB h 193 rfl aP rfl rfl) ?_)))
 obtain ⟨Xz, e157, hs⟩ := aM hs
 refine aO OV rfl rfl (uG _ _ h.lt u30 y28 (h.dJ 12 rfl) qi.n _ e157) ?_
 rintro _ w ⟨k158, rfl⟩
 refine ⟨_, rfl, ?_⟩
 replace h := h.grow k158
 refine aa (ah jF rfl) (dS h 193 [(I6 qi.kind), (I6 Xz)] rfl aP rfl rfl rfl rfl rfl fun w h => aC (ak ?_))
 exact cO Xz ⟨h.cn _, hs⟩
 refine aG (ak ?_)
 exact cO qi.n ⟨h.cn _, hs⟩
 rw [eX (hik ▸ Nw), dZ] at hs
 refine iI (bC (bC (dV (aj (ay (aa (ah gL rfl) (aa (aB h 18 rfl jL rfl rfl) (aa (ag (v := Gd) rfl) ?_))))))))
 have Yz : (Value.oneCell' Gd) = true := (h.eD 190 rfl).one
 refine mX (R := (gW Val).raw) (vs := [Gd]) (xs := List.zip [zP] [Gd]) h 196 jB rfl rfl rfl ⟨⟨mQ Yz, Yz⟩, trivial⟩ rfl fun w u159 h => ?_
 replace h := h.Hm (N := (gW Val)) 190 zP rfl rfl
 obtain ⟨a160, hs⟩ := bE hs
 have z162 := h.lq 184 rfl
 have YA := h.lq 190 rfl
 refine jb (R := (gW Val).raw) (m := List.zip [zP] [Gd]) h 183 rfl (h.dJ 196 rfl) jB rfl rfl rfl (by rw [j4 z162, j4 YA]; exact a160.1) (by rw [j4 z162, j4 YA]; exact a160.2) fun w u161 h => ?_
 replace h := (h.Hg 184 190 rfl rfl (by decide)).ug 196
 rw [Hl z162, ← List.map_append] at h
 obtain ⟨us163, us163e⟩ : ∃ z, z = BU ++ [Gd] := ⟨_, rfl⟩
 rw [← us163e] at h
 refine aa (ah gL rfl) (dS h 18 [u37, u161, (I6 lM.status), (I6 lM.bB)] rfl jL rfl rfl rfl rfl (h.eD 183 rfl).one fun w h => aC (au (aj (ay (aa (dz rfl rfl e110r) (aa (ag (v := (I6 ((i105 + 1)))) rfl) (aC (ak ?_))))))))
 subst hnx108
 exact iw ⟨NU + 1, i105 + 1, u161, us163, (xm ++ [zP])⟩ ⟨h.cn _, by omega, hs⟩ (by have := kQ e109; dsimp only; omega)
 rw [lC (by have := of_decide_eq_false e109; omega)] at hs
 refine nE (aa (eB (vs := [u37, El, (I6 lM.status), (I6 lM.bB)]) h 18 rfl bM rfl rfl rfl) (dN (vs := [u37, El, (I6 lM.status), (I6 lM.bB)]) h 4 [u37, El, (I6 lM.status), (I6 lM.bB)] rfl bM rfl rfl rfl rfl rfl (ai (h.eD 14 rfl).one (ai (h.eD 183 rfl).one (ai rfl (ai rfl aS)))) fun w h => nR (Ki (vs := [u37, El, (I6 lM.status), (I6 lM.bB)]) Tryz.results31 rfl h 4 rfl bM rfl ?_)))
 replace h := h.pair 14 15 (by decide)
 replace h := h.pair 14 183 (by decide)
 replace h := h.pair 14 184 (by decide)
 obtain rfl := gK hs
 obtain ⟨o1, o2, o3⟩ := h.zI 14 (C := (cU u37 El sU yP xm BU)) rfl ⟨⟨⟨trivial, trivial⟩, trivial⟩, trivial⟩
 exact ⟨o2, u37, El, yP, BU, rfl, o1, EU o3⟩
end
end Go.Proofs.YtfclkapelkhlpaaGreatDoor
