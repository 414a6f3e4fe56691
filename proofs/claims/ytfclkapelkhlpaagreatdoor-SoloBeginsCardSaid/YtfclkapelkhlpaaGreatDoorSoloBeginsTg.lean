/-
  What the law SoloBegins needs of our own library and of the walks, no more.
-/
import Derived.Test.YtfclkapelkhlpaaGreatDoorProg
import Derived.Test.YtfclkapelkhlpaaGreatDoorSoloBeginsTf
set_option linter.unusedSimpArgs false
set_option linter.unusedVariables false
set_option maxRecDepth 10000
namespace Go.Proofs.YtfclkapelkhlpaaGreatDoor
open Go Go.Proofs Go.LX
noncomputable section
theorem KE : gQ Tryz.prog 33 := ⟨_, Tryz.func33, by kernel_rfl, rfl⟩
theorem TZ : gQ Tryz.prog 34 := ⟨_, Tryz.func34, by kernel_rfl, rfl⟩
def uX (zR : List Int) (iF : List LX.Frame) (BI : List (List Val)) (Bw : Int) (Fg : Int) : Option (List Int × LX.State × Int) :=
  some (zR, (⟨iF, BI, Bw, Fg⟩ : LX.State), 0)
def tJ (N : Nat) (Cz : List Int) (a : List bP) (b : Int) (vI : Int) (QC : (List Int × Int × List LX.Frame × List (List Val) × Int × Int) → Option (List Int × LX.State × Int)) (vJ : List LX.Frame) (rq : List (List Val)) (T9 : Int) (wV : Int) : Option (List Int × LX.State × Int) :=
  bif decide ((T9 : Int) ≠ 0) then uX Cz vJ rq T9 wV else (Ku N a (⟨vJ, rq, T9, wV⟩ : LX.State) b).bind fun uW => bif decide ((uW.2.2.2 : Int) ≠ 0) then some ([], (⟨[], [], 0, 0⟩ : LX.State), uW.2.2.2) else gz (Room 8 Cz uW.2.1) (gz (jA (vI + 1)) (QC ((Cz ++ uW.2.1), (vI + 1), uW.1.frames, uW.1.cells, uW.1.status, uW.1.aW)))
def nZ (N : Nat) (c : Int) (a : List bP) (b : Int) (s : List Int × Int × List LX.Frame × List (List Val) × Int × Int) (QC : List Int × Int × List LX.Frame × List (List Val) × Int × Int → Option (List Int × LX.State × Int)) : Option (List Int × LX.State × Int) :=
  match s with | (Cz, vI, QR, zH, D7, QD) => bif decide ((vI : Int) < c) then bif decide ((D7 : Int) = 3) then (FU a (⟨QR, zH, D7, QD⟩ : LX.State)).bind fun xB => bif decide ((xB.2 : Int) ≠ 0) then some ([], (⟨[], [], 0, 0⟩ : LX.State), xB.2) else tJ N Cz a b vI QC xB.1.frames xB.1.cells xB.1.status xB.1.aW else tJ N Cz a b vI QC QR zH D7 QD else uX Cz QR zH D7 QD
def wQ (N : Nat) (a : List bP) (b : Int) (c : Int) : Option (List Int × LX.State × Int) :=
  (Kj a).bind fun y2 => bif decide ((y2.2 : Int) ≠ 0) then some ([], (⟨[], [], 0, 0⟩ : LX.State), y2.2) else bif (((decide ((b : Int) < 1) || decide ((2000 : Int) < b)) || decide ((c : Int) < 0)) || decide ((120 : Int) < c)) then some ([], (⟨[], [], 0, 0⟩ : LX.State), 3) else again (nZ N c a b) N ([], 0, y2.1.frames, y2.1.cells, y2.1.status, y2.1.aW)
theorem zx (N : Nat) (w0 : World) (M : BS) (hM : ∀ b, M b → b < w0.heap.size) (va : Value) (a : List bP) (ha : fo jI w0 M va a) (b : Int) (c : Int) (r : List Int × LX.State × Int) (hs : wQ N a b c = some r) :
    Calls Tryz.prog 33 #[va, (.int .i64 (b)), (.int .i64 (c))] w0 (fun e w' => Grow w0 w' ∧ ∃ u0, ∃ u1_0, ∃ u1_1, e = .returned (.tuple #[u0, .agg #[u1_0, u1_1, .int .i64 r.2.1.status, .int .i64 r.2.1.aW], .int .i64 r.2.2]) ∧ dL fF 3 w' M u0 r.1 ∧ (∀ b, ob u0 b → w0.heap.size ≤ b) ∧ fo iD w' (fun b => M b ∨ ob u0 b) u1_0 r.2.1.frames ∧ fo (uY aM) w' (fun b => M b ∨ ob u0 b) u1_1 r.2.1.cells) := by
 refine aS (args := [va, (.int .i64 (b)), (.int .i64 (c))]) Tryz.func33 rfl Tryz.ntmps33 (Nat.le_of_ble_eq_true rfl) ?_
 have h := SH.init hM
 replace h := h.QW 1 ha bR
 have u7 := ha.cO
 refine ai (ag (ae (aj (v := (.slice none 0 0)) rfl) (bT h 2 cu fun w b1 h => ae (aj (v := (.int .i64 (0))) rfl) (ah (aa (ai (ag (ae (au (v := va) rfl) ?_))))))))
 obtain ⟨y2, e3, hs⟩ := aQ hs
 refine bA Xf rfl rfl (SI _ _ h.lt va a (h.oZ 1 rfl) _ e3) ?_
 rintro _ w ⟨k8, u4, u6, rfl, g5, g7⟩
 refine ⟨_, rfl, ?_⟩
 replace h := h.Ir 3 k8 g5
 replace h := h.cZ 4 g7.up
 refine ae (au (v := (.tuple #[(.agg #[u4, u6, (.int .i64 (y2.1.status)), (.int .i64 (y2.1.aW))]), (.int .i64 (y2.2))])) rfl) (ae (bC rfl rfl) (ae (bC rfl rfl) (bT h 5 cu fun w b9 h => dm (vs := [u4, u6, (.int .i64 (y2.1.status)), (.int .i64 (y2.1.aW))]) h 5 [u4, u6, (.int .i64 (y2.1.status)), (.int .i64 (y2.1.aW))] rfl cu rfl rfl rfl rfl rfl (ax (h.gB 3 rfl).one (ax (h.gB 4 rfl).one (ax rfl (ax rfl aZ)))) fun w h => ae (aj (v := (.int .i64 (y2.2))) rfl) (ah (aa (ai (ai (ag (ae (au (v := (.int .i64 (y2.2))) rfl) (ae (gq rfl rfl) (ah (aa (aI hs rfl (fun c10 hs => ?_) (fun c10 hs => ?_))))))))))))))
 refine ai (ag (ae (dC (pv := []) (out := [(.slice none 0 0), (.slice none 0 0), (.int .i64 (0)), (.int .i64 (0))]) pF rfl rfl) (ae (au (v := (.int .i64 (y2.2))) rfl) (ae (aj (v := (.slice none 0 0)) rfl) (dm (vs := [(.slice none 0 0), (.slice none 0 0), (.int .i64 (0)), (.int .i64 (0))]) h 2 [(.slice none 0 0), (.slice none 0 0), (.int .i64 (0)), (.int .i64 (0))] rfl cu rfl rfl rfl rfl rfl (ax rfl (ax rfl (ax rfl (ax rfl aZ)))) fun w h => ae (aj (v := (.int .i64 (y2.2))) rfl) (ah (aa (aK (aC (CO (v1 := (.slice none 0 0)) (vs := [(.slice none 0 0), (.slice none 0 0), (.int .i64 (0)), (.int .i64 (0))]) (v3 := (.int .i64 (y2.2))) Tryz.results33 rfl rfl rfl h 2 rfl cu rfl ?_))))))))))
 obtain rfl := Option.some.inj hs
 exact ⟨h.grown, _, _, _, rfl, dL.nil, jf, gp.nil, gp.nil⟩
 refine aG (aa (ai (ai (ag (ae (au (v := (.int .i64 (b))) rfl) (ae (dN rfl rfl) (ae (au (v := (.bool (decide ((b : Int) < 1)))) rfl) (aD rfl rfl (fun q => au (v := (.int .i64 (b))) rfl) (aD rfl rfl (fun q => jH (dn q) rfl) (ae (gu rfl rfl lV) (ae (au (v := (.bool ((decide ((b : Int) < 1) || decide ((2000 : Int) < b))))) rfl) (aD rfl rfl (fun q => au (v := (.int .i64 (c))) rfl) (aD rfl rfl (fun q => dN (dn q) rfl) (ae (gu rfl rfl lV) (ae (au (v := (.bool (((decide ((b : Int) < 1) || decide ((2000 : Int) < b)) || decide ((c : Int) < 0))))) rfl) (aD rfl rfl (fun q => au (v := (.int .i64 (c))) rfl) (aD rfl rfl (fun q => jH (dn q) rfl) (ae (gu rfl rfl lV) (ah (aa (aI hs rfl (fun c11 hs => ?_) (fun c11 hs => ?_))))))))))))))))))))))
 refine ai (ag (ae (dC (pv := []) (out := [(.slice none 0 0), (.slice none 0 0), (.int .i64 (0)), (.int .i64 (0))]) pF rfl rfl) (ae (aj (v := (.slice none 0 0)) rfl) (dm (vs := [(.slice none 0 0), (.slice none 0 0), (.int .i64 (0)), (.int .i64 (0))]) h 2 [(.slice none 0 0), (.slice none 0 0), (.int .i64 (0)), (.int .i64 (0))] rfl cu rfl rfl rfl rfl rfl (ax rfl (ax rfl (ax rfl (ax rfl aZ)))) fun w h => ae (aj (v := (.int .i64 (3))) rfl) (ah (aa (aK (aC (CO (v1 := (.slice none 0 0)) (vs := [(.slice none 0 0), (.slice none 0 0), (.int .i64 (0)), (.int .i64 (0))]) (v3 := (.int .i64 (3))) Tryz.results33 rfl rfl rfl h 2 rfl cu rfl ?_)))))))))
 obtain rfl := Option.some.inj hs
 exact ⟨h.grown, _, _, _, rfl, dL.nil, jf, gp.nil, gp.nil⟩
 refine aG (aa (ai (ag (ae (aj (v := (.slice none 0 0)) rfl) (ah (aa (bV (σ := Value × List Int × Value × List LX.Frame × Value × List (List Val) × Int × Int) (inl [6, 8, 10, 11, 12, 37, 38, 39, 40, 41, 42, 43, 44, 45, 46, 47, 48, 49, 50, 51, 52, 53, 54, 55, 56, 57, 58, 59, 60, 61, 62, 63, 64, 65, 66, 67, 68, 69, 70, 71, 72]) (fun ⟨v12, zR, v14, iF, v16, BI, Bw, Fg⟩ => [(11, v12)]) (fun ⟨v12, zR, v14, iF, v16, BI, Bw, Fg⟩ w => SH w0 M BE w (hset [(2, .blk b1 [(.slice none 0 0), (.slice none 0 0), (.int .i64 (0)), (.int .i64 (0))]), (5, .blk b9 [v14, v16, (.int .i64 (Bw)), (.int .i64 (Fg))]), (6, .rd iD v14 iF), (7, .rd (uY aM) v16 BI), (15, .own fF 3 v12 zR)]) ∧ uX zR iF BI Bw Fg = some r) ?_ ?_)))))))
 rintro ⟨v12, zR, v14, iF, v16, BI, Bw, Fg⟩ w dz ⟨h, hs⟩
 refine ai (qj 3 mixed (by kernel_rfl) h fun w h => aO (au (v := v12) rfl) (aO (dS (vs := [v14, v16, (.int .i64 (Bw)), (.int .i64 (Fg))]) h 5 rfl cu rfl rfl rfl) (aO (aj (v := v12) rfl) (xP (dm (vs := [v14, v16, (.int .i64 (Bw)), (.int .i64 (Fg))]) h 2 [v14, v16, (.int .i64 (Bw)), (.int .i64 (Fg))] rfl cu rfl rfl rfl rfl rfl (ax (h.gB 6 rfl).one (ax (h.gB 7 rfl).one (ax rfl (ax rfl aZ)))) fun w h => ae (aj (v := (.int .i64 (0))) rfl) (ah (aa (aK (CO (v1 := v12) (vs := [v14, v16, (.int .i64 (Bw)), (.int .i64 (Fg))]) (v3 := (.int .i64 (0))) Tryz.results33 rfl rfl rfl h 2 rfl cu rfl ?_)))))))))
 obtain rfl := Option.some.inj hs
 exact ⟨h.grown, _, _, _, rfl, (h.lI 15 rfl).1, (h.lI 15 rfl).2, h.JC 6 15 rfl rfl, h.JC 7 15 rfl rfl⟩
 refine ai (ag (ae (au (v := (.int .i64 (c))) rfl) (ae (au (v := (.int .i64 (0))) rfl) (ah (aa (aV ?_))))))
 replace h := h.xO (R := fF) (E := 3) 25
 replace h := h.vG 3 26 rfl
 replace h := h.vG 4 27 rfl
 refine gT (σ := Nat × Value × List Int × Int × Value × List LX.Frame × Value × List (List Val) × Int × Int) (inl [6, 8, 10, 11, 12, 38, 39, 40, 41, 42, 43, 44, 45, 46, 47, 48, 49, 50, 51, 52, 53, 54, 55, 56, 57, 58, 59, 60, 61, 62, 63, 64, 65, 66, 67, 68, 69, 70, 71, 72]) (fun ⟨m59, v47, Cz, vI, v50, QR, v52, zH, D7, QD⟩ => [(11, v47), (38, (.int .i64 (vI)))]) (fun ⟨m59, v47, Cz, vI, v50, QR, v52, zH, D7, QD⟩ w => SH w0 M BE w (hset [(1, .rd jI va a), (2, .blk b1 [(.slice none 0 0), (.slice none 0 0), (.int .i64 (0)), (.int .i64 (0))]), (5, .blk b9 [v50, v52, (.int .i64 (D7)), (.int .i64 (QD))]), (25, .own fF 3 v47 Cz), (26, .rd iD v50 QR), (27, .rd (uY aM) v52 zH)]) ∧ again (nZ N c a b) m59 (Cz, vI, QR, zH, D7, QD) = some r) (fun ⟨m59, v47, Cz, vI, v50, QR, v52, zH, D7, QD⟩ => m59) ⟨N, (.slice none 0 0), [], 0, u4, y2.1.frames, u6, y2.1.cells, y2.1.status, y2.1.aW⟩ ⟨rfl, rfl, trivial⟩ ?_ ?_
 exact ⟨h.cn _, hs⟩
 rintro ⟨m59, v47, Cz, vI, v50, QR, v52, zH, D7, QD⟩ w dz ⟨h, hs⟩
 obtain ⟨m591, m59e, m59h⟩ := qm hs
 subst m59e
 replace hs := m59h
 generalize hnx60 : again (nZ N c a b) m591 = QC at hs
 refine ai (ag (ae (dN rfl rfl) (ah (aa (ai (aI hs rfl (fun Gv hs => ?_) (fun Gv hs => ?_)))))))
 refine aG (aa (ai (aV (bV (σ := Value × List LX.Frame × Value × List (List Val) × Int × Int) (inl [6, 8, 10, 40, 41, 42, 43, 44, 45, 46, 47, 48, 49, 50, 51, 52]) (fun ⟨v64, vJ, v66, rq, T9, wV⟩ => []) (fun ⟨v64, vJ, v66, rq, T9, wV⟩ w => SH w0 M BE w (hset [(1, .rd jI va a), (2, .blk b1 [(.slice none 0 0), (.slice none 0 0), (.int .i64 (0)), (.int .i64 (0))]), (5, .blk b9 [v64, v66, (.int .i64 (T9)), (.int .i64 (wV))]), (25, .own fF 3 v47 Cz), (28, .rd iD v64 vJ), (29, .rd (uY aM) v66 rq)]) ∧ tJ N Cz a b vI QC vJ rq T9 wV = some r) ?_ ?_))))
 rintro ⟨v64, vJ, v66, rq, T9, wV⟩ w dz ⟨h, hs⟩
 refine ai (ai (ag (ae (ak iN rfl) (ae (aF h 5 rfl bz rfl rfl) (ae (gq rfl rfl) (ah (aa (aI hs rfl (fun c70 hs => ?_) (fun c70 hs => ?_)))))))))
 refine df (aN (tQ (by decide) (aN (aN (bE (az ?_))))))
 replace h := h.zU 25 15 rfl rfl (by decide)
 replace h := h.vG 28 6 rfl
 replace h := h.vG 29 7 rfl
 exact bQ (v47, Cz, v64, vJ, v66, rq, T9, wV) ⟨h.cn _, hs⟩
 refine aG (aa (ai (ag (ae (aj (v := (.slice none 0 0)) rfl) (ah (aa (ai (ai (ag (ae (au (v := va) rfl) (ae (dS (vs := [v64, v66, (.int .i64 (T9)), (.int .i64 (wV))]) h 5 rfl cu rfl rfl rfl) (ae (au (v := (.int .i64 (b))) rfl) ?_))))))))))))
 obtain ⟨uW, XV, hs⟩ := aQ hs
 refine bA Xe rfl rfl (TE N _ _ h.lt va a (h.gB 1 rfl) (⟨vJ, rq, T9, wV⟩ : LX.State) v64 v66 (h.oZ 28 rfl) (h.oZ 29 rfl) b _ XV) ?_
 rintro _ w ⟨k80, u73, u75, u77, rfl, g74, g76, g78, g79⟩
 refine ⟨_, rfl, ?_⟩
 replace h := h.jM 32 k80 g78 g79
 replace h := h.cZ 30 g74.Ur
 replace h := h.cZ 31 g76.Ur.up
 refine ae (au (v := (.tuple #[(.agg #[u73, u75, (.int .i64 (uW.1.status)), (.int .i64 (uW.1.aW))]), u77, (.int .i64 (uW.2.2.1)), (.int .i64 (uW.2.2.2))])) rfl) (ae (bC rfl rfl) (ae (bC rfl rfl) (ae (bC rfl rfl) (ae (bC rfl rfl) (dm (vs := [u73, u75, (.int .i64 (uW.1.status)), (.int .i64 (uW.1.aW))]) h 5 [u73, u75, (.int .i64 (uW.1.status)), (.int .i64 (uW.1.aW))] rfl cu rfl rfl rfl rfl rfl (ax (h.gB 30 rfl).one (ax (h.gB 31 rfl).one (ax rfl (ax rfl aZ)))) fun w h => ae (aj (v := u77) rfl) (ae (aj (v := (.int .i64 (uW.2.2.2))) rfl) (ah (aa (ai (ag (ae (au (v := (.int .i64 (uW.2.2.2))) rfl) (ae (gq rfl rfl) (ah (aa (aI hs rfl (fun c81 hs => ?_) (fun c81 hs => ?_))))))))))))))))
 refine ai (ag (ae (dC (pv := []) (out := [(.slice none 0 0), (.slice none 0 0), (.int .i64 (0)), (.int .i64 (0))]) pF rfl rfl) (ae (au (v := (.int .i64 (uW.2.2.2))) rfl) (ae (aj (v := (.slice none 0 0)) rfl) (dm (vs := [(.slice none 0 0), (.slice none 0 0), (.int .i64 (0)), (.int .i64 (0))]) h 2 [(.slice none 0 0), (.slice none 0 0), (.int .i64 (0)), (.int .i64 (0))] rfl cu rfl rfl rfl rfl rfl (ax rfl (ax rfl (ax rfl (ax rfl aZ)))) fun w h => ae (aj (v := (.int .i64 (uW.2.2.2))) rfl) (ah (aa (aK (aC (aH (aC (aC (aH (aC (CO (v1 := (.slice none 0 0)) (vs := [(.slice none 0 0), (.slice none 0 0), (.int .i64 (0)), (.int .i64 (0))]) (v3 := (.int .i64 (uW.2.2.2))) Tryz.results33 rfl rfl rfl h 2 rfl cu rfl ?_)))))))))))))))
 obtain rfl := Option.some.inj hs
 exact ⟨h.grown, _, _, _, rfl, dL.nil, jf, gp.nil, gp.nil⟩
 refine aG (aa (ag (ae (au (v := v47) rfl) (ae (au (v := u77) rfl) ?_))))
 obtain ⟨a82, hs⟩ := bG hs
 refine mo (R := fF) (m := uW.2.1) h 25 rfl (h.dM 32 rfl) ky rfl rfl rfl a82.1 a82.2 fun w u83 h => ae (aj (v := u83) rfl) (ah (aA (aa (ag ?_))))
 obtain ⟨a84, hs⟩ := bG hs
 refine ae (dw rfl rfl a84) (ae (au (v := (.int .i64 ((vI + 1)))) rfl) (ah (az ?_)))
 replace h := h.vG 30 26 rfl
 replace h := h.vG 31 27 rfl
 subst hnx60
 exact jV ⟨m591, u83, (Cz ++ uW.2.1), (vI + 1), u73, uW.1.frames, u75, uW.1.cells, uW.1.status, uW.1.aW⟩ ⟨h.cn _, hs⟩
 refine ai (ag (ae (ak iN rfl) (ae (aF h 5 rfl bz rfl rfl) (ae (bI rfl rfl) (ah (aa (aI hs rfl (fun c85 hs => ?_) (fun c85 hs => ?_))))))))
 refine ai (ag (ae (au (v := va) rfl) (ae (dS (vs := [v50, v52, (.int .i64 (D7)), (.int .i64 (QD))]) h 5 rfl cu rfl rfl rfl) ?_)))
 obtain ⟨xB, ZI, hs⟩ := aQ hs
 refine bA Xg rfl rfl (Qn _ _ h.lt va a (h.oZ 1 rfl) (⟨QR, zH, D7, QD⟩ : LX.State) v50 v52 (h.oZ 26 rfl) (h.oZ 27 rfl) _ ZI) ?_
 rintro _ w ⟨k92, XG, u90, rfl, g89, g91⟩
 refine ⟨_, rfl, ?_⟩
 replace h := h.Ir 33 k92 g89
 replace h := h.cZ 34 g91.up
 refine ae (au (v := (.tuple #[(.agg #[XG, u90, (.int .i64 (xB.1.status)), (.int .i64 (xB.1.aW))]), (.int .i64 (xB.2))])) rfl) (ae (bC rfl rfl) (ae (bC rfl rfl) (dm (vs := [XG, u90, (.int .i64 (xB.1.status)), (.int .i64 (xB.1.aW))]) h 5 [XG, u90, (.int .i64 (xB.1.status)), (.int .i64 (xB.1.aW))] rfl cu rfl rfl rfl rfl rfl (ax (h.gB 33 rfl).one (ax (h.gB 34 rfl).one (ax rfl (ax rfl aZ)))) fun w h => ae (aj (v := (.int .i64 (xB.2))) rfl) (ah (aa (ai (ag (ae (au (v := (.int .i64 (xB.2))) rfl) (ae (gq rfl rfl) (ah (aa (aI hs rfl (fun c93 hs => ?_) (fun c93 hs => ?_)))))))))))))
 refine ai (ag (ae (dC (pv := []) (out := [(.slice none 0 0), (.slice none 0 0), (.int .i64 (0)), (.int .i64 (0))]) pF rfl rfl) (ae (au (v := (.int .i64 (xB.2))) rfl) (ae (aj (v := (.slice none 0 0)) rfl) (dm (vs := [(.slice none 0 0), (.slice none 0 0), (.int .i64 (0)), (.int .i64 (0))]) h 2 [(.slice none 0 0), (.slice none 0 0), (.int .i64 (0)), (.int .i64 (0))] rfl cu rfl rfl rfl rfl rfl (ax rfl (ax rfl (ax rfl (ax rfl aZ)))) fun w h => ae (aj (v := (.int .i64 (xB.2))) rfl) (ah (aa (aK (aC (aH (aC (aC (aH (aC (CO (v1 := (.slice none 0 0)) (vs := [(.slice none 0 0), (.slice none 0 0), (.int .i64 (0)), (.int .i64 (0))]) (v3 := (.int .i64 (xB.2))) Tryz.results33 rfl rfl rfl h 2 rfl cu rfl ?_)))))))))))))))
 obtain rfl := Option.some.inj hs
 exact ⟨h.grown, _, _, _, rfl, dL.nil, jf, gp.nil, gp.nil⟩
 refine aG (az ?_)
 replace h := h.vG 33 28 rfl
 replace h := h.vG 34 29 rfl
 exact bQ (XG, xB.1.frames, u90, xB.1.cells, xB.1.status, xB.1.aW) ⟨h.cn _, hs⟩
 refine aG (az ?_)
 replace h := h.vG 26 28 rfl
 replace h := h.vG 27 29 rfl
 exact bQ (v50, QR, v52, zH, D7, QD) ⟨h.cn _, hs⟩
 refine df (aN (aN (bE (az ?_))))
 replace h := h.zU 25 15 rfl rfl (by decide)
 replace h := h.vG 26 6 rfl
 replace h := h.vG 27 7 rfl
 exact bQ (v47, Cz, v50, QR, v52, zH, D7, QD) ⟨h.cn _, hs⟩
def l9 (N : Nat) : Option Bool :=
  (jT N).bind fun y1 => (xh N y1).bind fun y7 => (wQ N y7 50 20).bind fun y13 => bif (decide ((y13.2.2 : Int) = 0) && decide ((y13.2.1.status : Int) = 1)) then (slices_Equal_int y13.1 [9, 4, 1]).bind fun FT => some FT else some false
theorem vM (N : Nat) (w0 : World) (M : BS) (hM : ∀ b, M b → b < w0.heap.size) (hT : uy Tryz.prog 4 w0)  (r : Bool) (hs : l9 N = some r) :
    Calls Tryz.prog 34 #[] w0 (fun e w' => Grow w0 w' ∧ e = .returned (.bool r)) := by
 refine aS (args := []) Tryz.func34 rfl Tryz.ntmps34 (Nat.le_of_ble_eq_true rfl) ?_
 have h := SH.init hM
 refine ai (ag (ae (aj (v := (.bool (false))) rfl) (ah (aa (ai (ag ?_))))))
 obtain ⟨y1, e2, hs⟩ := aQ hs
 refine bA Xi rfl rfl (zK N _ _ h.lt (hT.go h.keep)  _ e2) ?_
 rintro _ w ⟨k6, u3, rfl, g4, g5⟩
 refine ⟨_, rfl, ?_⟩
 replace h := h.jM 1 k6 g4 g5
 obtain ⟨y7, e8, hs⟩ := aQ hs
 refine bA Xh rfl rfl (Bz N _ _ h.lt u3 y1 (h.dM 1 rfl) _ e8) ?_
 rintro _ w ⟨k12, u9, rfl, g10, g11⟩
 refine ⟨_, rfl, ?_⟩
 replace h := h.jM 2 k12 g10 g11
 replace h := h.freeze 2 rfl
 obtain ⟨y13, e14, hs⟩ := aQ hs
 refine bA KE rfl rfl (zx N _ _ h.lt u9 y7 (h.gB 2 rfl) 50 20 _ e14) ?_
 rintro _ w ⟨k22, FN, Mk, u20, rfl, g16, g17, g19, g21⟩
 refine ⟨_, rfl, ?_⟩
 replace h := h.jM 3 k22 g16 g17
 replace h := h.cZ 4 g19.Ur
 replace h := h.cZ 5 g21.Ur.up
 refine ae (au (v := (.tuple #[FN, (.agg #[Mk, u20, (.int .i64 (y13.2.1.status)), (.int .i64 (y13.2.1.aW))]), (.int .i64 (y13.2.2))])) rfl) (ae (bC rfl rfl) (ae (bC rfl rfl) (ae (bC rfl rfl) (bT h 6 cu fun w BH h => ae (aj (v := FN) rfl) (dm (vs := [Mk, u20, (.int .i64 (y13.2.1.status)), (.int .i64 (y13.2.1.aW))]) h 6 [Mk, u20, (.int .i64 (y13.2.1.status)), (.int .i64 (y13.2.1.aW))] rfl cu rfl rfl rfl rfl rfl (ax (h.gB 4 rfl).one (ax (h.gB 5 rfl).one (ax rfl (ax rfl aZ)))) fun w h => ae (aj (v := (.int .i64 (y13.2.2))) rfl) (ah (aa (ai (ag (ae (au (v := (.int .i64 (y13.2.2))) rfl) (ae (bI rfl rfl) (ae (au (v := (.bool (decide ((y13.2.2 : Int) = 0)))) rfl) (aD rfl rfl (fun q => ak iN rfl) (aD rfl rfl (fun q => aF h 6 rfl bz (dn q) rfl) (aD rfl rfl (fun q => bI (dn q) rfl) (ae (fZ rfl rfl lV) (ae (au (v := (.bool ((decide ((y13.2.2 : Int) = 0) && decide ((y13.2.1.status : Int) = 1))))) rfl) (lW (b := (decide ((y13.2.2 : Int) = 0) && decide ((y13.2.1.status : Int) = 1))) hs (fun c24 hs => ?_) (fun c24 hs => ?_)))))))))))))))))))
 refine eY rfl (congrArg Value.bool c24) (ae (au (v := FN) rfl) (eY rfl (congrArg Value.bool c24) (uw (R := fF) (vs := [(.int .i64 (9)), (.int .i64 (4)), (.int .i64 (1))]) (xs := [9, 4, 1]) h 7 ky rfl rfl rfl ⟨rfl, ⟨rfl, ⟨rfl, trivial⟩⟩⟩ rfl fun w u25 h => eY rfl (congrArg Value.bool c24) ?_)))
 obtain ⟨FT, e27, hs⟩ := aQ hs
 refine bA MJ rfl rfl (rE _ _ h.lt FN y13.1 (h.dM 3 rfl) u25 [9, 4, 1] (h.dM 7 rfl) _ e27) ?_
 rintro _ w ⟨k28, rfl⟩
 refine ⟨_, rfl, ?_⟩
 replace h := h.grow k28
 refine ae (fw (b := true) (v := (.bool (FT))) (congrArg Value.bool c24) rfl) (ae (aj (v := (.bool (FT))) rfl) (ah (aa (aK (cK (v := (.bool (FT))) Tryz.results34 rfl ?_)))))
 obtain rfl := Option.some.inj hs
 exact ⟨h.grown, rfl⟩
 refine dh (b' := false) rfl (congrArg Value.bool c24) rfl (dh (b' := false) rfl (congrArg Value.bool c24) rfl (dh (b' := false) rfl (congrArg Value.bool c24) rfl (ae (fw (b := false) (v := (.bool (false))) (congrArg Value.bool c24) rfl) (ae (aj (v := (.bool (false))) rfl) (ah (aa (aK (cK (v := (.bool (false))) Tryz.results34 rfl ?_))))))))
 obtain rfl := Option.some.inj hs
 exact ⟨h.grown, rfl⟩
def iA (iF : List Int × LX.State × Int) (y27 : List Int × LX.State × Int) (y38 : List Int × LX.State × Int) (Vu : Bool) : Option Bool :=
  bif Vu then some false else bif ((decide ((iF.2.1.status : Int) = 1) && decide ((y27.2.1.status : Int) ≠ 1)) || (decide ((iF.2.1.status : Int) = 2) && decide ((y27.2.1.status : Int) ≠ 2))) then some false else (sub? iF.1 0 (min (iF.1.length : Int) (y38.1.length : Int))).bind fun HZ => (sub? y38.1 0 (min (iF.1.length : Int) (y38.1.length : Int))).bind fun H5 => (slices_Equal_int HZ H5).bind fun DC => bif DC then bif (!(((decide ((iF.2.1.status : Int) ≠ 0) && decide ((iF.2.1.status : Int) ≠ 3)) && decide ((y38.2.1.status : Int) ≠ 0)) && decide ((y38.2.1.status : Int) ≠ 3))) then some true else bif decide ((iF.2.1.status : Int) = y38.2.1.status) then some (decide (((iF.1.length : Int) : Int) = (y38.1.length : Int))) else some false else some false
def og (N : Nat) (a : List bP) (b : Int) (c : Int) (d : Int) (e : Int) : Option Bool :=
  (lu b 100).bind fun y1 => gz (jA (1 + y1)) ((lu c 100).bind fun y5 => gz (jA (1 + y5)) ((lu d 20).bind fun y9 => (lu e 20).bind fun Cb => (wQ N a (1 + y1) y9).bind fun iF => gz (jA (y9 + Cb)) ((wQ N a (1 + y1) (y9 + Cb)).bind fun y27 => (wQ N a (1 + y5) y9).bind fun y38 => (l9 N).bind fun FB => bif ((!FB) || decide ((iF.2.2 : Int) ≠ 0)) then (l9 N).bind fun zH => some ((zH && decide ((y27.2.2 : Int) = iF.2.2)) && decide ((y38.2.2 : Int) = iF.2.2)) else bif ((decide ((y27.2.2 : Int) ≠ 0) || decide ((y38.2.2 : Int) ≠ 0)) || decide (((y27.1.length : Int) : Int) < (iF.1.length : Int))) then iA iF y27 y38 true else (sub? y27.1 0 (iF.1.length : Int)).bind fun x66 => (slices_Equal_int iF.1 x66).bind fun uW => iA iF y27 y38 (!uW))))
theorem xK (N : Nat) (w0 : World) (M : BS) (hM : ∀ b, M b → b < w0.heap.size) (hT : uy Tryz.prog 4 w0) (va : Value) (a : List bP) (ha : fo jI w0 M va a) (b : Int) (c : Int) (d : Int) (e : Int) (r : Bool) (hs : og N a b c d e = some r) :
    Calls Tryz.prog 9 #[va, (.int .i64 (b)), (.int .i64 (c)), (.int .i64 (d)), (.int .i64 (e))] w0 (fun e w' => Grow w0 w' ∧ e = .returned (.bool r)) := by
 refine aS (args := [va, (.int .i64 (b)), (.int .i64 (c)), (.int .i64 (d)), (.int .i64 (e))]) Tryz.func9 rfl Tryz.ntmps9 (Nat.le_of_ble_eq_true rfl) ?_
 have h := SH.init hM
 replace h := h.QW 1 ha bR
 have u7 := ha.cO
 refine ai (ag (ae (aj (v := (.bool (false))) rfl) (ah (aa (ai (ag (ae (au (v := (.int .i64 (b))) rfl) ?_)))))))
 obtain ⟨y1, e2, hs⟩ := aQ hs
 refine bA JZ rfl rfl (qC _ _ h.lt b 100 _ e2) ?_
 rintro _ w ⟨k3, rfl⟩
 refine ⟨_, rfl, ?_⟩
 replace h := h.grow k3
 obtain ⟨a4, hs⟩ := bG hs
 refine ae (dw rfl rfl a4) (ae (au (v := (.int .i64 (c))) rfl) ?_)
 obtain ⟨y5, e6, hs⟩ := aQ hs
 refine bA JZ rfl rfl (qC _ _ h.lt c 100 _ e6) ?_
 rintro _ w ⟨k7, rfl⟩
 refine ⟨_, rfl, ?_⟩
 replace h := h.grow k7
 obtain ⟨a8, hs⟩ := bG hs
 refine ae (dw rfl rfl a8) (ae (au (v := (.int .i64 (d))) rfl) ?_)
 obtain ⟨y9, e10, hs⟩ := aQ hs
 refine bA JZ rfl rfl (qC _ _ h.lt d 20 _ e10) ?_
 rintro _ w ⟨k11, rfl⟩
 refine ⟨_, rfl, ?_⟩
 replace h := h.grow k11
 refine ae (au (v := (.int .i64 (e))) rfl) ?_
 obtain ⟨Cb, e13, hs⟩ := aQ hs
 refine bA JZ rfl rfl (qC _ _ h.lt e 20 _ e13) ?_
 rintro _ w ⟨k14, rfl⟩
 refine ⟨_, rfl, ?_⟩
 replace h := h.grow k14
 refine ae (aj (v := (.int .i64 ((1 + y1)))) rfl) (ae (aj (v := (.int .i64 ((1 + y5)))) rfl) (ae (aj (v := (.int .i64 (y9))) rfl) (ae (aj (v := (.int .i64 (Cb))) rfl) (ah (aa (ai (ag (ae (au (v := va) rfl) (ae (au (v := (.int .i64 ((1 + y1)))) rfl) (ae (au (v := (.int .i64 (y9))) rfl) ?_))))))))))
 obtain ⟨iF, e16, hs⟩ := aQ hs
 refine bA KE rfl rfl (zx N _ _ h.lt va a (h.gB 1 rfl) (1 + y1) y9 _ e16) ?_
 rintro _ w ⟨k24, C9, u20, u22, rfl, g18, g19, g21, g23⟩
 refine ⟨_, rfl, ?_⟩
 replace h := h.jM 2 k24 g18 g19
 replace h := h.cZ 3 g21.Ur
 replace h := h.cZ 4 g23.Ur.up
 refine ae (au (v := (.tuple #[C9, (.agg #[u20, u22, (.int .i64 (iF.2.1.status)), (.int .i64 (iF.2.1.aW))]), (.int .i64 (iF.2.2))])) rfl) (ae (bC rfl rfl) (ae (bC rfl rfl) (ae (bC rfl rfl) (bT h 5 cu fun w b25 h => ae (aj (v := C9) rfl) (dm (vs := [u20, u22, (.int .i64 (iF.2.1.status)), (.int .i64 (iF.2.1.aW))]) h 5 [u20, u22, (.int .i64 (iF.2.1.status)), (.int .i64 (iF.2.1.aW))] rfl cu rfl rfl rfl rfl rfl (ax (h.gB 3 rfl).one (ax (h.gB 4 rfl).one (ax rfl (ax rfl aZ)))) fun w h => ae (aj (v := (.int .i64 (iF.2.2))) rfl) (ah (aa (ai (ag (ae (au (v := va) rfl) (ae (au (v := (.int .i64 ((1 + y1)))) rfl) (ae (au (v := (.int .i64 (y9))) rfl) (ae (au (v := (.int .i64 (Cb))) rfl) ?_)))))))))))))
 obtain ⟨a26, hs⟩ := bG hs
 refine ae (dw rfl rfl a26) ?_
 obtain ⟨y27, e28, hs⟩ := aQ hs
 refine bA KE rfl rfl (zx N _ _ h.lt va a (h.gB 1 rfl) (1 + y1) (y9 + Cb) _ e28) ?_
 rintro _ w ⟨Uu, u29, u32, u34, rfl, g30, Z9, g33, g35⟩
 refine ⟨_, rfl, ?_⟩
 replace h := h.jM 6 Uu g30 Z9
 replace h := h.cZ 7 g33.Ur
 replace h := h.cZ 8 g35.Ur.up
 refine ae (au (v := (.tuple #[u29, (.agg #[u32, u34, (.int .i64 (y27.2.1.status)), (.int .i64 (y27.2.1.aW))]), (.int .i64 (y27.2.2))])) rfl) (ae (bC rfl rfl) (ae (bC rfl rfl) (ae (bC rfl rfl) (bT h 9 cu fun w b37 h => ae (aj (v := u29) rfl) (dm (vs := [u32, u34, (.int .i64 (y27.2.1.status)), (.int .i64 (y27.2.1.aW))]) h 9 [u32, u34, (.int .i64 (y27.2.1.status)), (.int .i64 (y27.2.1.aW))] rfl cu rfl rfl rfl rfl rfl (ax (h.gB 7 rfl).one (ax (h.gB 8 rfl).one (ax rfl (ax rfl aZ)))) fun w h => ae (aj (v := (.int .i64 (y27.2.2))) rfl) (ah (aa (ai (ag (ae (au (v := va) rfl) (ae (au (v := (.int .i64 ((1 + y5)))) rfl) (ae (au (v := (.int .i64 (y9))) rfl) ?_))))))))))))
 obtain ⟨y38, e39, hs⟩ := aQ hs
 refine bA KE rfl rfl (zx N _ _ h.lt va a (h.gB 1 rfl) (1 + y5) y9 _ e39) ?_
 rintro _ w ⟨k47, u40, Ux, u45, rfl, g41, g42, g44, g46⟩
 refine ⟨_, rfl, ?_⟩
 replace h := h.jM 10 k47 g41 g42
 replace h := h.cZ 11 g44.Ur
 replace h := h.cZ 12 g46.Ur.up
 refine ae (au (v := (.tuple #[u40, (.agg #[Ux, u45, (.int .i64 (y38.2.1.status)), (.int .i64 (y38.2.1.aW))]), (.int .i64 (y38.2.2))])) rfl) (ae (bC rfl rfl) (ae (bC rfl rfl) (ae (bC rfl rfl) (bT h 13 cu fun w b48 h => ae (aj (v := u40) rfl) (dm (vs := [Ux, u45, (.int .i64 (y38.2.1.status)), (.int .i64 (y38.2.1.aW))]) h 13 [Ux, u45, (.int .i64 (y38.2.1.status)), (.int .i64 (y38.2.1.aW))] rfl cu rfl rfl rfl rfl rfl (ax (h.gB 11 rfl).one (ax (h.gB 12 rfl).one (ax rfl (ax rfl aZ)))) fun w h => ae (aj (v := (.int .i64 (y38.2.2))) rfl) (ah (aa (ai (ai (ag ?_))))))))))
 obtain ⟨FB, e50, hs⟩ := aQ hs
 refine bA TZ rfl rfl (vM N _ _ h.lt (hT.go h.keep)  _ e50) ?_
 rintro _ w ⟨Zu, rfl⟩
 refine ⟨_, rfl, ?_⟩
 replace h := h.grow Zu
 refine ae (iq rfl) (ae (au (v := (.bool ((!FB)))) rfl) (aD rfl rfl (fun q => au (v := (.int .i64 (iF.2.2))) rfl) (aD rfl rfl (fun q => gq (dn q) rfl) (ae (gu rfl rfl lV) (ah (aa (aI hs rfl (fun Bv hs => ?_) (fun Bv hs => ?_))))))))
 refine ai (ag ?_)
 obtain ⟨zH, e54, hs⟩ := aQ hs
 refine bA TZ rfl rfl (vM N _ _ h.lt (hT.go h.keep)  _ e54) ?_
 rintro _ w ⟨Zv, rfl⟩
 refine ⟨_, rfl, ?_⟩
 replace h := h.grow Zv
 refine ae (au (v := (.bool (zH))) rfl) (aD rfl rfl (fun q => au (v := (.int .i64 (y27.2.2))) rfl) (aD rfl rfl (fun q => au (v := (.int .i64 (iF.2.2))) rfl) (aD rfl rfl (fun q => bI (dn q) (dn q)) (ae (fZ rfl rfl lV) (ae (au (v := (.bool ((zH && decide ((y27.2.2 : Int) = iF.2.2))))) rfl) (aD rfl rfl (fun q => au (v := (.int .i64 (y38.2.2))) rfl) (aD rfl rfl (fun q => au (v := (.int .i64 (iF.2.2))) rfl) (aD rfl rfl (fun q => bI (dn q) (dn q)) (ae (fZ rfl rfl lV) (ae (aj (v := (.bool (((zH && decide ((y27.2.2 : Int) = iF.2.2)) && decide ((y38.2.2 : Int) = iF.2.2))))) rfl) (ah (aa (aK (aC (cK (v := (.bool (((zH && decide ((y27.2.2 : Int) = iF.2.2)) && decide ((y38.2.2 : Int) = iF.2.2))))) Tryz.results9 rfl ?_)))))))))))))))
 obtain rfl := Option.some.inj hs
 exact ⟨h.grown, rfl⟩
 refine aG (aa (ai (bV (σ := Bool) (inl [75, 76, 77, 78, 79, 80, 81, 82, 83, 84, 85, 86, 87, 88, 89, 90, 91, 92, 93, 94, 95, 96]) (fun Vu => [(96, (.bool (Vu)))]) (fun Vu w => SH w0 M BE w (hset [(2, .own fF 3 C9 iF.1), (3, .rd iD u20 iF.2.1.frames), (4, .rd (uY aM) u22 iF.2.1.cells), (5, .blk b25 [u20, u22, (.int .i64 (iF.2.1.status)), (.int .i64 (iF.2.1.aW))]), (7, .rd iD u32 y27.2.1.frames), (8, .rd (uY aM) u34 y27.2.1.cells), (9, .blk b37 [u32, u34, (.int .i64 (y27.2.1.status)), (.int .i64 (y27.2.1.aW))]), (10, .own fF 3 u40 y38.1), (11, .rd iD Ux y38.2.1.frames), (12, .rd (uY aM) u45 y38.2.1.cells), (13, .blk b48 [Ux, u45, (.int .i64 (y38.2.1.status)), (.int .i64 (y38.2.1.aW))])]) ∧ iA iF y27 y38 Vu = some r) ?_ ?_)))
 rintro Vu w dz ⟨h, hs⟩
 refine aI hs rfl (fun c57 hs => ?_) (fun c57 hs => ?_)
 refine ai (ag (ae (aj (v := (.bool (false))) rfl) (ah (aa (aK (aC (cK (v := (.bool (false))) Tryz.results9 rfl ?_)))))))
 obtain rfl := Option.some.inj hs
 exact ⟨h.grown, rfl⟩
 refine aG (aa (ai (ai (ag (ae (ak iN rfl) (ae (aF h 5 rfl bz rfl rfl) (ae (bI rfl rfl) (ae (au (v := (.bool (decide ((iF.2.1.status : Int) = 1)))) rfl) (aD rfl rfl (fun q => ak iN rfl) (aD rfl rfl (fun q => aF h 9 rfl bz (dn q) rfl) (aD rfl rfl (fun q => gq (dn q) rfl) (ae (fZ rfl rfl lV) (ae (au (v := (.bool ((decide ((iF.2.1.status : Int) = 1) && decide ((y27.2.1.status : Int) ≠ 1))))) rfl) (aD rfl rfl (fun q => ak iN rfl) (aD rfl rfl (fun q => aF h 5 rfl bz (dn q) rfl) (aD rfl rfl (fun q => bI (dn q) rfl) (aD rfl rfl (fun q => au (v := (.bool (decide ((iF.2.1.status : Int) = 2)))) (dn q)) (kr ((decide ((iF.2.1.status : Int) = 1) && decide ((y27.2.1.status : Int) ≠ 1)) == false) rfl rfl (fun q => ak iN rfl) (kr ((decide ((iF.2.1.status : Int) = 1) && decide ((y27.2.1.status : Int) ≠ 1)) == false) rfl rfl (fun q => aF h 9 rfl bz (dn q) rfl) (kr ((decide ((iF.2.1.status : Int) = 1) && decide ((y27.2.1.status : Int) ≠ 1)) == false) rfl rfl (fun q => gq (dn q) rfl) (aD rfl rfl (fun q => fZ (dn q) (OZ q) lV) (ae (gu rfl rfl lV) (ah ?_)))))))))))))))))))))))
 refine aa (aI hs rfl (fun c58 hs => ?_) (fun c58 hs => ?_))
 refine ai (ag (ae (aj (v := (.bool (false))) rfl) (ah (aa (aK (aC (cK (v := (.bool (false))) Tryz.results9 rfl ?_)))))))
 obtain rfl := Option.some.inj hs
 exact ⟨h.grown, rfl⟩
 refine aG (aa (ai (ag (ae (au (v := C9) rfl) (ae (bY bW rfl (h.dM 2 rfl)) (ae (au (v := u40) rfl) (ae (bY bW rfl (h.dM 10 rfl)) (ae (VT rfl rfl) (ae (aj (v := (.int .i64 ((min (iF.1.length : Int) (y38.1.length : Int))))) rfl) (ah (aa (ai (ag (ae (ak iN rfl) (ae (aF h 5 rfl bz rfl rfl) (ae (gq rfl rfl) (ae (au (v := (.bool (decide ((iF.2.1.status : Int) ≠ 0)))) rfl) (aD rfl rfl (fun q => ak iN rfl) (aD rfl rfl (fun q => aF h 5 rfl bz (dn q) rfl) (aD rfl rfl (fun q => gq (dn q) rfl) (ae (fZ rfl rfl lV) (ae (au (v := (.bool ((decide ((iF.2.1.status : Int) ≠ 0) && decide ((iF.2.1.status : Int) ≠ 3))))) rfl) (aD rfl rfl (fun q => ak iN rfl) ?_)))))))))))))))))))))))
 refine aD rfl rfl (fun q => aF h 13 rfl bz (dn q) rfl) (aD rfl rfl (fun q => gq (dn q) rfl) (ae (fZ rfl rfl lV) (ae (au (v := (.bool (((decide ((iF.2.1.status : Int) ≠ 0) && decide ((iF.2.1.status : Int) ≠ 3)) && decide ((y38.2.1.status : Int) ≠ 0))))) rfl) (aD rfl rfl (fun q => ak iN rfl) (aD rfl rfl (fun q => aF h 13 rfl bz (dn q) rfl) (aD rfl rfl (fun q => gq (dn q) rfl) (ae (fZ rfl rfl lV) (ae (aj (v := (.bool ((((decide ((iF.2.1.status : Int) ≠ 0) && decide ((iF.2.1.status : Int) ≠ 3)) && decide ((y38.2.1.status : Int) ≠ 0)) && decide ((y38.2.1.status : Int) ≠ 3))))) rfl) (ah (aa (ai (CP mixed h fun w h => dA 0 (aP.refl BE _) rfl ay (by kernel_rfl) (by kernel_rfl) (by kernel_rfl) (fun w hk => au (v := C9) rfl) (dA 1 (aP.refl BE _) rfl ay (by kernel_rfl) (by kernel_rfl) (by kernel_rfl) (fun w hk => au (v := (.int .i64 ((min (iF.1.length : Int) (y38.1.length : Int))))) rfl) ?_)))))))))))))
 obtain ⟨HZ, Ua, hs⟩ := aQ hs
 obtain ⟨Ub, QE, QF, QG⟩ := Iy Ua
 obtain ⟨Uc, Ud, -, QH⟩ := NZ bW (h.dM 2 rfl) QE QF QG
 refine dA 2 (aP.refl BE _) rfl ay (by kernel_rfl) (by kernel_rfl) (by kernel_rfl) (fun w hk => Ud _ _ _ _ _ _ _ _ _ _ rfl (.inl ⟨rfl, rfl⟩) (.inr (congrArg some rfl))) (dA 3 (aP.refl BE _) rfl ay (by kernel_rfl) (by kernel_rfl) (by kernel_rfl) (fun w hk => au (v := u40) rfl) (dA 4 (aP.refl BE _) rfl ay (by kernel_rfl) (by kernel_rfl) (by kernel_rfl) (fun w hk => au (v := (.int .i64 ((min (iF.1.length : Int) (y38.1.length : Int))))) rfl) ?_))
 obtain ⟨H5, Ue, hs⟩ := aQ hs
 obtain ⟨Uf, QI, QJ, QK⟩ := Iy Ue
 obtain ⟨Ug, Uh, -, QL⟩ := NZ bW (h.dM 10 rfl) QI QJ QK
 refine dA 5 (aP.refl BE _) rfl ay (by kernel_rfl) (by kernel_rfl) (by kernel_rfl) (fun w hk => Uh _ _ _ _ _ _ _ _ _ _ rfl (.inl ⟨rfl, rfl⟩) (.inr (congrArg some rfl))) ?_
 obtain ⟨ws60, Wx⟩ : ∃ x, x = w := ⟨_, rfl⟩
 have mr : Grow ws60 w := Wx ▸ aP.refl BE w
 refine KP Wx.symm (xn 6 (by kernel_rfl) rfl ay ?_)
 obtain ⟨DC, Ui, hs⟩ := aQ hs
 refine bA MJ rfl rfl (rE _ _ h.lt Uc HZ (by rw [Ub]; exact QH _ _ _ _ (h.dM 2 rfl) rfl) Ug H5 (by rw [Uf]; exact QL _ _ _ _ (h.dM 10 rfl) rfl) _ Ui) ?_
 rintro _ w ⟨Mi, rfl⟩
 refine ⟨_, rfl, ?_⟩
 replace h := h.grow Mi
 replace mr := mr.trans Mi
 refine ah (qW mr (dA 7 mr rfl ay (by kernel_rfl) (by kernel_rfl) (by kernel_rfl) (fun w hk => au (v := (.bool (DC))) rfl) (lW (b := DC) hs (fun Ke hs => ?_) (fun Ke hs => ?_))))
 refine dA 8 mr rfl (jX rfl (congrArg Value.bool Ke)) (by kernel_rfl) (by kernel_rfl) (by kernel_rfl) (fun w hk => au (v := (.bool ((((decide ((iF.2.1.status : Int) ≠ 0) && decide ((iF.2.1.status : Int) ≠ 3)) && decide ((y38.2.1.status : Int) ≠ 0)) && decide ((y38.2.1.status : Int) ≠ 3))))) rfl) (dA 9 mr rfl (jX rfl (congrArg Value.bool Ke)) (by kernel_rfl) (by kernel_rfl) (by kernel_rfl) (fun w hk => iq rfl) (dA 10 mr rfl (jX rfl (congrArg Value.bool Ke)) (by kernel_rfl) (by kernel_rfl) (by kernel_rfl) (fun w hk => au (v := (.bool ((!(((decide ((iF.2.1.status : Int) ≠ 0) && decide ((iF.2.1.status : Int) ≠ 3)) && decide ((y38.2.1.status : Int) ≠ 0)) && decide ((y38.2.1.status : Int) ≠ 3)))))) rfl) (lW (b := (!(((decide ((iF.2.1.status : Int) ≠ 0) && decide ((iF.2.1.status : Int) ≠ 3)) && decide ((y38.2.1.status : Int) ≠ 0)) && decide ((y38.2.1.status : Int) ≠ 3)))) hs (fun Gv hs => ?_) (fun Gv hs => ?_))))
 refine fD 11 mr rfl (jS (b' := true) rfl (congrArg Value.bool Gv) rfl) (by kernel_rfl) (by kernel_rfl) (by kernel_rfl) (fD 12 mr rfl (jS (b' := true) rfl (congrArg Value.bool Gv) rfl) (by kernel_rfl) (by kernel_rfl) (by kernel_rfl) (fD 13 mr rfl (jS (b' := true) rfl (congrArg Value.bool Gv) rfl) (by kernel_rfl) (by kernel_rfl) (by kernel_rfl) (fD 14 mr rfl (jS (b' := true) rfl (congrArg Value.bool Gv) rfl) (by kernel_rfl) (by kernel_rfl) (by kernel_rfl) (fD 15 mr rfl (jS (b' := true) rfl (congrArg Value.bool Gv) rfl) (by kernel_rfl) (by kernel_rfl) (by kernel_rfl) (fD 16 mr rfl (jS (b' := true) rfl (congrArg Value.bool Gv) rfl) (by kernel_rfl) (by kernel_rfl) (by kernel_rfl) (fD 17 mr rfl (gV rfl rfl) (by kernel_rfl) (by kernel_rfl) (by kernel_rfl) (fD 18 mr rfl (gV rfl rfl) (by kernel_rfl) (by kernel_rfl) (by kernel_rfl) (fD 19 mr rfl (gV rfl rfl) (by kernel_rfl) (by kernel_rfl) (by kernel_rfl) (fD 20 mr rfl (gV rfl rfl) (by kernel_rfl) (by kernel_rfl) (by kernel_rfl) (fD 21 mr rfl (gV rfl rfl) (by kernel_rfl) (by kernel_rfl) (by kernel_rfl) (fD 22 mr rfl (jS (b' := true) rfl (congrArg Value.bool Gv) rfl) (by kernel_rfl) (by kernel_rfl) (by kernel_rfl) (dA 23 mr rfl (jX rfl (congrArg Value.bool Ke)) (by kernel_rfl) (by kernel_rfl) (by kernel_rfl) (fun w hk => fw (b := true) (v := (.bool (true))) (congrArg Value.bool Gv) rfl) (dA 24 mr rfl ay (by kernel_rfl) (by kernel_rfl) (by kernel_rfl) (fun w hk => fw (b := true) (v := (.bool (true))) (congrArg Value.bool Ke) rfl) (dA 25 mr rfl ay (by kernel_rfl) (by kernel_rfl) (by kernel_rfl) (fun w hk => aj (v := (.bool (true))) rfl) (vQ (by kernel_rfl) (aa (aK (cK (v := (.bool (true))) Tryz.results9 rfl ?_))))))))))))))))))
 obtain rfl := Option.some.inj hs
 exact ⟨h.grown, rfl⟩
 refine dA 11 mr rfl (jX rfl (congrArg Value.bool Gv)) (by kernel_rfl) (by kernel_rfl) (by kernel_rfl) (fun w hk => ak iN rfl) (Od mr ?_)
 obtain ⟨NR, Mj⟩ : ∃ x, x = w := ⟨_, rfl⟩
 have Yk : Grow NR w := Mj ▸ aP.refl _ _
 refine dA 12 (aP.refl BE _) rfl (jX rfl (congrArg Value.bool Gv)) (by kernel_rfl) (by kernel_rfl) (by kernel_rfl) (fun w hk => have h := h.grow hk; aF h 5 rfl bz rfl rfl) (dA 13 (aP.refl BE _) rfl (jX rfl (congrArg Value.bool Gv)) (by kernel_rfl) (by kernel_rfl) (by kernel_rfl) (fun w hk => ak iN rfl) (dA 14 (aP.refl BE _) rfl (jX rfl (congrArg Value.bool Gv)) (by kernel_rfl) (by kernel_rfl) (by kernel_rfl) (fun w hk => have h := h.grow hk; aF h 13 rfl bz rfl rfl) (dA 15 (aP.refl BE _) rfl (jX rfl (congrArg Value.bool Gv)) (by kernel_rfl) (by kernel_rfl) (by kernel_rfl) (fun w hk => bI rfl rfl) (dA 16 (aP.refl BE _) rfl (jX rfl (congrArg Value.bool Gv)) (by kernel_rfl) (by kernel_rfl) (by kernel_rfl) (fun w hk => au (v := (.bool (decide ((iF.2.1.status : Int) = y38.2.1.status)))) rfl) (lW (b := decide ((iF.2.1.status : Int) = y38.2.1.status)) hs (fun c64 hs => ?_) (fun c64 hs => ?_))))))
 refine dA 17 (aP.refl BE _) rfl (jX rfl (congrArg Value.bool c64)) (by kernel_rfl) (by kernel_rfl) (by kernel_rfl) (fun w hk => au (v := C9) rfl) (dA 18 (aP.refl BE _) rfl (jX rfl (congrArg Value.bool c64)) (by kernel_rfl) (by kernel_rfl) (by kernel_rfl) (fun w hk => bY bW rfl (h.dM 2 rfl)) (dA 19 (aP.refl BE _) rfl (jX rfl (congrArg Value.bool c64)) (by kernel_rfl) (by kernel_rfl) (by kernel_rfl) (fun w hk => au (v := u40) rfl) (dA 20 (aP.refl BE _) rfl (jX rfl (congrArg Value.bool c64)) (by kernel_rfl) (by kernel_rfl) (by kernel_rfl) (fun w hk => bY bW rfl (h.dM 10 rfl)) (dA 21 (aP.refl BE _) rfl (jX rfl (congrArg Value.bool c64)) (by kernel_rfl) (by kernel_rfl) (by kernel_rfl) (fun w hk => bI rfl rfl) (dA 22 (aP.refl BE _) rfl (jX rfl (congrArg Value.bool Gv)) (by kernel_rfl) (by kernel_rfl) (by kernel_rfl) (fun w hk => fw (b := true) (v := (.bool (decide (((iF.1.length : Int) : Int) = (y38.1.length : Int))))) (congrArg Value.bool c64) rfl) (dA 23 (aP.refl BE _) rfl (jX rfl (congrArg Value.bool Ke)) (by kernel_rfl) (by kernel_rfl) (by kernel_rfl) (fun w hk => fw (b := false) (v := (.bool (decide (((iF.1.length : Int) : Int) = (y38.1.length : Int))))) (congrArg Value.bool Gv) rfl) (dA 24 (aP.refl BE _) rfl ay (by kernel_rfl) (by kernel_rfl) (by kernel_rfl) (fun w hk => fw (b := true) (v := (.bool (decide (((iF.1.length : Int) : Int) = (y38.1.length : Int))))) (congrArg Value.bool Ke) rfl) (dA 25 (aP.refl BE _) rfl ay (by kernel_rfl) (by kernel_rfl) (by kernel_rfl) (fun w hk => aj (v := (.bool (decide (((iF.1.length : Int) : Int) = (y38.1.length : Int))))) rfl) (vQ (by kernel_rfl) (aa (aK (cK (v := (.bool (decide (((iF.1.length : Int) : Int) = (y38.1.length : Int))))) Tryz.results9 rfl ?_))))))))))))
 obtain rfl := Option.some.inj hs
 exact ⟨h.grown, rfl⟩
 refine fD 17 (aP.refl BE _) rfl (jS (b' := false) rfl (congrArg Value.bool c64) rfl) (by kernel_rfl) (by kernel_rfl) (by kernel_rfl) (fD 18 (aP.refl BE _) rfl (jS (b' := false) rfl (congrArg Value.bool c64) rfl) (by kernel_rfl) (by kernel_rfl) (by kernel_rfl) (fD 19 (aP.refl BE _) rfl (jS (b' := false) rfl (congrArg Value.bool c64) rfl) (by kernel_rfl) (by kernel_rfl) (by kernel_rfl) (fD 20 (aP.refl BE _) rfl (jS (b' := false) rfl (congrArg Value.bool c64) rfl) (by kernel_rfl) (by kernel_rfl) (by kernel_rfl) (fD 21 (aP.refl BE _) rfl (jS (b' := false) rfl (congrArg Value.bool c64) rfl) (by kernel_rfl) (by kernel_rfl) (by kernel_rfl) (dA 22 (aP.refl BE _) rfl (jX rfl (congrArg Value.bool Gv)) (by kernel_rfl) (by kernel_rfl) (by kernel_rfl) (fun w hk => fw (b := false) (v := (.bool (false))) (congrArg Value.bool c64) rfl) (dA 23 (aP.refl BE _) rfl (jX rfl (congrArg Value.bool Ke)) (by kernel_rfl) (by kernel_rfl) (by kernel_rfl) (fun w hk => fw (b := false) (v := (.bool (false))) (congrArg Value.bool Gv) rfl) (dA 24 (aP.refl BE _) rfl ay (by kernel_rfl) (by kernel_rfl) (by kernel_rfl) (fun w hk => fw (b := true) (v := (.bool (false))) (congrArg Value.bool Ke) rfl) (dA 25 (aP.refl BE _) rfl ay (by kernel_rfl) (by kernel_rfl) (by kernel_rfl) (fun w hk => aj (v := (.bool (false))) rfl) (vQ (by kernel_rfl) (aa (aK (cK (v := (.bool (false))) Tryz.results9 rfl ?_))))))))))))
 obtain rfl := Option.some.inj hs
 exact ⟨h.grown, rfl⟩
 refine fD 8 mr rfl (jS (b' := false) rfl (congrArg Value.bool Ke) rfl) (by kernel_rfl) (by kernel_rfl) (by kernel_rfl) (fD 9 mr rfl (jS (b' := false) rfl (congrArg Value.bool Ke) rfl) (by kernel_rfl) (by kernel_rfl) (by kernel_rfl) (fD 10 mr rfl (jS (b' := false) rfl (congrArg Value.bool Ke) rfl) (by kernel_rfl) (by kernel_rfl) (by kernel_rfl) (fD 11 mr rfl (gV rfl rfl) (by kernel_rfl) (by kernel_rfl) (by kernel_rfl) (fD 12 mr rfl (gV rfl rfl) (by kernel_rfl) (by kernel_rfl) (by kernel_rfl) (fD 13 mr rfl (gV rfl rfl) (by kernel_rfl) (by kernel_rfl) (by kernel_rfl) (fD 14 mr rfl (gV rfl rfl) (by kernel_rfl) (by kernel_rfl) (by kernel_rfl) (fD 15 mr rfl (gV rfl rfl) (by kernel_rfl) (by kernel_rfl) (by kernel_rfl) (fD 16 mr rfl (gV rfl rfl) (by kernel_rfl) (by kernel_rfl) (by kernel_rfl) (fD 17 mr rfl (gV rfl rfl) (by kernel_rfl) (by kernel_rfl) (by kernel_rfl) (fD 18 mr rfl (gV rfl rfl) (by kernel_rfl) (by kernel_rfl) (by kernel_rfl) (fD 19 mr rfl (gV rfl rfl) (by kernel_rfl) (by kernel_rfl) (by kernel_rfl) (fD 20 mr rfl (gV rfl rfl) (by kernel_rfl) (by kernel_rfl) (by kernel_rfl) (fD 21 mr rfl (gV rfl rfl) (by kernel_rfl) (by kernel_rfl) (by kernel_rfl) (fD 22 mr rfl (gV rfl rfl) (by kernel_rfl) (by kernel_rfl) (by kernel_rfl) (fD 23 mr rfl (jS (b' := false) rfl (congrArg Value.bool Ke) rfl) (by kernel_rfl) (by kernel_rfl) (by kernel_rfl) (dA 24 mr rfl ay (by kernel_rfl) (by kernel_rfl) (by kernel_rfl) (fun w hk => fw (b := false) (v := (.bool (false))) (congrArg Value.bool Ke) rfl) (dA 25 mr rfl ay (by kernel_rfl) (by kernel_rfl) (by kernel_rfl) (fun w hk => aj (v := (.bool (false))) rfl) (vQ (by kernel_rfl) (aa (aK (cK (v := (.bool (false))) Tryz.results9 rfl ?_)))))))))))))))))))))
 obtain rfl := Option.some.inj hs
 exact ⟨h.grown, rfl⟩
 refine ag (ae (au (v := (.int .i64 (y27.2.2))) rfl) (ae (gq rfl rfl) (ae (au (v := (.bool (decide ((y27.2.2 : Int) ≠ 0)))) rfl) (aD rfl rfl (fun q => au (v := (.int .i64 (y38.2.2))) rfl) (aD rfl rfl (fun q => gq (dn q) rfl) (ae (gu rfl rfl lV) (ae (au (v := (.bool ((decide ((y27.2.2 : Int) ≠ 0) || decide ((y38.2.2 : Int) ≠ 0))))) rfl) (aD rfl rfl (fun q => au (v := u29) rfl) (aD rfl rfl (fun q => bY bW (dn q) (h.dM 6 rfl)) (aD rfl rfl (fun q => au (v := C9) rfl) (aD rfl rfl (fun q => bY bW (dn q) (h.dM 2 rfl)) (aD rfl rfl (fun q => dN (dn q) (dn q)) (ae (gu rfl rfl lV) (ae (au (v := (.bool (((decide ((y27.2.2 : Int) ≠ 0) || decide ((y38.2.2 : Int) ≠ 0)) || decide (((y27.1.length : Int) : Int) < (iF.1.length : Int)))))) rfl) (lW (b := ((decide ((y27.2.2 : Int) ≠ 0) || decide ((y38.2.2 : Int) ≠ 0)) || decide (((y27.1.length : Int) : Int) < (iF.1.length : Int)))) hs (fun vg hs => ?_) (fun vg hs => ?_))))))))))))))))
 refine dh (b' := true) rfl (congrArg Value.bool vg) rfl (dh (b' := true) rfl (congrArg Value.bool vg) rfl (dh (b' := true) rfl (congrArg Value.bool vg) rfl (dh (b' := true) rfl (congrArg Value.bool vg) rfl (dh (b' := true) rfl (congrArg Value.bool vg) rfl (dh (b' := true) rfl (congrArg Value.bool vg) rfl (dh (b' := true) rfl (congrArg Value.bool vg) rfl (ae (fw (b := true) (v := (.bool (true))) (congrArg Value.bool vg) rfl) (ah (az ?_)))))))))
 exact bQ true ⟨h.cn _, hs⟩
 refine eY rfl (congrArg Value.bool vg) (ae (au (v := C9) rfl) (eY rfl (congrArg Value.bool vg) (ae (au (v := u29) rfl) (eY rfl (congrArg Value.bool vg) (ae (au (v := C9) rfl) (eY rfl (congrArg Value.bool vg) (ae (bY bW rfl (h.dM 2 rfl)) (eY rfl (congrArg Value.bool vg) ?_))))))))
 obtain ⟨x66, XU, hs⟩ := aQ hs
 obtain ⟨e70, e70a, e70b, e70c⟩ := Iy XU
 obtain ⟨u68, i69, -, i69v⟩ := NZ bW (h.dM 6 rfl) e70a e70b e70c
 refine ae (i69 _ _ _ _ _ _ _ _ _ _ rfl (.inl ⟨rfl, rfl⟩) (.inr (congrArg some rfl))) (eY rfl (congrArg Value.bool vg) ?_)
 obtain ⟨uW, XV, hs⟩ := aQ hs
 refine bA MJ rfl rfl (rE _ _ h.lt C9 iF.1 (h.dM 2 rfl) u68 x66 (by rw [e70]; exact i69v _ _ _ _ (h.dM 6 rfl) rfl) _ XV) ?_
 rintro _ w ⟨k73, rfl⟩
 refine ⟨_, rfl, ?_⟩
 replace h := h.grow k73
 refine eY rfl (congrArg Value.bool vg) (ae (iq rfl) (ae (fw (b := false) (v := (.bool ((!uW)))) (congrArg Value.bool vg) rfl) (ah (az ?_))))
 exact bQ (!uW) ⟨h.cn _, hs⟩
end
end Go.Proofs.YtfclkapelkhlpaaGreatDoor
namespace Go.Proofs.YtfclkapelkhlpaaGreatDoor
open Go Go.Proofs Go.LX
theorem Uj : l9 NN = some true := by
  unfold l9
  rw [Qq]
  kernel_rfl
end Go.Proofs.YtfclkapelkhlpaaGreatDoor
namespace Go.Proofs.YtfclkapelkhlpaaGreatDoor
open Go Go.Proofs Go.LX
def wake (s : LX.State) : LX.State := if s.status = 3 then ⟨s.frames, s.cells, 0, 0⟩ else s
def stepW (a : List bP) (s : LX.State) : Option (LX.State × List Int) :=
  if (wake s).status ≠ 0 then none else match wP a (wake s) with
    | none => some ({ wake s with status := 2 }, [])
    | some (t, o, _) => some (t, o.toList)
def oz (a : List bP) : Nat → LX.State → LX.State × List Int
  | 0, s => (s, [])
  | n + 1, s => match stepW a s with
    | none => (s, [])
    | some (t, o) => ((oz a n t).1, o ++ (oz a n t).2)
theorem Cw {a : List bP} {s : LX.State} (h : (wake s).status ≠ 0) : ∀ n, oz a n s = (s, [])
  | 0 => rfl
  | n + 1 => by unfold oz stepW; rw [if_pos h]
theorem Cx {a : List bP} {s : LX.State} (h : stepW a s = none) : ∀ n, oz a n s = (s, [])
  | 0 => rfl
  | n + 1 => by unfold oz; rw [h]
theorem uh {a : List bP} {s t : LX.State} {o : List Int} (h : stepW a s = some (t, o)) (n : Nat) : oz a (n + 1) s = ((oz a n t).1, o ++ (oz a n t).2) := by
  conv => lhs; unfold oz
  rw [h]
theorem Br {a : List bP} : ∀ (j k : Nat) (s : LX.State), oz a (j + k) s = ((oz a k (oz a j s).1).1, (oz a j s).2 ++ (oz a k (oz a j s).1).2)
  | 0, k, s => by rw [Nat.zero_add]; rfl
  | j + 1, k, s => by
    rw [show j + 1 + k = (j + k) + 1 by omega]
    cases e : stepW a s with
    | none => rw [Cx e, Cx e, Cx e]; rfl
    | some q =>
      obtain ⟨t, o⟩ := q
      rw [uh e, uh e, Br j k t]
      simp only [List.append_assoc]
theorem H6 {s : LX.State} (h : s.status = 0) : wake s = s := by unfold wake; rw [if_neg (by omega)]
theorem QM (s : LX.State) : wake (wake s) = wake s := by
  unfold wake
  by_cases h : s.status = 3
  · rw [if_pos h, if_neg (by simp)]
  · rw [if_neg h, if_neg h]
theorem NS (a : List bP) (s : LX.State) : stepW a (wake s) = stepW a s := by unfold stepW; rw [QM]
theorem NT {a : List bP} {s : LX.State} {n : Nat} (h : 1 ≤ n) (h0 : (wake s).status = 0) : oz a n (wake s) = oz a n s := by
  obtain ⟨m, rfl⟩ : ∃ m, n = m + 1 := ⟨n - 1, by omega⟩
  have e := NS a s
  cases e2 : stepW a s with
  | none =>
    exfalso
    unfold stepW at e2
    rw [if_neg (by omega)] at e2
    cases e3 : wP a (wake s) with
    | none => rw [e3] at e2; cases e2
    | some q => rw [e3] at e2; cases e2
  | some q =>
    obtain ⟨t, o⟩ := q
    rw [uh e2, uh (e.trans e2)]
theorem Uk {a : List bP} : ∀ (k : Nat) (s : LX.State), (∀ j, j < k → (iter a j s).1.status = 0) → iter a k s = oz a k s
  | 0, s, _ => rfl
  | k + 1, s, h => by
    have h0 : s.status = 0 := h 0 (by omega)
    cases e : wP a s with
    | none =>
      have e1 : iter a (k + 1) s = ({ s with status := 2 }, []) := by unfold iter; rw [if_neg (by omega), e]
      have e2 : stepW a s = some ({ s with status := 2 }, []) := by unfold stepW; rw [H6 h0, if_neg (by omega), e]
      rw [e1, uh e2, Cw (by unfold wake; simp)]; rfl
    | some q =>
      obtain ⟨t, o, p⟩ := q
      have e1 : ∀ q, iter a (q + 1) s = ((iter a q t).1, o.toList ++ (iter a q t).2) := fun q => by
        conv => lhs; unfold iter
        rw [if_neg (by omega), e]
      have e2 : stepW a s = some (t, o.toList) := by unfold stepW; rw [H6 h0, if_neg (by omega), e]
      rw [e1, uh e2, Uk k t (fun j hj => by have := h (j + 1) (by omega); rw [e1] at this; exact this)]
def gy (a : List bP) (fuel : Nat) : Nat → List Int → LX.State → List Int × LX.State
  | 0, all, s => (all, s)
  | t + 1, all, s => if (wake s).status ≠ 0 then (all, s) else gy a fuel t (all ++ (qi a fuel [] 0 (wake s)).2.1) (qi a fuel [] 0 (wake s)).1
theorem wR {a : List bP} {fuel : Nat} {s : LX.State} (h : (wake s).status ≠ 0) (all : List Int) : ∀ t, gy a fuel t all s = (all, s)
  | 0 => rfl
  | t + 1 => by unfold gy; rw [if_pos h]
theorem H7 {a : List bP} {fuel : Nat} {s : LX.State} (h : ¬ (wake s).status ≠ 0) (all : List Int) (t : Nat) : gy a fuel (t + 1) all s = gy a fuel t (all ++ (qi a fuel [] 0 (wake s)).2.1) (qi a fuel [] 0 (wake s)).1 := by
  conv => lhs; unfold gy
  rw [if_neg h]
theorem zy {a : List bP} {fuel : Nat} (hf : 1 ≤ fuel) : ∀ (t : Nat) (all : List Int) (s : LX.State), ∃ k, gy a fuel t all s = (all ++ (oz a k s).2, (oz a k s).1)
  | 0, all, s => ⟨0, by simp [gy, oz]⟩
  | t + 1, all, s => by
    unfold gy
    by_cases h : (wake s).status ≠ 0
    · rw [if_pos h]; exact ⟨0, by simp [oz]⟩
    · rw [if_neg h]
      have h0 : (wake s).status = 0 := Decidable.not_not.1 h
      obtain ⟨k, k1, k2, k3, k4⟩ := Mh (a := a) fuel [] 0 (wake s)
      have k5 := k4 hf h0 rfl
      rw [k2]
      simp only [List.nil_append]
      rw [Uk k _ k3, NT k5 h0]
      obtain ⟨j, hj⟩ := zy hf t (all ++ (oz a k s).2) (oz a k s).1
      exact ⟨k + j, by rw [hj, Br, List.append_assoc]⟩
theorem EW {a : List bP} {fuel : Nat} : ∀ (t u : Nat) (all : List Int) (s : LX.State), gy a fuel (t + u) all s = gy a fuel u (gy a fuel t all s).1 (gy a fuel t all s).2
  | 0, u, all, s => by rw [Nat.zero_add]; rfl
  | t + 1, u, all, s => by
    by_cases h : (wake s).status ≠ 0
    · rw [wR h, wR h, wR h]
    · rw [show t + 1 + u = (t + u) + 1 by omega, H7 h, H7 h]
      exact EW t u _ _
theorem QN {a : List bP} {fuel : Nat} (hf : 1 ≤ fuel) (t : Nat) (all : List Int) (s : LX.State) : all <+: (gy a fuel t all s).1 := by
  obtain ⟨k, hk⟩ := zy (a := a) hf t all s
  rw [hk]; exact List.prefix_append _ _
theorem EX {s : LX.State} (h0 : s.status ≠ 0) (h3 : s.status ≠ 3) : (wake s).status ≠ 0 := by unfold wake; rw [if_neg h3]; exact h0
theorem Ul {a : List bP} {f g : Nat} (hf : 1 ≤ f) (hg : 1 ≤ g) (t u : Nat) (s : LX.State) :
    ((gy a f t [] s).1 <+: (gy a g u [] s).1 ∨ (gy a g u [] s).1 <+: (gy a f t [] s).1) ∧
    ((wake (gy a f t [] s).2).status ≠ 0 → (wake (gy a g u [] s).2).status ≠ 0 → gy a f t [] s = gy a g u [] s) := by
  obtain ⟨j, hj⟩ := zy (a := a) hf t [] s
  obtain ⟨k, hk⟩ := zy (a := a) hg u [] s
  rw [hj, hk]
  simp only [List.nil_append]
  rcases Nat.le_total j k with h | h
  · have e := Br (a := a) j (k - j) s
    rw [show j + (k - j) = k by omega] at e
    rw [e]
    refine ⟨.inl (List.prefix_append _ _), fun h1 _ => ?_⟩
    rw [Cw h1]; simp
  · have e := Br (a := a) k (j - k) s
    rw [show k + (j - k) = j by omega] at e
    rw [e]
    refine ⟨.inr (List.prefix_append _ _), fun _ h1 => ?_⟩
    rw [Cw h1]; simp
end Go.Proofs.YtfclkapelkhlpaaGreatDoor
namespace Go.Proofs.YtfclkapelkhlpaaGreatDoor
open Go Go.Proofs Go.LX
theorem VJ {a : List bP} {s : LX.State} (h : rY a s) : rY a (wake s) := by
  unfold wake
  by_cases h3 : s.status = 3
  · rw [if_pos h3]
    refine ⟨by simp, by simp, fun _ => rfl, ?_, h.many, h.cells, h.frames⟩
    have := h.ended
    constructor
    · intro e; simp at e
    · intro e
      have := h.ended.2 e
      omega
  · rw [if_neg h3]; exact h
theorem OX (s : LX.State) (h : s.status = 3) : wake s = ⟨s.frames, s.cells, 0, 0⟩ := if_pos h
theorem Jv {a : List bP} (hc : Jk a = 0) {b c : Int} (hb : 1 ≤ b ∧ b ≤ 2000) (hcc : c ≤ 120) {N : Nat} (hN : 3000 ≤ N) : ∀ (m M i : Nat) (all : List Int) (s : LX.State), (i : Int) + m = c → m < M → all.length ≤ 40 * i → rY a s →
    again (nZ N c a b) M (all, (i : Int), s.frames, s.cells, s.status, s.aW) = some ((gy a b.toNat m all s).1, (gy a b.toNat m all s).2, 0)
  | m, 0, i, all, s, hi, hM, hl, hs => by omega
  | 0, M + 1, i, all, s, hi, hM, hl, hs => by
    rw [Dt]
    unfold nZ uX gy
    simp only
    rw [dF (by omega), cond_false]
  | m + 1, M + 1, i, all, s, hi, hM, hl, hs => by
    rw [Dt]
    have ha := yL hc
    have ih := Jv hc hb hcc hN m M (i + 1)
    generalize again (nZ N c a b) M = K at ih ⊢
    have go : tJ N all a b i K (wake s).frames (wake s).cells (wake s).status (wake s).aW = some ((gy a b.toNat (m + 1) all s).1, (gy a b.toNat (m + 1) all s).2, 0) := by
      unfold tJ
      by_cases h0 : (wake s).status = 0
      · have hw := VJ hs
        rw [dF (by omega), cond_false, show (⟨(wake s).frames, (wake s).cells, (wake s).status, (wake s).aW⟩ : LX.State) = wake s from rfl, QA a _ b hN, bnd, if_neg (by omega), if_neg (by rw [Kz.2 hw]; omega), if_neg (by omega), if_neg (by omega)]
        simp only
        obtain ⟨k1, hlen, -⟩ := Jt ha b.toNat [] 0 (wake s) hw (by simp)
        rw [dF (by simp), cond_false, H7 (by omega)]
        rw [wB (room_le (by omega) (by decide)), gI (by omega) (by omega)]
        have := ih (all ++ (qi a b.toNat [] 0 (wake s)).2.1) (qi a b.toNat [] 0 (wake s)).1 (by push_cast; omega) (by omega) (by rw [List.length_append]; omega) k1
        rw [← this]; push_cast; rfl
      · have h3 : s.status ≠ 3 := fun h => h0 (by rw [OX s h])
        rw [dT h0, cond_true, wR h0]
        unfold uX
        rw [show (⟨(wake s).frames, (wake s).cells, (wake s).status, (wake s).aW⟩ : LX.State) = wake s from rfl, show wake s = s from if_neg h3]
    unfold nZ
    simp only
    rw [dT (by omega), cond_true]
    by_cases h3 : s.status = 3
    · rw [dT h3, cond_true, show (⟨s.frames, s.cells, s.status, s.aW⟩ : LX.State) = s from rfl, NP, bnd, if_neg (by omega), if_neg (by rw [Kz.2 hs]; omega), if_neg (by omega)]
      simp only
      rw [dF (by simp), cond_false]
      rw [OX s h3] at go
      exact go
    · rw [dF h3, cond_false]
      rw [show wake s = s from if_neg h3] at go
      exact go
theorem AO (a : List bP) (b c : Int) {N : Nat} (hN : 3000 ≤ N) : wQ N a b c = some (if Jk a ≠ 0 then ([], ⟨[], [], 0, 0⟩, Jk a) else if b < 1 ∨ 2000 < b ∨ c < 0 ∨ 120 < c then ([], ⟨[], [], 0, 0⟩, 3) else ((gy a b.toNat c.toNat [] (mi a)).1, (gy a b.toNat c.toNat [] (mi a)).2, 0)) := by
  unfold wQ
  rw [QB, bnd]
  by_cases h1 : Jk a = 0
  · have ha := yL h1
    rw [if_neg (by omega), if_neg (by omega)]
    simp only
    rw [dF (by simp), cond_false]
    by_cases h2 : b < 1 ∨ 2000 < b ∨ c < 0 ∨ 120 < c
    · rw [if_pos h2, show (((decide ((b : Int) < 1) || decide ((2000 : Int) < b)) || decide ((c : Int) < 0)) || decide ((120 : Int) < c)) = true by
        simp only [Bool.or_eq_true, decide_eq_true_eq]; omega, cond_true]
    · rw [if_neg h2, show (((decide ((b : Int) < 1) || decide ((2000 : Int) < b)) || decide ((c : Int) < 0)) || decide ((120 : Int) < c)) = false by
        simp only [Bool.or_eq_false_iff, decide_eq_false_iff_not]; omega, cond_false]
      exact Jv h1 (by omega) (by omega) hN c.toNat N 0 [] (mi a) (by omega) (by omega) (by simp) (TT ha)
  · rw [if_pos h1, if_pos h1]
    simp only
    rw [dT h1, cond_true]
theorem Um {x y : List Int} (h : x <+: y) : x = y.take x.length := by
  obtain ⟨t, rfl⟩ := h; simp
theorem VK {a : List bP} {f g t m : Nat} (hf : 1 ≤ f) (hg : 1 ≤ g) (s : LX.State) : iA ((gy a f t [] s).1, (gy a f t [] s).2, 0) ((gy a f (t + m) [] s).1, (gy a f (t + m) [] s).2, 0) ((gy a g t [] s).1, (gy a g t [] s).2, 0) false = some true := by
  unfold iA
  simp only
  rw [cond_false]
  have hadd := EW (a := a) (fuel := f) t m [] s
  have hst : ∀ k : Int, k = 1 ∨ k = 2 → (gy a f t [] s).2.status = k → (gy a f (t + m) [] s).2.status = k := by
    intro k hk h
    rw [hadd, wR (EX (by omega) (by omega))]; exact h
  rw [show ((decide (((gy a f t [] s).2.status : Int) = 1) && decide (((gy a f (t + m) [] s).2.status : Int) ≠ 1)) || (decide (((gy a f t [] s).2.status : Int) = 2) && decide (((gy a f (t + m) [] s).2.status : Int) ≠ 2))) = false by
    by_cases h1 : (gy a f t [] s).2.status = 1
    · rw [dT h1, dF (by rw [hst 1 (.inl rfl) h1]; omega), dF (by omega)]; rfl
    · by_cases h2 : (gy a f t [] s).2.status = 2
      · rw [dF h1, dT h2, Bool.false_and, Bool.false_or, Bool.true_and, dF (fun h => h (hst 2 (.inr rfl) h2))]
      · rw [dF h1, dF h2]; rfl, cond_false]
  obtain ⟨q1, q2⟩ := Ul (a := a) hf hg t t s
  generalize gy a f t [] s = X at *
  generalize gy a g t [] s = Z at *
  obtain ⟨x, u⟩ := X
  obtain ⟨z, v⟩ := Z
  simp only at *
  obtain ⟨n, hn, hn1, hn2⟩ : ∃ n : Nat, (min (x.length : Int) (z.length : Int)) = (n : Int) ∧ n ≤ x.length ∧ n ≤ z.length := ⟨min x.length z.length, by omega, by omega, by omega⟩
  have e1 := Rc (l := x) (a := 0) (b := n) (by omega) hn1
  have e2 := Rc (l := z) (a := 0) (b := n) (by omega) hn2
  rw [show ((0 : Nat) : Int) = 0 from rfl, List.drop_zero] at e1 e2
  have e3 : x.take n = z.take n := by
    rcases q1 with ⟨r, rfl⟩ | ⟨r, rfl⟩
    · rw [List.take_append_of_le_length hn1]
    · rw [List.take_append_of_le_length hn2]
  rw [hn, e1, bnd, e2, bnd, Wu, bnd, dT e3, cond_true]
  by_cases hov : (u.status ≠ 0 ∧ u.status ≠ 3) ∧ v.status ≠ 0 ∧ v.status ≠ 3
  · have := q2 (EX hov.1.1 hov.1.2) (EX hov.2.1 hov.2.2)
    cases this
    rw [show (!(((decide ((u.status : Int) ≠ 0) && decide ((u.status : Int) ≠ 3)) && decide ((u.status : Int) ≠ 0)) && decide ((u.status : Int) ≠ 3))) = false by
      rw [dT hov.1.1, dT hov.1.2]; rfl, cond_false, dT rfl, cond_true, dT rfl]
  · rw [show (!(((decide ((u.status : Int) ≠ 0) && decide ((u.status : Int) ≠ 3)) && decide ((v.status : Int) ≠ 0)) && decide ((v.status : Int) ≠ 3))) = true by
      rw [Bool.not_eq_true', ← Bool.not_eq_true, Bool.and_eq_true, Bool.and_eq_true, Bool.and_eq_true, decide_eq_true_eq, decide_eq_true_eq, decide_eq_true_eq, decide_eq_true_eq]
      intro h; exact hov ⟨h.1.1, h.1.2, h.2⟩, cond_true]
theorem soloBegins (a : List bP) (b c d e : Int) : ∃ N, og N a b c d e = some true := by
  refine ⟨NN, ?_⟩
  unfold og
  obtain ⟨r1, e1, l1, u1⟩ := at_eq b (n := 100) (by omega) (by omega)
  obtain ⟨r2, e2, l2, u2⟩ := at_eq c (n := 100) (by omega) (by omega)
  obtain ⟨r3, e3, l3, u3⟩ := at_eq d (n := 20) (by omega) (by omega)
  obtain ⟨r4, e4, l4, u4⟩ := at_eq e (n := 20) (by omega) (by omega)
  rw [e1, bnd, gI (by omega) (by omega), e2, bnd, gI (by omega) (by omega), e3, bnd, e4, bnd, AO a _ _ NQ, bnd, gI (by omega) (by omega), AO a _ _ NQ, bnd, AO a _ _ NQ, bnd, Uj, bnd, Bool.not_true, Bool.false_or]
  by_cases h1 : Jk a = 0
  · rw [if_neg (by omega), if_neg (by omega), if_neg (by omega), if_neg (by omega), if_neg (by omega), if_neg (by omega)]
    simp only
    rw [dF (by simp), cond_false, show (r3 + r4).toNat = r3.toNat + r4.toNat by omega]
    have hadd := EW (a := a) (fuel := (1 + r1).toNat) r3.toNat r4.toNat [] (mi a)
    have hpre : (gy a (1 + r1).toNat r3.toNat [] (mi a)).1 <+: (gy a (1 + r1).toNat (r3.toNat + r4.toNat) [] (mi a)).1 := by
      rw [hadd]; exact QN (by omega) _ _ _
    have hle := hpre.length_le
    rw [show ((false || false) || decide ((((gy a (1 + r1).toNat (r3.toNat + r4.toNat) [] (mi a)).1.length : Int) : Int) < ((gy a (1 + r1).toNat r3.toNat [] (mi a)).1.length : Int))) = false by
      rw [dF (by omega)]; rfl, cond_false]
    have es := Rc (l := (gy a (1 + r1).toNat (r3.toNat + r4.toNat) [] (mi a)).1) (a := 0) (b := (gy a (1 + r1).toNat r3.toNat [] (mi a)).1.length) (by omega) hle
    rw [show ((0 : Nat) : Int) = 0 from rfl, List.drop_zero, ← Um hpre] at es
    rw [es, bnd, Wu, bnd, dT rfl, Bool.not_true]
    exact VK (by omega) (by omega) (mi a)
  · rw [if_pos h1, if_pos h1, if_pos h1]
    simp only
    rw [dT h1, cond_true, bnd]; simp
end Go.Proofs.YtfclkapelkhlpaaGreatDoor
