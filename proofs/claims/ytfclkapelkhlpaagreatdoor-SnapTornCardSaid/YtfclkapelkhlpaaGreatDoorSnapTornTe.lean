/-
  What the law SnapTorn needs of our own library and of the walks, no more.
-/
import Derived.Test.YtfclkapelkhlpaaGreatDoorProg
import Derived.Test.YtfclkapelkhlpaaGreatDoorSnapTornTd
set_option linter.unusedSimpArgs false
set_option linter.unusedVariables false
set_option maxRecDepth 10000
namespace Go.Proofs.YtfclkapelkhlpaaGreatDoor
open Go Go.Proofs Go.LX
noncomputable section
def qM (Hu : (List Int × List (Int × Bool)) → Option (List Int × Int)) (nA : List Int) (xy : List (Int × Bool)) : Option (List Int × Int) :=
  Hu (nA, xy)
def qN (F3 : (List Int × List (Int × Bool)) → Option (List Int × Int)) (KQ : List Int) (Cm : List (Int × Bool)) : Option (List Int × Int) :=
  F3 (KQ, Cm)
def lT (rA : Val) (s : List Int × List (Int × Bool)) (F3 : List Int × List (Int × Bool) → Option (List Int × Int)) : Option (List Int × Int) :=
  match s with | (Bp, mZ) => bif (decide ((rA.kind : Int) = 2) && (!((lk rA.n mZ).getD false))) then gG (Room 8 Bp [rA.n]) (qN F3 (Bp ++ [rA.n]) (xk rA.n true mZ)) else qN F3 Bp mZ
def lU (Em : Int) (Jn : (Int × List Int × List (Int × Bool)) → Option (List Int × Int)) (s : List Int × List (Int × Bool)) : Option (List Int × Int) :=
  match s with | (Bp, mZ) => gG (jb (Em + 1)) (Jn ((Em + 1), Bp, mZ))
def kg (a : List (List Val)) (s : Int × List Int × List (Int × Bool)) (Jn : Int × List Int × List (Int × Bool) → Option (List Int × Int)) : Option (List Int × Int) :=
  match s with | (Em, zm, Ih) => bif decide ((Em : Int) < (zm.length : Int)) then (idx zm Em).bind fun XW => (idx a XW).bind fun x87 => each lT (lU Em Jn) x87 (zm, Ih) else some (zm, 0)
def nY (pQ : Val) (s : List Int × List (Int × Bool)) (Hu : List Int × List (Int × Bool) → Option (List Int × Int)) : Option (List Int × Int) :=
  match s with | (y32, Fs) => bif (decide ((pQ.kind : Int) = 2) && (!((lk pQ.n Fs).getD false))) then gG (Room 8 y32 [pQ.n]) (qM Hu (y32 ++ [pQ.n]) (xk pQ.n true Fs)) else qM Hu y32 Fs
def qO (N : Nat) (a : List (List Val)) (s : List Int × List (Int × Bool)) : Option (List Int × Int) :=
  match s with | (y32, Fs) => again (kg a) N (0, y32, Fs)
def nZ (a : List (List Val)) (x6 : Val) (s : Unit) (nx8 : Unit → Option (List Int × Int)) : Option (List Int × Int) :=
  bif decide (((bO x6 (a.length : Int)) : Int) ≠ 0) then some ([], (bO x6 (a.length : Int))) else nx8 ()
def lV (N : Nat) (a : List (List Val)) (b : List Val) (s : Unit) : Option (List Int × Int) :=
  each nY (qO N a) b ([], ([] : List (Int × Bool)))
def xH (N : Nat) (a : List (List Val)) (b : List Val) : Option (List Int × Int) :=
  bif decide (((cz a) : Int) ≠ 0) then some ([], (cz a)) else bif decide ((400 : Int) < (b.length : Int)) then some ([], 2) else each (nZ a) (lV N a b) b ()
theorem Hz (N : Nat) (w0 : World) (M : BS) (hM : ∀ b, M b → b < w0.heap.size) (va : Value) (a : List (List Val)) (ha : eZ (ou bE) w0 BE M va a) (vb : Value) (b : List Val) (hb : eZ bE w0 BE M vb b) (r : List Int × Int) (hs : xH N a b = some r) :
    Calls Tryz.prog 48 #[va, vb] w0 (fun e w' => Grow w0 w' ∧ ∃ u0, e = .returned (.tuple #[u0, .int .i64 r.2]) ∧ dH cZ 3 w' M u0 r.1 ∧ (∀ b, ob u0 b → w0.heap.size ≤ b)) := by
 refine aK (args := [va, vb]) Tryz.func48 rfl Tryz.ntmps48 (Nat.le_of_ble_eq_true rfl) ?_
 have h := SH.init hM
 replace h := h.dU 1 ha aW
 replace h := h.dU 2 hb (bD aW)
 have tC := ha.bL
 have Fe := hb.bL
 refine ai (ag (ae (aj (v := (.slice none 0 0)) rfl) (ae (aj (v := (.int .i64 (0))) rfl) (ah (aa (ai (ai (ag (ae (ak (v := va) rfl) (aO Ow rfl rfl (xR _ _ h.lt va a (h.fV 1 rfl) _ rfl) ?_))))))))))
 rintro _ w ⟨k1, rfl⟩
 refine ⟨_, rfl, ?_⟩
 replace h := h.grow k1
 refine ae (aj (v := (.int .i64 ((cz a)))) rfl) (ah (aa (ai (ag (ae (ak (v := (.int .i64 ((cz a)))) rfl) (ae (iH rfl rfl) (ah (aa (aJ hs rfl (fun c2 hs => ?_) (fun c2 hs => ?_))))))))))
 refine ai (ag (ae (ak (v := (.int .i64 ((cz a)))) rfl) (ae (aj (v := (.slice none 0 0)) rfl) (ae (aj (v := (.int .i64 ((cz a)))) rfl) (ah (aa (aI (aB (zD (v1 := (.slice none 0 0)) (v2 := (.int .i64 ((cz a)))) Tryz.results48 rfl rfl ?_)))))))))
 obtain rfl := Option.some.inj hs
 exact ⟨h.grown, _, rfl, dH.nil, kU⟩
 refine aD (aa (ai (ai (ag (ae (ak (v := vb) rfl) (ae (bF dD rfl (h.fV 2 rfl)) (ae (iR rfl rfl) (ah (aa (aJ hs rfl (fun c3 hs => ?_) (fun c3 hs => ?_)))))))))))
 refine ai (ag (ae (aj (v := (.slice none 0 0)) rfl) (ae (aj (v := (.int .i64 (2))) rfl) (ah (aa (aI (aB (zD (v1 := (.slice none 0 0)) (v2 := (.int .i64 (2))) Tryz.results48 rfl rfl ?_))))))))
 obtain rfl := Option.some.inj hs
 exact ⟨h.grown, _, rfl, dH.nil, kU⟩
 refine aD (aa (ai (ai (ag (ae (ak (v := vb) rfl) (ae (bF dD rfl (h.fV 2 rfl)) (ae (ak (v := (.int .i64 (0))) rfl) (ah (aa (aL (fq (σ := Nat × Int) (inl [4, 5, 8, 9, 28, 29, 30, 31, 32, 33, 34, 35, 36, 37, 38, 39]) (fun ⟨k4, i5⟩ => [(28, (.int .i64 (i5)))]) (fun ⟨k4, i5⟩ w => SH w0 M BE w (hset [(1, .sr (ou bE) va a), (2, .sr bE vb b)]) ∧ i5 = (k4 : Int) ∧ each (nZ a) (lV N a b) (b.drop k4) () = some r) (fun ⟨k4, i5⟩ => b.length - k4) ⟨0, 0⟩ ⟨rfl, trivial⟩ ?_ ?_)))))))))))
 exact ⟨h.cn _, rfl, hs⟩
 rintro ⟨k4, i5⟩ w dm ⟨h, hik, hs⟩
 refine ai (ag ?_)
 refine ae (dA rfl rfl) (ah (aa ?_))
 refine ai (gH rfl (fun e9 => ?_) (fun e9 => ?_))
 refine aD (aa ?_)
 obtain ⟨x6, e10a, e10b⟩ := fJ (hik ▸ e9)
 rw [e10b, df] at hs
 generalize hnx8 : each (nZ a) (lV N a b) (b.drop (k4 + 1)) = nx8 at hs
 have e10r := fO ((h.fV 2 rfl)).bL hik e9
 refine ai (aL (ai (ag ?_)))
 obtain ⟨b12, o13, WB, h, WE, i11⟩ := h.wZ 2 3 rfl dD rfl (gZ hik) (fM hik e10a)
 obtain rfl := WE
 refine ae (i11 _ _ _ _ _ _ _ _ _ rfl rfl) (ae (iF (k := 0) (vs := [(.int .i64 (x6.kind)), (.int .i64 (x6.n))]) h 3 rfl ic rfl rfl rfl (Nat.le_of_ble_eq_true rfl)) (bP h 4 ic fun w b16 h => dV (vs := [(.int .i64 (x6.kind)), (.int .i64 (x6.n))]) h 4 [(.int .i64 (x6.kind)), (.int .i64 (x6.n))] rfl ic rfl rfl rfl rfl rfl (ax rfl (ax rfl bA)) fun w h => ah (aa (ai (ag (ae (fA (vs := [(.int .i64 (x6.kind)), (.int .i64 (x6.n))]) h 4 rfl ic rfl rfl rfl) (ae (ak (v := va) rfl) (ae (bF fe rfl (h.fV 1 rfl)) (aO Ke rfl rfl (xD _ _ h.lt x6 (a.length : Int) _ rfl) ?_)))))))))
 rintro _ w ⟨k17, rfl⟩
 refine ⟨_, rfl, ?_⟩
 replace h := h.grow k17
 refine ae (aj (v := (.int .i64 ((bO x6 (a.length : Int))))) rfl) (ah (aa (ai (ag (ae (ak (v := (.int .i64 ((bO x6 (a.length : Int))))) rfl) (ae (iH rfl rfl) (ah (aa (aJ hs rfl (fun c18 hs => ?_) (fun c18 hs => ?_))))))))))
 refine ai (ag (ae (ak (v := (.int .i64 ((bO x6 (a.length : Int))))) rfl) (ae (aj (v := (.slice none 0 0)) rfl) (ae (aj (v := (.int .i64 ((bO x6 (a.length : Int))))) rfl) (ah (aa (aI (aG (aB (aB (aG (aB (zD (v1 := (.slice none 0 0)) (v2 := (.int .i64 ((bO x6 (a.length : Int))))) Tryz.results48 rfl rfl ?_)))))))))))))
 obtain rfl := Option.some.inj hs
 exact ⟨h.grown, _, rfl, dH.nil, kU⟩
 refine aD (az (aa (ag (ae (bY rfl rfl e10r) (ae (ak (v := (.int .i64 ((i5 + 1)))) rfl) (ah (ay ?_)))))))
 subst hnx8
 exact iQ ⟨k4 + 1, i5 + 1⟩ ⟨h.cn _, by omega, hs⟩ (by have := of_decide_eq_true e9; dsimp only; omega)
 rw [fK (hik ▸ e9), fB] at hs
 refine bT (aH (aH (aT (aa (ai (ag (y5 h 5 fun w b19 h => nM h 6 BX fun w b20 h => dX h 6 [(.map (some b19))] rfl BX rfl rfl rfl rfl rfl fun w h => ah (aa (ai (ag (nM h 7 qx fun w Fh h => ah (aa (ai (ag (ae (pM (c1 := []) (c2 := [(.pointer (some ⟨b20, 0, none⟩)), (.pointer (some ⟨Fh, 0, none⟩))]) rfl rfl) (ae (aj (v := (.func (.func 82) #[] #[(.pointer (some ⟨b20, 0, none⟩)), (.pointer (some ⟨Fh, 0, none⟩))])) rfl) (ah (aa (ai ?_)))))))))))))))))))
 refine ai (ag (ae (ak (v := vb) rfl) (ae (bF dD rfl (h.fV 2 rfl)) (ae (ak (v := (.int .i64 (0))) rfl) (ah (aa (aL ?_)))))))
 replace h := h.vG (R := cZ) (E := 3) 11
 refine fq (σ := Nat × Int × Value × List Int × List (Int × Bool)) (inl [14, 44, 45, 46, 47, 48, 49, 50, 51]) (fun ⟨Ji, i35, v31, y32, Fs⟩ => [(44, (.int .i64 (i35)))]) (fun ⟨Ji, i35, v31, y32, Fs⟩ w => SH w0 M BE w (hset [(1, .sr (ou bE) va a), (2, .sr bE vb b), (5, .mp b19 (List.map (fun p => (p.1, (fun x => Value.bool x) p.2)) Fs)), (6, .blk b20 [(.map (some b19))]), (7, .blk Fh [v31]), (11, .own cZ 3 v31 y32)]) ∧ i35 = (Ji : Int) ∧ each nY (qO N a) (b.drop Ji) (y32, Fs) = some r) (fun ⟨Ji, i35, v31, y32, Fs⟩ => b.length - Ji) ⟨0, 0, (.slice none 0 0), [], ([] : List (Int × Bool))⟩ ⟨rfl, trivial⟩ ?_ ?_
 exact ⟨h.cn _, rfl, hs⟩
 rintro ⟨Ji, i35, v31, y32, Fs⟩ w dm ⟨h, hik, hs⟩
 refine ai (ag ?_)
 refine ae (dA rfl rfl) (ah (aa ?_))
 refine ai (gH rfl (fun e39 => ?_) (fun e39 => ?_))
 refine aD (aa ?_)
 obtain ⟨pQ, Pk, Pm⟩ := fJ (hik ▸ e39)
 rw [Pm, df] at hs
 generalize Pn : each nY (qO N a) (b.drop (Ji + 1)) = Hu at hs
 have Ur := fO ((h.fV 2 rfl)).bL hik e39
 refine bU (σ := Value × List Int × List (Int × Bool)) (inl [14, 46, 47, 48, 49, 50]) (fun ⟨v41, nA, xy⟩ => []) (fun ⟨v41, nA, xy⟩ w => SH w0 M BE w (hset [(1, .sr (ou bE) va a), (2, .sr bE vb b), (5, .mp b19 (List.map (fun p => (p.1, (fun x => Value.bool x) p.2)) xy)), (6, .blk b20 [(.map (some b19))]), (7, .blk Fh [v41]), (11, .own cZ 3 v41 nA)]) ∧ qM Hu nA xy = some r) ?_ ?_
 rintro ⟨v41, nA, xy⟩ w dm ⟨h, hs⟩
 refine ag (ae (bY rfl rfl Ur) (ae (ak (v := (.int .i64 ((i35 + 1)))) rfl) (ah (ay ?_))))
 subst Pn
 exact iQ ⟨Ji + 1, i35 + 1, v41, nA, xy⟩ ⟨h.cn _, by omega, hs⟩ (by have := of_decide_eq_true e39; dsimp only; omega)
 refine aL (ai (ag ?_))
 obtain ⟨Qw, o46, cs47, h, r48, i44⟩ := h.wZ 2 12 rfl dD rfl (gZ hik) (fM hik Pk)
 obtain rfl := r48
 refine ae (i44 _ _ _ _ _ _ _ _ _ rfl rfl) (ae (iF (k := 0) (vs := [(.int .i64 (pQ.kind)), (.int .i64 (pQ.n))]) h 12 rfl ic rfl rfl rfl (Nat.le_of_ble_eq_true rfl)) (bP h 13 ic fun w b49 h => dV (vs := [(.int .i64 (pQ.kind)), (.int .i64 (pQ.n))]) h 13 [(.int .i64 (pQ.kind)), (.int .i64 (pQ.n))] rfl ic rfl rfl rfl rfl rfl (ax rfl (ax rfl bA)) fun w h => ah (aa (ag (ae (ak (v := (.func (.func 82) #[] #[(.pointer (some ⟨b20, 0, none⟩)), (.pointer (some ⟨Fh, 0, none⟩))])) rfl) (ae (fA (vs := [(.int .i64 (pQ.kind)), (.int .i64 (pQ.n))]) h 13 rfl ic rfl rfl rfl) (jh (args := [(.agg #[(.int .i64 (pQ.kind)), (.int .i64 (pQ.n))]), (.pointer (some ⟨b20, 0, none⟩)), (.pointer (some ⟨Fh, 0, none⟩))]) Ox rfl rfl (aK (args := [(.agg #[(.int .i64 (pQ.kind)), (.int .i64 (pQ.n))]), (.pointer (some ⟨b20, 0, none⟩)), (.pointer (some ⟨Fh, 0, none⟩))]) Tryz.func82 rfl Tryz.ntmps82 (Nat.le_of_ble_eq_true rfl) (ai (ag (pX (cs := [(.int .i64 (pQ.kind)), (.int .i64 (pQ.n))]) h 14 rfl rfl fun w b50 h => ah (aa (ai (ag (ae (au A8 rfl) (ae (aF h 14 rfl aV rfl rfl) (ae (bM rfl rfl) (ae (ak (v := (.bool (decide ((pQ.kind : Int) = 2)))) rfl) (aC rfl rfl (fun q => aF h 6 rfl BX rfl rfl) (aC rfl rfl (fun q => au nI rfl) ?_))))))))))))))))))))
 refine aC rfl rfl (fun q => aF h 14 rfl aV (cO q) rfl) (aC rfl rfl (fun q => RV (f := (fun x => Value.bool x)) (zz := false) Fs h 5 rfl Bb (cO q) (cO q) rfl rfl) (aC rfl rfl (fun q => fZ (cO q)) (ae (gJ rfl rfl mR) (ah (aa (aJ hs rfl (fun c51 hs => ?_) (fun c51 hs => ?_)))))))
 refine ai (ag (ae (aF h 6 rfl BX rfl rfl) (ae (au nI rfl) (ae (aF h 14 rfl aV rfl rfl) (yh (nH := (List.map (fun p => (p.1, (fun x => Value.bool x) p.2)) (xk pQ.n true Fs))) h 5 rfl Bb rfl rfl rfl (ze (f := (fun x => Value.bool x)) _) fun w h => ah (aa (ag (ae (aF h 7 rfl qx rfl rfl) (ae (au nI rfl) (ae (aF h 14 rfl aV rfl rfl) (oV (R := cZ) (vs := [(.int .i64 (pQ.n))]) (xs := [pQ.n]) h 15 fP rfl rfl rfl ⟨rfl, trivial⟩ rfl fun w XV h => ?_)))))))))))
 obtain ⟨a53, hs⟩ := aZ hs
 refine jg (R := cZ) (m := [pQ.n]) h 11 rfl (h.dJ 15 rfl) fP rfl rfl rfl a53.1 a53.2 fun w Vh h => dX h 7 [Vh] rfl qx rfl rfl rfl rfl (h.fF 11 rfl).one fun w h => ah (Im Tryz.results82 (⟨_, rfl, ?_⟩))
 refine ah (az (ay ?_))
 exact bR (Vh, (y32 ++ [pQ.n]), (xk pQ.n true Fs)) ⟨h.cn _, hs⟩
 refine aD (Im Tryz.results82 (⟨_, rfl, ?_⟩))
 refine ah (az (ay ?_))
 exact bR (v31, y32, Fs) ⟨h.cn _, hs⟩
 rw [fK (hik ▸ e39), fB] at hs
 refine bT (aH (aH (aT (aa (ai (ai (ag (ae (aj (v := (.int .i64 (0))) rfl) (ah (aa (aL (fq (σ := Nat × Int × Value × List Int × List (Int × Bool)) (inl [15, 17, 52, 53, 54, 55, 56, 57, 58, 59, 60, 61, 62, 63, 64, 65, 66, 67, 68, 69, 70, 71, 72, 73]) (fun ⟨Ux, Em, v68, zm, Ih⟩ => [(15, (.int .i64 (Em)))]) (fun ⟨Ux, Em, v68, zm, Ih⟩ w => SH w0 M BE w (hset [(1, .sr (ou bE) va a), (5, .mp b19 (List.map (fun p => (p.1, (fun x => Value.bool x) p.2)) Ih)), (6, .blk b20 [(.map (some b19))]), (7, .blk Fh [v68]), (11, .own cZ 3 v68 zm)]) ∧ again (kg a) Ux (Em, zm, Ih) = some r) (fun ⟨Ux, Em, v68, zm, Ih⟩ => Ux) ⟨N, 0, v31, y32, Fs⟩ ⟨rfl, trivial⟩ ?_ ?_))))))))))))
 exact ⟨h.cn _, hs⟩
 rintro ⟨Ux, Em, v68, zm, Ih⟩ w dm ⟨h, hs⟩
 obtain ⟨WG, m74e, m74h⟩ := nk hs
 subst m74e
 replace hs := m74h
 generalize WI : again (kg a) WG = Jn at hs
 refine ai (ai (ag (ae (ak (v := (.int .i64 (Em))) rfl) (ae (aF h 7 rfl qx rfl rfl) (ae (bF bS rfl (h.dJ 11 rfl)) (ae (dA rfl rfl) (ah (aa (aJ hs rfl (fun c78 hs => ?_) (fun c78 hs => ?_))))))))))
 refine aD (aa (ai (aL (ai (ag (ae (ak (v := va) rfl) (ae (aF h 7 rfl qx rfl rfl) (ae (ak (v := (.int .i64 (Em))) rfl) ?_))))))))
 obtain ⟨XW, WJ, hs⟩ := aM hs
 obtain ⟨b82, q83, i81⟩ := h.Ir 11 rfl bS rfl (aX WJ).1 (aX WJ).2
 refine ae (i81 _ _ _ _ _ _ _ _ _ rfl rfl) ?_
 obtain ⟨cs84, m85, r86⟩ := h.Ns 11 rfl q83 (aX WJ).2
 obtain rfl := r86
 refine ae (CG (k := 0) m85 aV rfl rfl) ?_
 obtain ⟨x87, XX, hs⟩ := aM hs
 obtain ⟨b90, o91, cs92, h, r93, i89⟩ := h.wZ 1 16 rfl fe rfl (aX XX).1 (aX XX).2
 obtain ⟨u94, rfl, g95⟩ := r93
 replace h := h.bG 17 g95.up
 refine ae (i89 _ _ _ _ _ _ _ _ _ rfl rfl) (ae (ed (k := 0) h 16 rfl oW rfl rfl) (ae (bF dD rfl (h.mU 17 rfl)) (ae (ak (v := (.int .i64 (0))) rfl) (ah (aa (aL (fq (σ := Nat × Int × Value × List Int × List (Int × Bool)) (inl [17, 66, 67, 68, 69, 70, 71, 72, 73]) (fun ⟨Fj, i109, v105, Bp, mZ⟩ => [(66, (.int .i64 (i109)))]) (fun ⟨Fj, i109, v105, Bp, mZ⟩ w => SH w0 M BE w (hset [(1, .sr (ou bE) va a), (5, .mp b19 (List.map (fun p => (p.1, (fun x => Value.bool x) p.2)) mZ)), (6, .blk b20 [(.map (some b19))]), (7, .blk Fh [v105]), (11, .own cZ 3 v105 Bp), (17, .rd bE u94 x87)]) ∧ i109 = (Fj : Int) ∧ each lT (lU Em Jn) (x87.drop Fj) (Bp, mZ) = some r) (fun ⟨Fj, i109, v105, Bp, mZ⟩ => x87.length - Fj) ⟨0, 0, v68, zm, Ih⟩ ⟨rfl, trivial⟩ ?_ ?_)))))))
 exact ⟨h.cn _, rfl, hs⟩
 rintro ⟨Fj, i109, v105, Bp, mZ⟩ w dm ⟨h, hik, hs⟩
 refine ai (ag ?_)
 refine ae (dA rfl rfl) (ah (aa ?_))
 refine ai (gH rfl (fun Pz => ?_) (fun Pz => ?_))
 refine aD (aa ?_)
 obtain ⟨rA, WM, WN⟩ := fJ (hik ▸ Pz)
 rw [WN, df] at hs
 generalize Uy : each lT (lU Em Jn) (x87.drop (Fj + 1)) = F3 at hs
 have WO := fO ((h.mU 17 rfl)).bL hik Pz
 refine bU (σ := Value × List Int × List (Int × Bool)) (inl [17, 68, 69, 70, 71, 72]) (fun ⟨PD, KQ, Cm⟩ => []) (fun ⟨PD, KQ, Cm⟩ w => SH w0 M BE w (hset [(1, .sr (ou bE) va a), (5, .mp b19 (List.map (fun p => (p.1, (fun x => Value.bool x) p.2)) Cm)), (6, .blk b20 [(.map (some b19))]), (7, .blk Fh [PD]), (11, .own cZ 3 PD KQ), (17, .rd bE u94 x87)]) ∧ qN F3 KQ Cm = some r) ?_ ?_
 rintro ⟨PD, KQ, Cm⟩ w dm ⟨h, hs⟩
 refine ag (ae (bY rfl rfl WO) (ae (ak (v := (.int .i64 ((i109 + 1)))) rfl) (ah (ay ?_))))
 subst Uy
 exact iQ ⟨Fj + 1, i109 + 1, PD, KQ, Cm⟩ ⟨h.cn _, by omega, hs⟩ (by have := of_decide_eq_true Pz; dsimp only; omega)
 refine aL (ai (ag ?_))
 obtain ⟨b119, o120, cs121, h, r122, i118⟩ := h.FD 17 18 rfl dD rfl (gZ hik) (fM hik WM)
 obtain rfl := r122
 refine ae (i118 _ _ _ _ _ _ _ _ _ rfl rfl) (ae (iF (k := 0) (vs := [(.int .i64 (rA.kind)), (.int .i64 (rA.n))]) h 18 rfl ic rfl rfl rfl (Nat.le_of_ble_eq_true rfl)) (bP h 19 ic fun w b123 h => dV (vs := [(.int .i64 (rA.kind)), (.int .i64 (rA.n))]) h 19 [(.int .i64 (rA.kind)), (.int .i64 (rA.n))] rfl ic rfl rfl rfl rfl rfl (ax rfl (ax rfl bA)) fun w h => ah (aa (ag (ae (ak (v := (.func (.func 82) #[] #[(.pointer (some ⟨b20, 0, none⟩)), (.pointer (some ⟨Fh, 0, none⟩))])) rfl) (ae (fA (vs := [(.int .i64 (rA.kind)), (.int .i64 (rA.n))]) h 19 rfl ic rfl rfl rfl) (jh (args := [(.agg #[(.int .i64 (rA.kind)), (.int .i64 (rA.n))]), (.pointer (some ⟨b20, 0, none⟩)), (.pointer (some ⟨Fh, 0, none⟩))]) Ox rfl rfl (aK (args := [(.agg #[(.int .i64 (rA.kind)), (.int .i64 (rA.n))]), (.pointer (some ⟨b20, 0, none⟩)), (.pointer (some ⟨Fh, 0, none⟩))]) Tryz.func82 rfl Tryz.ntmps82 (Nat.le_of_ble_eq_true rfl) (ai (ag (pX (cs := [(.int .i64 (rA.kind)), (.int .i64 (rA.n))]) h 20 rfl rfl fun w b124 h => ah (aa (ai (ag (ae (au A8 rfl) (ae (aF h 20 rfl aV rfl rfl) (ae (bM rfl rfl) (ae (ak (v := (.bool (decide ((rA.kind : Int) = 2)))) rfl) (aC rfl rfl (fun q => aF h 6 rfl BX rfl rfl) (aC rfl rfl (fun q => au nI rfl) ?_))))))))))))))))))))
 refine aC rfl rfl (fun q => aF h 20 rfl aV (cO q) rfl) (aC rfl rfl (fun q => RV (f := (fun x => Value.bool x)) (zz := false) mZ h 5 rfl Bb (cO q) (cO q) rfl rfl) (aC rfl rfl (fun q => fZ (cO q)) (ae (gJ rfl rfl mR) (ah (aa (aJ hs rfl (fun Un hs => ?_) (fun Un hs => ?_)))))))
 refine ai (ag (ae (aF h 6 rfl BX rfl rfl) (ae (au nI rfl) (ae (aF h 20 rfl aV rfl rfl) (yh (nH := (List.map (fun p => (p.1, (fun x => Value.bool x) p.2)) (xk rA.n true mZ))) h 5 rfl Bb rfl rfl rfl (ze (f := (fun x => Value.bool x)) _) fun w h => ah (aa (ag (ae (aF h 7 rfl qx rfl rfl) (ae (au nI rfl) (ae (aF h 20 rfl aV rfl rfl) (oV (R := cZ) (vs := [(.int .i64 (rA.n))]) (xs := [rA.n]) h 21 fP rfl rfl rfl ⟨rfl, trivial⟩ rfl fun w u126 h => ?_)))))))))))
 obtain ⟨a127, hs⟩ := aZ hs
 refine jg (R := cZ) (m := [rA.n]) h 11 rfl (h.dJ 21 rfl) fP rfl rfl rfl a127.1 a127.2 fun w WQ h => dX h 7 [WQ] rfl qx rfl rfl rfl rfl (h.fF 11 rfl).one fun w h => ah (Im Tryz.results82 (⟨_, rfl, ?_⟩))
 refine ah (az (ay ?_))
 exact bR (WQ, (Bp ++ [rA.n]), (xk rA.n true mZ)) ⟨h.cn _, hs⟩
 refine aD (Im Tryz.results82 (⟨_, rfl, ?_⟩))
 refine ah (az (ay ?_))
 exact bR (v105, Bp, mZ) ⟨h.cn _, hs⟩
 rw [fK (hik ▸ Pz), fB] at hs
 refine bT (aH (aH (aT (az (aa (ag (ae (ak (v := (.int .i64 (Em))) rfl) ?_)))))))
 obtain ⟨a129, hs⟩ := aZ hs
 refine ae (bY rfl rfl a129) (ae (aj (v := (.int .i64 ((Em + 1)))) rfl) (ah (ay ?_)))
 subst WI
 exact iQ ⟨WG, (Em + 1), v105, Bp, mZ⟩ ⟨h.cn _, hs⟩
 refine bT (aH (aH (aT (aa (ai (ag (ae (aF h 7 rfl qx rfl rfl) (ae (aj (v := v68) rfl) (ae (aj (v := (.int .i64 (0))) rfl) (ah (aa (aI (zD (v1 := v68) (v2 := (.int .i64 (0))) Tryz.results48 rfl rfl ?_)))))))))))))
 obtain rfl := Option.some.inj hs
 exact ⟨h.grown, _, rfl, (h.kJ 11 rfl).1, (h.kJ 11 rfl).2⟩
def zt (Dt : List Val → Option (List Val)) (Ig : List Val) : Option (List Val) :=
  Dt Ig
def zu (mL : List (Int × Int)) (i6 : Int) (x4 : List Val) (Dt : List Val → Option (List Val)) : Option (List Val) :=
  (idx x4 i6).bind fun Bq => bif decide ((Bq.kind : Int) = 2) then zt Dt (x4.set (i6).toNat { Bq with n := ((lk Bq.n mL).getD (0 : Int)) }) else zt Dt x4
def Cn (x4 : List Val) : Option (List Val) :=
  some x4
def En (sx : List Val) (mL : List (Int × Int)) : Option (List Val) :=
  upto (zu mL) Cn 0 ((sx.length : Int)).toNat sx
theorem Jo (w0 : World) (M : BS) (hM : ∀ b, M b → b < w0.heap.size) (bq bm : Nat) (sv : Value) (sx : List Val) (hC : Chunk.holds w0 M (Chunk.own' (.own bE 51 sv sx : Chunk)) (.own bE 51 sv sx : Chunk)) (hap : ∀ b, Chunk.own' (.own bE 51 sv sx : Chunk) b → ¬ M b) (mL : List (Int × Int)) (hbm : tT w0 bm (List.map (fun p => (p.1, (fun x => Value.int .i64 x) p.2)) mL)) (nbm : ¬ Chunk.own' (.own bE 51 sv sx : Chunk) bm) (hbq : ∃ E, w0.heap[bq]? = some (.cells #[(.map (some bm))] E (0, 0))) (nbq : ¬ Chunk.own' (.own bE 51 sv sx : Chunk) bq) (r : List Val) (hs : En sx mL = some r) :
    Calls Tryz.prog 50 #[sv, (.pointer (some ⟨bq, 0, none⟩))] w0 (fun e w' => aQ (Chunk.own' (.own bE 51 sv sx : Chunk)) w0 w' ∧ e = .returned (.tuple #[]) ∧ Chunk.holds w' M (Chunk.own' (.own bE 51 sv r : Chunk)) (.own bE 51 sv r : Chunk) ∧ (∀ b, Chunk.own' (.own bE 51 sv r : Chunk) b → b < w0.heap.size → Chunk.own' (.own bE 51 sv sx : Chunk) b)) := by
 refine aK (args := [sv, (.pointer (some ⟨bq, 0, none⟩))]) Tryz.func50 rfl Tryz.ntmps50 (Nat.le_of_ble_eq_true rfl) ?_
 have h := SH.DK hM hC hap
 replace h := h.xh 3 (cs := [(.map (some bm))]) hbq nbq yt
 have nbqK := nbq
 have WR := nbm
 generalize Ii : (.own bE 51 sv sx : Chunk).own' = K0 at h nbqK WR
 refine ai (ag (ae (ak (v := sv) rfl) (ae (bF dD rfl (h.dJ 1 rfl)) (ae (ak (v := (.int .i64 (0))) rfl) (ah (aa (aL ?_)))))))
 have hli6 := (h.dJ 1 rfl).bL
 refine fq (σ := Nat × Int × List Val) (inl [3, 4, 7, 8, 9, 10, 11, 12, 13, 14, 15, 16, 17, 18, 19, 20, 21, 22, 23]) (fun ⟨k5, i6, x4⟩ => [(7, (.int .i64 (i6)))]) (fun ⟨k5, i6, x4⟩ w => SH w0 M K0 w (hset [(1, .own bE 51 sv x4), (2, .no), (3, .pt bq 0 [(.map (some bm))])]) ∧ i6 = (k5 : Int) ∧ upto (zu mL) Cn i6 (((sx.length : Int)).toNat - k5) x4 = some r) (fun ⟨k5, i6, x4⟩ => ((sx.length : Int)).toNat - k5) ⟨0, 0, sx⟩ ⟨rfl, trivial⟩ ?_ ?_
 exact ⟨h.cn _, rfl, hs⟩
 rintro ⟨k5, i6, x4⟩ w dm ⟨h, hik, hs⟩
 refine ai (ag ?_)
 refine ae (dA rfl rfl) (ah (aa ?_))
 refine ai (gH rfl (fun e10 => ?_) (fun e10 => ?_))
 refine aD (aa ?_)
 rw [pz (by have := of_decide_eq_true e10; omega)] at hs
 generalize OJ : upto (zu mL) Cn (i6 + 1) (((sx.length : Int)).toNat - (k5 + 1)) = Dt at hs
 have OL : jb (i6 + 1) := (by have := of_decide_eq_true e10; have := hli6; exact jb.mk (by omega) (by omega))
 refine bU (σ := List Val) (inl [3, 4, 9, 10, 11, 12, 13, 14, 15, 16, 17, 18, 19, 20, 21, 22]) (fun Ig => []) (fun Ig w => SH w0 M K0 w (hset [(1, .own bE 51 sv Ig), (2, .no), (3, .pt bq 0 [(.map (some bm))])]) ∧ zt Dt Ig = some r) ?_ ?_
 rintro Ig w dm ⟨h, hs⟩
 refine ag (ae (bY rfl rfl OL) (ae (ak (v := (.int .i64 ((i6 + 1)))) rfl) (ah (ay ?_))))
 subst OJ
 exact iQ ⟨k5 + 1, i6 + 1, Ig⟩ ⟨h.cn _, by omega, hs⟩ (by have := of_decide_eq_true e10; dsimp only; omega)
 refine aL (ai (ag (ae (ak (v := (.int .i64 (i6))) rfl) ?_)))
 obtain ⟨Bq, e14, hs⟩ := aM hs
 obtain ⟨b16, q17, i15⟩ := h.Ir 1 rfl dD rfl (aX e14).1 (aX e14).2
 refine ae (i15 _ _ _ _ _ _ _ _ _ rfl rfl) ?_
 obtain ⟨cs18, m19, O0⟩ := h.Ns 1 rfl q17 (aX e14).2
 obtain rfl := O0
 refine ae (BL (k := 0) (vs := [(.int .i64 (Bq.kind)), (.int .i64 (Bq.n))]) m19 ic rfl rfl rfl (Nat.le_of_ble_eq_true rfl)) (bP h 4 ic fun w Fh h => ae (aj (v := (.int .i64 (i6))) rfl) (dV (vs := [(.int .i64 (Bq.kind)), (.int .i64 (Bq.n))]) h 4 [(.int .i64 (Bq.kind)), (.int .i64 (Bq.n))] rfl ic rfl rfl rfl rfl rfl (ax rfl (ax rfl bA)) fun w h => ah (aa (ai (ag (ae (au A8 rfl) (ae (aF h 4 rfl aV rfl rfl) (ae (bM rfl rfl) (ah (aa (aJ hs rfl (fun c22 hs => ?_) (fun c22 hs => ?_))))))))))))
 refine ag (ae (ak (v := sv) rfl) (ae (ak (v := (.int .i64 (i6))) rfl) (ae (ed (k := 0) h 3 rfl LG rfl rfl) (ae (au nI rfl) (ae (aF h 4 rfl aV rfl rfl) (ae (Tv (f := (fun x => Value.int .i64 x)) (zz := (0 : Int)) mL ((hbm).keep h.keep WR) LF rfl rfl rfl) ?_))))))
 obtain ⟨Wm, q25, i23⟩ := h.Ir 1 rfl dD rfl (aX e14).1 (aX e14).2
 refine ae (i23 _ _ _ _ _ _ _ _ _ rfl rfl) (ae (au nI rfl) (NK (a' := { Bq with n := ((lk Bq.n mL).getD (0 : Int)) }) h 1 rfl q25 rfl (aX e14).2 aV rfl rfl rfl rfl (by rintro _ rfl; rfl) fun w h => ah (az (ay ?_))))
 exact bR (x4.set (i6).toNat { Bq with n := ((lk Bq.n mL).getD (0 : Int)) }) ⟨h.cn _, hs⟩
 refine aD (az (ay ?_))
 exact bR x4 ⟨h.cn _, hs⟩
 rw [pE (by have := of_decide_eq_false e10; omega)] at hs
 refine bT (aH (aH (aT (Im Tryz.results50 ?_))))
 obtain rfl := Option.some.inj hs
 subst Ii
 obtain ⟨o1, o2, o3⟩ := h.zV 1 (C := (.own bE 51 sv x4 : Chunk)) rfl trivial
 exact ⟨o2, rfl, o1, o3⟩
def sS (wX : List (Int × Int)) (i127 : Int) (Br : List (List Val)) (Sk : List (List Val) → Option LX.State) : Option LX.State :=
  (idx Br i127).bind fun zY => (En zY wX).bind fun PE => Sk (Br.set (i127).toNat PE)
def uy (Ca : List LX.Frame) (qY : LX.State) (Br : List (List Val)) : Option LX.State :=
  some (⟨Ca, Br, qY.status, qY.bQ⟩ : LX.State)
def qP (wX : List (Int × Int)) (i99 : Int) (Ca : List LX.Frame) (Sl : List LX.Frame → Option LX.State) : Option LX.State :=
  (idx Ca i99).bind fun x105 => (En x105.regs wX).bind fun Cm => Sl (Ca.set (i99).toNat ({ x105 with regs := Cm }))
def uz (wX : List (Int × Int)) (qY : LX.State) (AA : List (List Val)) (Ca : List LX.Frame) : Option LX.State :=
  upto (sS wX) (uy Ca qY) 0 ((AA.length : Int)).toNat AA
def mO (qY : LX.State) (i67 : Int) (PG : Int) (s : List (List Val) × List Int × List (Int × Int)) (WS : List (List Val) × List Int × List (Int × Int) → Option LX.State) : Option LX.State :=
  match s with | (AA, Ny, wX) => (idx qY.cells PG).bind fun Sm => gG (PG ∉ Ny) (gG (Room 24 AA [Sm]) (WS ((AA ++ [Sm]), (Ny ++ [PG]), (xk PG i67 wX))))
def oI (qY : LX.State) (s : List (List Val) × List Int × List (Int × Int)) : Option LX.State :=
  match s with | (AA, Ny, wX) => upto (qP wX) (uz wX qY AA) 0 ((qY.frames.length : Int)).toNat qY.frames
def oJ (Bq : LX.Frame) (xW : List Val) (WT : List Val → Option LX.State) : Option LX.State :=
  gG (Room 16 xW Bq.regs) (WT (xW ++ Bq.regs))
def uA (N : Nat) (a : LX.State) (xW : List Val) : Option LX.State :=
  (xH N a.cells xW).bind fun y28 => bif decide ((y28.2 : Int) ≠ 0) then none else (Dx a).bind fun qY => eX (mO qY) (oI qY) 0 y28.1 ([], ([] : List Int), ([] : List (Int × Int)))
def sU (N : Nat) (a : LX.State) : Option LX.State :=
  each oJ (uA N a) a.frames []
theorem xI (N : Nat) (w0 : World) (M : BS) (hM : ∀ b, M b → b < w0.heap.size) (a : LX.State) (AB Bn : Value) (ha0 : eZ eH w0 BE M AB a.frames) (ha1 : eZ (ou bE) w0 BE M Bn a.cells) (r : LX.State) (hs : sU N a = some r) :
    Calls Tryz.prog 20 #[(.agg #[AB, Bn, (.int .i64 (a.status)), (.int .i64 (a.bQ))])] w0 (fun e w' => Grow w0 w' ∧ ∃ wI, ∃ Af, ∃ wK, ∃ Ck, e = .returned (.agg #[wI, Af, .int .i64 r.status, .int .i64 r.bQ]) ∧ Chunk.holds w' M (Chunk.own' ((.two (.two (.two (.own dn.raw 49 wI (List.zip r.frames wK)) (.fU (cu bE 51 hn wK (List.map dn.sub r.frames)))) (.own (fo Val).raw 47 Af (List.zip r.cells Ck))) (.fU (cu bE 51 hn Ck (List.map (fo Val).sub r.cells)))) : Chunk)) ((.two (.two (.two (.own dn.raw 49 wI (List.zip r.frames wK)) (.fU (cu bE 51 hn wK (List.map dn.sub r.frames)))) (.own (fo Val).raw 47 Af (List.zip r.cells Ck))) (.fU (cu bE 51 hn Ck (List.map (fo Val).sub r.cells)))) : Chunk) ∧ (∀ b, Chunk.own' ((.two (.two (.two (.own dn.raw 49 wI (List.zip r.frames wK)) (.fU (cu bE 51 hn wK (List.map dn.sub r.frames)))) (.own (fo Val).raw 47 Af (List.zip r.cells Ck))) (.fU (cu bE 51 hn Ck (List.map (fo Val).sub r.cells)))) : Chunk) b → w0.heap.size ≤ b)) := by
 refine aK (args := [(.agg #[AB, Bn, (.int .i64 (a.status)), (.int .i64 (a.bQ))])]) Tryz.func20 rfl Tryz.ntmps20 (Nat.le_of_ble_eq_true rfl) ?_
 have h := SH.init hM
 replace h := h.dU 1 ha0 aW
 replace h := h.dU 2 ha1 (bD aW)
 refine ai (ag (pX (cs := [AB, Bn, (.int .i64 (a.status)), (.int .i64 (a.bQ))]) h 3 rfl rfl fun w b1 h => bP h 4 di fun w b2 h => ah (aa (ai (ag (ae (aj (v := (.slice none 0 0)) rfl) (ah (aa (ai (ai (ag (ae (au kD rfl) (ae (aF h 3 rfl qw rfl rfl) (ae (bF fD rfl (h.fV 1 rfl)) (ae (ak (v := (.int .i64 (0))) rfl) (ah (aa (aL ?_))))))))))))))))))
 replace h := h.vG (R := bE) (E := 51) 8
 refine fq (σ := Nat × Int × Value × List Val) (inl [3, 5, 20, 21, 22, 23, 24, 25, 26, 27, 28]) (fun ⟨k11, i12, v9, xW⟩ => [(3, v9), (20, (.int .i64 (i12)))]) (fun ⟨k11, i12, v9, xW⟩ w => SH w0 M BE w (hset [(1, .sr eH AB a.frames), (2, .sr (ou bE) Bn a.cells), (3, .blk b1 [AB, Bn, (.int .i64 (a.status)), (.int .i64 (a.bQ))]), (4, .blk b2 [(.slice none 0 0), (.slice none 0 0), (.int .i64 (0)), (.int .i64 (0))]), (8, .own bE 51 v9 xW)]) ∧ i12 = (k11 : Int) ∧ each oJ (uA N a) (a.frames.drop k11) xW = some r) (fun ⟨k11, i12, v9, xW⟩ => a.frames.length - k11) ⟨0, 0, (.slice none 0 0), []⟩ ⟨rfl, rfl, trivial⟩ ?_ ?_
 exact ⟨h.cn _, rfl, hs⟩
 rintro ⟨k11, i12, v9, xW⟩ w dm ⟨h, hik, hs⟩
 refine ai (ag ?_)
 refine ae (dA rfl rfl) (ah (aa ?_))
 refine ai (gH rfl (fun e16 => ?_) (fun e16 => ?_))
 refine aD (aa ?_)
 obtain ⟨Bq, e17a, e17b⟩ := fJ (hik ▸ e16)
 rw [e17b, df] at hs
 generalize WU : each oJ (uA N a) (a.frames.drop (k11 + 1)) = WT at hs
 have e17r := fO ((h.fV 1 rfl)).bL hik e16
 refine ai (aL (ai (ag ?_)))
 obtain ⟨b19, o20, Uz, h, UA, i18⟩ := h.wZ 1 9 rfl fD rfl (gZ hik) (fM hik e17a)
 obtain ⟨u23, rfl, g24⟩ := rZ UA
 replace h := h.bG 10 g24.up
 refine ae (i18 _ _ _ _ _ _ _ _ _ rfl rfl) (ae (iF (k := 0) (vs := [(.int .i64 (Bq.proc)), (.int .i64 (Bq.at_)), u23, (.int .i64 (Bq.kI))]) h 9 rfl iW rfl rfl rfl (Nat.le_of_ble_eq_true rfl)) (bP h 11 iW fun w b25 h => dV (vs := [(.int .i64 (Bq.proc)), (.int .i64 (Bq.at_)), u23, (.int .i64 (Bq.kI))]) h 11 [(.int .i64 (Bq.proc)), (.int .i64 (Bq.at_)), u23, (.int .i64 (Bq.kI))] rfl iW rfl rfl rfl rfl rfl (ax rfl (ax rfl (ax (h.fu 10 rfl).one (ax rfl bA)))) fun w h => ah (aa (ag (ae (ak (v := v9) rfl) (ae (au pI rfl) (ae (aF h 11 rfl oW rfl rfl) ?_)))))))
 obtain ⟨a26, hs⟩ := aZ hs
 refine jg (R := bE) (m := Bq.regs) h 8 rfl (h.mU 10 rfl) vV rfl rfl rfl a26.1 a26.2 fun w u27 h => ae (aj (v := u27) rfl) (ah (az (aa (ag (ae (bY rfl rfl e17r) (ae (ak (v := (.int .i64 ((i12 + 1)))) rfl) (ah (ay ?_))))))))
 subst WU
 exact iQ ⟨k11 + 1, i12 + 1, u27, (xW ++ Bq.regs)⟩ ⟨h.cn _, by omega, hs⟩ (by have := of_decide_eq_true e16; dsimp only; omega)
 rw [fK (hik ▸ e16), fB] at hs
 refine bT (aH (aH (aT (aa (ai (ag (ae (au kE rfl) (ae (aF h 3 rfl nO rfl rfl) (ae (ak (v := v9) rfl) ?_)))))))))
 obtain ⟨y28, e29, hs⟩ := aM hs
 refine aO TF rfl rfl (Hz N _ _ h.lt Bn a.cells (h.fV 2 rfl) v9 xW (h.dJ 8 rfl) _ e29) ?_
 rintro _ w ⟨Nv, u30, rfl, g31, Uq⟩
 refine ⟨_, rfl, ?_⟩
 replace h := h.jm 12 Nv g31 Uq
 refine ae (ak (v := (.tuple #[u30, (.int .i64 (y28.2))])) rfl) (ae (bC rfl rfl) (ae (bC rfl rfl) (ae (aj (v := u30) rfl) (ae (aj (v := (.int .i64 (y28.2))) rfl) (ah (aa (ai (ai (ag (ae (ak (v := (.int .i64 (y28.2))) rfl) (ae (iH rfl rfl) (ah (aa (aJ hs rfl (fun c34 hs => ?_) (fun c34 hs => ?_)))))))))))))))
 refine ai (ag (ae (fA (vs := [AB, Bn, (.int .i64 (a.status)), (.int .i64 (a.bQ))]) h 3 rfl di rfl rfl rfl) (dV (vs := [AB, Bn, (.int .i64 (a.status)), (.int .i64 (a.bQ))]) h 4 [AB, Bn, (.int .i64 (a.status)), (.int .i64 (a.bQ))] rfl di rfl rfl rfl rfl rfl (ax (h.Md 1 rfl).one (ax (h.Md 2 rfl).one (ax rfl (ax rfl bA)))) fun w h => ah (aa (aI (aB ?_))))))
 cases hs
 refine aD (aa (ai (ag (ae (fA (vs := [AB, Bn, (.int .i64 (a.status)), (.int .i64 (a.bQ))]) h 3 rfl di rfl rfl rfl) ?_))))
 obtain ⟨qY, e36, hs⟩ := aM hs
 refine aO TG rfl rfl (MZ _ _ h.lt a AB Bn (h.fV 1 rfl) (h.fV 2 rfl) _ e36) ?_
 rintro _ w ⟨ZO, u37, Qx, Eo, Jp, rfl, h41, h42⟩
 refine ⟨_, rfl, ?_⟩
 replace h := h.IK 13 (C := (.two (.two (.two (.own dn.raw 49 u37 (List.zip qY.frames Eo)) (.fU (cu bE 51 hn Eo (List.map dn.sub qY.frames)))) (.own (fo Val).raw 47 Qx (List.zip qY.cells Jp))) (.fU (cu bE 51 hn Jp (List.map (fo Val).sub qY.cells))) : Chunk)) ZO ⟨⟨⟨trivial, trivial⟩, trivial⟩, trivial⟩ h41 h42
 replace h := h.iT 13 16 (by decide) rfl rfl
 replace h := h.iT 13 15 (by decide) rfl rfl
 replace h := h.iT 13 14 (by decide) rfl rfl
 refine dV (vs := [u37, Qx, (.int .i64 (qY.status)), (.int .i64 (qY.bQ))]) h 3 [u37, Qx, (.int .i64 (qY.status)), (.int .i64 (qY.bQ))] rfl di rfl rfl rfl rfl rfl (ax (h.fF 13 rfl).one (ax (h.fF 15 rfl).one (ax rfl (ax rfl bA)))) fun w h => ah (aa (ai (ag (y5 h 17 fun w Qv h => nM h 18 LG fun w Qw h => dX h 18 [(.map (some Qv))] rfl LG rfl rfl rfl rfl rfl fun w h => ah (aa (ai (ag (ae (aj (v := (.slice none 0 0)) rfl) (ah (aa (ai (ai (ag (ae (ak (v := u30) rfl) (ae (bF bS rfl (h.dJ 12 rfl)) (ae (ak (v := (.int .i64 (0))) rfl) (ah (aa (aL ?_)))))))))))))))))))
 replace h := h.freeze 12 rfl
 replace h := h.Tq 16 rfl
 replace h := h.vG (R := (fo Val).raw) (E := 47) 25
 replace h := h.Tm (R := bE) (Es := 51) 26
 refine fq (σ := Nat × Int × Value × List Value × List (List Val) × List Int × List (Int × Int)) (inl [9, 10, 11, 44, 45, 46, 47, 48, 49, 50, 51, 52, 53, 54, 55, 56, 57, 58, 59, 60]) (fun ⟨Sn, i67, v61, Co, AA, Ny, wX⟩ => [(9, v61), (44, (.int .i64 (i67)))]) (fun ⟨Sn, i67, v61, Co, AA, Ny, wX⟩ w => SH w0 M BE w (hset [(3, .blk b1 [u37, Qx, (.int .i64 (qY.status)), (.int .i64 (qY.bQ))]), (4, .blk b2 [(.slice none 0 0), (.slice none 0 0), (.int .i64 (0)), (.int .i64 (0))]), (12, .rd cZ u30 y28.1), (13, .own dn.raw 49 u37 (List.zip qY.frames Eo)), (14, .fU (cu bE 51 hn Eo (List.map dn.sub qY.frames))), (15, .own (fo Val).raw 47 Qx (List.zip qY.cells Jp)), (16, .fU (cu bE 51 (hmv Ny) Jp (List.map (fo Val).sub qY.cells))), (17, .mp Qv (List.map (fun p => (p.1, (fun x => Value.int .i64 x) p.2)) wX)), (18, .blk Qw [(.map (some Qv))]), (25, .own (fo Val).raw 47 v61 (List.zip AA Co)), (26, .fU (cu bE 51 hn Co (List.map (fo Val).sub AA)))]) ∧ i67 = (Sn : Int) ∧ eX (mO qY) (oI qY) i67 (y28.1.drop Sn) (AA, Ny, wX) = some r) (fun ⟨Sn, i67, v61, Co, AA, Ny, wX⟩ => y28.1.length - Sn) ⟨0, 0, (.slice none 0 0), ([] : List Value), [], ([] : List Int), ([] : List (Int × Int))⟩ ⟨rfl, rfl, trivial⟩ ?_ ?_
 exact ⟨h.cn _, rfl, hs⟩
 rintro ⟨Sn, i67, v61, Co, AA, Ny, wX⟩ w dm ⟨h, hik, hs⟩
 refine ai (ag ?_)
 refine ae (dA rfl rfl) (ah (aa ?_))
 refine ai (gH rfl (fun Rl => ?_) (fun Rl => ?_))
 refine aD (aa ?_)
 obtain ⟨PG, e72a, e72b⟩ := fJ (hik ▸ Rl)
 rw [e72b, jc] at hs
 generalize WV : eX (mO qY) (oI qY) (i67 + 1) (y28.1.drop (Sn + 1)) = WS at hs
 have e72r := fO ((h.mU 12 rfl)).bL hik Rl
 refine ai (aL (ai (ag (ae (ak (v := (.int .i64 (i67))) rfl) ?_))))
 obtain ⟨b74, o75, cs76, h, ZU, i73⟩ := h.FD 12 27 rfl bS rfl (gZ hik) (fM hik e72a)
 obtain rfl := ZU
 refine ae (i73 _ _ _ _ _ _ _ _ _ rfl rfl) (ae (ed (k := 0) h 27 rfl aV rfl rfl) (ae (aj (v := (.int .i64 (i67))) rfl) (ae (aj (v := (.int .i64 (PG))) rfl) (ah (aa (ai (ag (ae (aF h 18 rfl LG rfl rfl) (ae (ak (v := (.int .i64 (PG))) rfl) (ae (ak (v := (.int .i64 (i67))) rfl) (yh (nH := (List.map (fun p => (p.1, (fun x => Value.int .i64 x) p.2)) (xk PG i67 wX))) h 17 rfl LF rfl rfl rfl (ze (f := (fun x => Value.int .i64 x)) _) fun w h => ah (aa (ag (ae (ak (v := v61) rfl) (ae (au kE rfl) (ae (aF h 3 rfl nO rfl rfl) (ae (ak (v := (.int .i64 (PG))) rfl) ?_)))))))))))))))))
 obtain ⟨Sm, WW, hs⟩ := aM hs
 obtain ⟨a83, hs⟩ := aZ hs
 obtain ⟨WX, e85, h⟩ := h.QR 16 28 Sm rfl rfl (by decide) (aX WW).1 (aX WW).2 a83 rfl
 obtain ⟨b81, q82, i80⟩ := h.Ir 15 rfl fe rfl (aX WW).1 (mf (aX WW).2 e85)
 refine ae (i80 _ _ _ _ _ _ _ _ _ rfl rfl) ?_
 obtain ⟨cs86, m87, r88⟩ := h.Ns 15 rfl q82 (mf (aX WW).2 e85)
 obtain ⟨rfl, -⟩ := r88
 refine ae (CG (k := 0) m87 oW rfl rfl) ?_
 have WY : (Value.oneCell' WX) = true := (h.fF 28 rfl).one
 refine oV (R := (fo Val).raw) (vs := [WX]) (xs := List.zip [Sm] [WX]) h 29 mW rfl rfl rfl ⟨⟨ni WY, WY⟩, trivial⟩ rfl fun w WZ h => ?_
 replace h := h.QK (N := (fo Val)) 28 Sm rfl rfl
 obtain ⟨a90, hs⟩ := aZ hs
 have z92 := h.oM 26 rfl
 have W9 := h.oM 28 rfl
 refine jg (R := (fo Val).raw) (m := List.zip [Sm] [WX]) h 25 rfl (h.dJ 29 rfl) mW rfl rfl rfl (by rw [qp z92, qp W9]; exact a90.1) (by rw [qp z92, qp W9]; exact a90.2) fun w Ub h => ?_
 replace h := (h.QI 26 28 rfl rfl (by decide)).q9 29
 rw [QJ z92, ← List.map_append] at h
 obtain ⟨us93, Xa⟩ : ∃ z, z = Co ++ [WX] := ⟨_, rfl⟩
 rw [← Xa] at h
 refine ae (aj (v := Ub) rfl) (ah (az (aa (ag (ae (bY rfl rfl e72r) (ae (ak (v := (.int .i64 ((i67 + 1)))) rfl) (ah (ay ?_))))))))
 subst WV
 exact iQ ⟨Sn + 1, i67 + 1, Ub, us93, (AA ++ [Sm]), (Ny ++ [PG]), (xk PG i67 wX)⟩ ⟨h.cn _, by omega, hs⟩ (by have := of_decide_eq_true Rl; dsimp only; omega)
 rw [fK (hik ▸ Rl), ow] at hs
 refine bT (aH (aH (aT (aa (ai (ag (ae (pM (c1 := []) (c2 := [(.pointer (some ⟨Qw, 0, none⟩))]) rfl rfl) (ae (aj (v := (.func (.func 50) #[] #[(.pointer (some ⟨Qw, 0, none⟩))])) rfl) (ah (aa (ai (ai (ag (ae (au kD rfl) (ae (aF h 3 rfl qw rfl rfl) (ae (yo (N := dn) fD rfl (h.dJ 13 rfl) (h.oM 14 rfl)) (ae (ak (v := (.int .i64 (0))) rfl) (ah (aa (aL ?_))))))))))))))))))))
 have Xb := DY (h.dJ 13 rfl) (h.oM 14 rfl)
 refine fq (σ := Nat × Int × List LX.Frame) (inl [14, 65, 66, 67, 68, 69, 70, 71, 72, 73]) (fun ⟨Sq, i99, Ca⟩ => [(65, (.int .i64 (i99)))]) (fun ⟨Sq, i99, Ca⟩ w => SH w0 M BE w (hset [(3, .blk b1 [u37, Qx, (.int .i64 (qY.status)), (.int .i64 (qY.bQ))]), (4, .blk b2 [(.slice none 0 0), (.slice none 0 0), (.int .i64 (0)), (.int .i64 (0))]), (13, .own dn.raw 49 u37 (List.zip Ca Eo)), (14, .fU (cu bE 51 hn Eo (List.map dn.sub Ca))), (15, .own (fo Val).raw 47 Qx (List.zip qY.cells Jp)), (16, .fU (cu bE 51 (hmv Ny) Jp (List.map (fo Val).sub qY.cells))), (17, .mp Qv (List.map (fun p => (p.1, (fun x => Value.int .i64 x) p.2)) wX)), (18, .blk Qw [(.map (some Qv))]), (25, .own (fo Val).raw 47 v61 (List.zip AA Co)), (26, .fU (cu bE 51 hn Co (List.map (fo Val).sub AA)))]) ∧ i99 = (Sq : Int) ∧ upto (qP wX) (uz wX qY AA) i99 (((qY.frames.length : Int)).toNat - Sq) Ca = some r) (fun ⟨Sq, i99, Ca⟩ => ((qY.frames.length : Int)).toNat - Sq) ⟨0, 0, qY.frames⟩ ⟨rfl, trivial⟩ ?_ ?_
 exact ⟨h.cn _, rfl, hs⟩
 rintro ⟨Sq, i99, Ca⟩ w dm ⟨h, hik, hs⟩
 refine ai (ag ?_)
 refine ae (dA rfl rfl) (ah (aa ?_))
 refine ai (gH rfl (fun PH => ?_) (fun PH => ?_))
 refine aD (aa ?_)
 rw [pz (by have := of_decide_eq_true PH; omega)] at hs
 generalize UB : upto (qP wX) (uz wX qY AA) (i99 + 1) (((qY.frames.length : Int)).toNat - (Sq + 1)) = Sl at hs
 have Xc : jb (i99 + 1) := (by have := of_decide_eq_true PH; have := Xb; exact jb.mk (by omega) (by omega))
 refine ai (aL (ai (ag ?_)))
 obtain ⟨x105, PI, hs⟩ := aM hs
 obtain ⟨KR, UC, h⟩ := h.Dp 14 30 x105.regs rfl rfl (by decide) (aX PI).2 rfl
 obtain ⟨b108, q109, i107⟩ := h.Ir 13 rfl fD rfl (aX PI).1 (mf (aX PI).2 UC)
 refine ae (i107 _ _ _ _ _ _ _ _ _ rfl rfl) ?_
 obtain ⟨cs112, m113, r114⟩ := h.Ns 13 rfl q109 (mf (aX PI).2 UC)
 obtain ⟨rfl, -⟩ := r114
 refine ae (BL (k := 0) (vs := [(.int .i64 (x105.proc)), (.int .i64 (x105.at_)), KR, (.int .i64 (x105.kI))]) m113 iW rfl rfl rfl (Nat.le_of_ble_eq_true rfl)) (bP h 31 iW fun w b115 h => dV (vs := [(.int .i64 (x105.proc)), (.int .i64 (x105.at_)), KR, (.int .i64 (x105.kI))]) h 31 [(.int .i64 (x105.proc)), (.int .i64 (x105.at_)), KR, (.int .i64 (x105.kI))] rfl iW rfl rfl rfl rfl rfl (ax rfl (ax rfl (ax (h.fF 30 rfl).one (ax rfl bA)))) fun w h => ah (aa (ag (ae (ak (v := (.func (.func 50) #[] #[(.pointer (some ⟨Qw, 0, none⟩))])) rfl) (ae (au pI rfl) (ae (aF h 31 rfl oW rfl rfl) ?_))))))
 obtain ⟨l116a, l116b, Xd⟩ := h.l7 30 (C := (.own bE 51 KR x105.regs : Chunk)) rfl trivial
 obtain ⟨Cm, e118, hs⟩ := aM hs
 refine aO Ou rfl rfl (Jo _ _ Xd Qw Qv KR x105.regs l116a l116b wX (h.JZ 17 rfl) (fun hb => h.apart 30 17 (by decide) _ hb rfl) (h.oU 18 rfl) (fun hb => h.apart 30 18 (by decide) _ hb rfl) _ e118) ?_
 rintro _ w ⟨k119, rfl, h120, h121⟩
 refine ⟨_, rfl, ?_⟩
 replace h := h.back 30 (C := (.own bE 51 KR x105.regs : Chunk)) (C' := (.own bE 51 KR Cm : Chunk)) rfl trivial h120 k119 h121
 refine ah (az (aa (ag (ae (bY rfl rfl Xc) (ae (ak (v := (.int .i64 ((i99 + 1)))) rfl) (ah ?_))))))
 replace h := h.Lt 13 14 30 ({ x105 with regs := Cm }) rfl rfl rfl (by decide) (by decide) (by decide) (aX PI).2 UC rfl
 refine ay ?_
 subst UB
 exact iQ ⟨Sq + 1, i99 + 1, (Ca.set (i99).toNat ({ x105 with regs := Cm }))⟩ ⟨h.cn _, by omega, hs⟩ (by have := of_decide_eq_true PH; dsimp only; omega)
 rw [pE (by have := of_decide_eq_false PH; omega)] at hs
 refine bT (aH (aH (aT (aa (ai (ai (ag (ae (ak (v := v61) rfl) (ae (yo (N := (fo Val)) fe rfl (h.dJ 25 rfl) (h.oM 26 rfl)) (ae (ak (v := (.int .i64 (0))) rfl) (ah (aa (aL ?_)))))))))))))
 have UD := DY (h.dJ 25 rfl) (h.oM 26 rfl)
 refine fq (σ := Nat × Int × List (List Val)) (inl [16, 76, 77, 78, 79, 80, 81, 82, 83]) (fun ⟨Jq, i127, Br⟩ => [(76, (.int .i64 (i127)))]) (fun ⟨Jq, i127, Br⟩ w => SH w0 M BE w (hset [(3, .blk b1 [u37, Qx, (.int .i64 (qY.status)), (.int .i64 (qY.bQ))]), (4, .blk b2 [(.slice none 0 0), (.slice none 0 0), (.int .i64 (0)), (.int .i64 (0))]), (13, .own dn.raw 49 u37 (List.zip Ca Eo)), (14, .fU (cu bE 51 hn Eo (List.map dn.sub Ca))), (15, .own (fo Val).raw 47 Qx (List.zip qY.cells Jp)), (16, .fU (cu bE 51 (hmv Ny) Jp (List.map (fo Val).sub qY.cells))), (17, .mp Qv (List.map (fun p => (p.1, (fun x => Value.int .i64 x) p.2)) wX)), (18, .blk Qw [(.map (some Qv))]), (25, .own (fo Val).raw 47 v61 (List.zip Br Co)), (26, .fU (cu bE 51 hn Co (List.map (fo Val).sub Br)))]) ∧ i127 = (Jq : Int) ∧ upto (sS wX) (uy Ca qY) i127 (((AA.length : Int)).toNat - Jq) Br = some r) (fun ⟨Jq, i127, Br⟩ => ((AA.length : Int)).toNat - Jq) ⟨0, 0, AA⟩ ⟨rfl, trivial⟩ ?_ ?_
 exact ⟨h.cn _, rfl, hs⟩
 rintro ⟨Jq, i127, Br⟩ w dm ⟨h, hik, hs⟩
 refine ai (ag ?_)
 refine ae (dA rfl rfl) (ah (aa ?_))
 refine ai (gH rfl (fun PK => ?_) (fun PK => ?_))
 refine aD (aa ?_)
 rw [pz (by have := of_decide_eq_true PK; omega)] at hs
 generalize UE : upto (sS wX) (uy Ca qY) (i127 + 1) (((AA.length : Int)).toNat - (Jq + 1)) = Sk at hs
 have Xe : jb (i127 + 1) := (by have := of_decide_eq_true PK; have := UD; exact jb.mk (by omega) (by omega))
 refine ai (aL (ai (ag ?_)))
 obtain ⟨zY, PL, hs⟩ := aM hs
 obtain ⟨u138, MU, h⟩ := h.Dp 26 32 zY rfl rfl (by decide) (aX PL).2 rfl
 obtain ⟨b136, q137, i135⟩ := h.Ir 25 rfl fe rfl (aX PL).1 (mf (aX PL).2 MU)
 refine ae (i135 _ _ _ _ _ _ _ _ _ rfl rfl) ?_
 obtain ⟨cs140, m141, r142⟩ := h.Ns 25 rfl q137 (mf (aX PL).2 MU)
 obtain ⟨rfl, -⟩ := r142
 refine ae (CG (k := 0) m141 oW rfl rfl) (ae (aj (v := u138) rfl) (ah (aa (ag (ae (ak (v := (.func (.func 50) #[] #[(.pointer (some ⟨Qw, 0, none⟩))])) rfl) (ae (ak (v := u138) rfl) ?_))))))
 obtain ⟨Xf, Xg, Xh⟩ := h.l7 32 (C := (.own bE 51 u138 zY : Chunk)) rfl trivial
 obtain ⟨PE, e145, hs⟩ := aM hs
 refine aO Ou rfl rfl (Jo _ _ Xh Qw Qv u138 zY Xf Xg wX (h.JZ 17 rfl) (fun hb => h.apart 32 17 (by decide) _ hb rfl) (h.oU 18 rfl) (fun hb => h.apart 32 18 (by decide) _ hb rfl) _ e145) ?_
 rintro _ w ⟨k146, rfl, h147, h148⟩
 refine ⟨_, rfl, ?_⟩
 replace h := h.back 32 (C := (.own bE 51 u138 zY : Chunk)) (C' := (.own bE 51 u138 PE : Chunk)) rfl trivial h147 k146 h148
 refine ah (az (aa (ag (ae (bY rfl rfl Xe) (ae (ak (v := (.int .i64 ((i127 + 1)))) rfl) (ah ?_))))))
 replace h := h.Lt 25 26 32 PE rfl rfl rfl (by decide) (by decide) (by decide) (aX PL).2 MU rfl
 refine ay ?_
 subst UE
 exact iQ ⟨Jq + 1, i127 + 1, (Br.set (i127).toNat PE)⟩ ⟨h.cn _, by omega, hs⟩ (by have := of_decide_eq_true PK; dsimp only; omega)
 rw [pE (by have := of_decide_eq_false PK; omega)] at hs
 refine bT (aH (aH (aT (aa (ai (ag (ae (ak (v := v61) rfl) (ae (au kE rfl) (dX h 3 [u37, v61, (.int .i64 (qY.status)), (.int .i64 (qY.bQ))] rfl nO rfl rfl rfl rfl (h.fF 25 rfl).one fun w h => ah (aa (ai (ag (ae (fA (vs := [u37, v61, (.int .i64 (qY.status)), (.int .i64 (qY.bQ))]) h 3 rfl di rfl rfl rfl) (dV (vs := [u37, v61, (.int .i64 (qY.status)), (.int .i64 (qY.bQ))]) h 4 [u37, v61, (.int .i64 (qY.status)), (.int .i64 (qY.bQ))] rfl di rfl rfl rfl rfl rfl (ax (h.fF 13 rfl).one (ax (h.fF 25 rfl).one (ax rfl (ax rfl bA)))) fun w h => ah (aa (aI (R5 (vs := [u37, v61, (.int .i64 (qY.status)), (.int .i64 (qY.bQ))]) Tryz.results20 rfl h 4 rfl di rfl ?_)))))))))))))))))
 replace h := h.pair 13 14 (by decide)
 replace h := h.pair 13 25 (by decide)
 replace h := h.pair 13 26 (by decide)
 obtain rfl := Option.some.inj hs
 obtain ⟨o1, o2, o3⟩ := h.zV 13 (C := (.two (.two (.two (.own dn.raw 49 u37 (List.zip Ca Eo)) (.fU (cu bE 51 hn Eo (List.map dn.sub Ca)))) (.own (fo Val).raw 47 v61 (List.zip Br Co))) (.fU (cu bE 51 hn Co (List.map (fo Val).sub Br))) : Chunk)) rfl ⟨⟨⟨trivial, trivial⟩, trivial⟩, trivial⟩
 exact ⟨o2, u37, v61, Eo, Co, rfl, o1, GN o3⟩
end
end Go.Proofs.YtfclkapelkhlpaaGreatDoor
namespace Go.Proofs.YtfclkapelkhlpaaGreatDoor
open Go Go.Proofs Go.LX
noncomputable section
def lG (a : List Int) (b : List Int) (i3 : Int) (s : Unit) (De : Unit → Option Bool) : Option Bool :=
  (idx a i3).bind fun x9 => (idx b i3).bind fun lF => bif decide ((x9 : Int) ≠ lF) then some false else De ()
def oP (s : Unit) : Option Bool :=
  some true
def slices_Equal_int (a : List Int) (b : List Int) : Option Bool :=
  bif decide (((a.length : Int) : Int) ≠ (b.length : Int)) then some false else upto (lG a b) oP 0 ((a.length : Int)).toNat ()
theorem Ah (w0 : World) (M : BS) (hM : ∀ b, M b → b < w0.heap.size) (va : Value) (a : List Int) (ha : eZ cZ w0 BE M va a) (vb : Value) (b : List Int) (hb : eZ cZ w0 BE M vb b) (r : Bool) (hs : slices_Equal_int a b = some r) :
    Calls Tryz.prog 18 #[va, vb] w0 (fun e w' => Grow w0 w' ∧ e = .returned (.bool r)) := by
 refine aK (args := [va, vb]) Tryz.func18 rfl Tryz.ntmps18 (Nat.le_of_ble_eq_true rfl) ?_
 have h := SH.init hM
 replace h := h.dU 1 ha aW
 replace h := h.dU 2 hb (bD aW)
 have tC := ha.bL
 have Fe := hb.bL
 refine ai (ag (ae (aj (v := (.bool (false))) rfl) (ah (aa (ai (ai (ag (ae (ak (v := va) rfl) (ae (bF bS rfl (h.fV 1 rfl)) (ae (ak (v := vb) rfl) (ae (bF bS rfl (h.fV 2 rfl)) (ae (iH rfl rfl) (ah (aa (aJ hs rfl (fun c1 hs => ?_) (fun c1 hs => ?_))))))))))))))))
 refine ai (ag (ae (aj (v := (.bool (false))) rfl) (ah (aa (aI (aB (bI (v := (.bool (false))) Tryz.results18 rfl ?_)))))))
 obtain rfl := Option.some.inj hs
 exact ⟨h.grown, rfl⟩
 refine aD (aa (ai (ai (ag (ae (ak (v := va) rfl) (ae (bF bS rfl (h.fV 1 rfl)) (ae (ak (v := (.int .i64 (0))) rfl) (ah (aa (aL ?_))))))))))
 have UF := (h.fV 1 rfl).bL
 refine fq (σ := Nat × Int) (inl [4, 5, 13, 14, 15, 16, 17, 18, 19, 20, 21, 22, 23, 24, 25]) (fun ⟨k2, i3⟩ => [(13, (.int .i64 (i3)))]) (fun ⟨k2, i3⟩ w => SH w0 M BE w (hset [(1, .sr cZ va a), (2, .sr cZ vb b)]) ∧ i3 = (k2 : Int) ∧ upto (lG a b) oP i3 (((a.length : Int)).toNat - k2) () = some r) (fun ⟨k2, i3⟩ => ((a.length : Int)).toNat - k2) ⟨0, 0⟩ ⟨rfl, trivial⟩ ?_ ?_
 exact ⟨h.cn _, rfl, hs⟩
 rintro ⟨k2, i3⟩ w dm ⟨h, hik, hs⟩
 refine ai (ag ?_)
 refine ae (dA rfl rfl) (ah (aa ?_))
 refine ai (gH rfl (fun e7 => ?_) (fun e7 => ?_))
 refine aD (aa ?_)
 rw [pz (by have := of_decide_eq_true e7; omega)] at hs
 generalize D7 : upto (lG a b) oP (i3 + 1) (((a.length : Int)).toNat - (k2 + 1)) = De at hs
 have OD : jb (i3 + 1) := (by have := of_decide_eq_true e7; have := UF; exact jb.mk (by omega) (by omega))
 refine ai (aL (ai (ag (ae (ak (v := (.int .i64 (i3))) rfl) (ae (aj (v := (.int .i64 (i3))) rfl) (ah (aa (ai (DC mixed (by kernel_rfl) h fun w h => dZ (ak (v := va) rfl) (dZ (ak (v := (.int .i64 (i3))) rfl) ?_))))))))))
 obtain ⟨x9, e10, hs⟩ := aM hs
 obtain ⟨b12, o13, WB, h, WE, i11⟩ := h.wZ 1 3 rfl bS rfl (aX e10).1 (aX e10).2
 obtain rfl := WE
 refine dZ (i11 _ _ _ _ _ _ _ _ _ rfl rfl) (dZ (ed (k := 0) h 3 rfl aV rfl rfl) (dZ (ak (v := vb) rfl) (dZ (ak (v := (.int .i64 (i3))) rfl) ?_)))
 obtain ⟨lF, e17, hs⟩ := aM hs
 obtain ⟨b19, o20, Uz, h, UA, i18⟩ := h.wZ 2 4 rfl bS rfl (aX e17).1 (aX e17).2
 obtain rfl := UA
 refine dZ (i18 _ _ _ _ _ _ _ _ _ rfl rfl) (dZ (ed (k := 0) h 4 rfl aV rfl rfl) (dZ (iH rfl rfl) (DD (aa (aJ hs rfl (fun c23 hs => ?_) (fun c23 hs => ?_))))))
 refine ai (ag (ae (aj (v := (.bool (false))) rfl) (ah (aa (aI (aG (aB (aB (aG (aB (bI (v := (.bool (false))) Tryz.results18 rfl ?_)))))))))))
 obtain rfl := Option.some.inj hs
 exact ⟨h.grown, rfl⟩
 refine aD (az (aa (ag (ae (bY rfl rfl OD) (ae (ak (v := (.int .i64 ((i3 + 1)))) rfl) (ah (ay ?_)))))))
 subst D7
 exact iQ ⟨k2 + 1, i3 + 1⟩ ⟨h.cn _, by omega, hs⟩ (by have := of_decide_eq_true e7; dsimp only; omega)
 rw [pE (by have := of_decide_eq_false e7; omega)] at hs
 refine bT (aH (aH (aT (aa (ai (ag (ae (aj (v := (.bool (true))) rfl) (ah (aa (aI (bI (v := (.bool (true))) Tryz.results18 rfl ?_)))))))))))
 obtain rfl := Option.some.inj hs
 exact ⟨h.grown, rfl⟩
def kH (a : List Val) (b : List Val) (i3 : Int) (s : Unit) (De : Unit → Option Bool) : Option Bool :=
  (idx a i3).bind fun x9 => (idx b i3).bind fun lF => bif !(decide (x9.kind = lF.kind) && decide (x9.n = lF.n)) then some false else De ()
def nG (s : Unit) : Option Bool :=
  some true
def iM (a : List Val) (b : List Val) : Option Bool :=
  bif decide (((a.length : Int) : Int) ≠ (b.length : Int)) then some false else upto (kH a b) nG 0 ((a.length : Int)).toNat ()
theorem sV (w0 : World) (M : BS) (hM : ∀ b, M b → b < w0.heap.size) (va : Value) (a : List Val) (ha : eZ bE w0 BE M va a) (vb : Value) (b : List Val) (hb : eZ bE w0 BE M vb b) (r : Bool) (hs : iM a b = some r) :
    Calls Tryz.prog 47 #[va, vb] w0 (fun e w' => Grow w0 w' ∧ e = .returned (.bool r)) := by
 refine aK (args := [va, vb]) Tryz.func47 rfl Tryz.ntmps47 (Nat.le_of_ble_eq_true rfl) ?_
 have h := SH.init hM
 replace h := h.dU 1 ha aW
 replace h := h.dU 2 hb (bD aW)
 have tC := ha.bL
 have Fe := hb.bL
 refine ai (ag (ae (aj (v := (.bool (false))) rfl) (ah (aa (ai (ai (ag (ae (ak (v := va) rfl) (ae (bF dD rfl (h.fV 1 rfl)) (ae (ak (v := vb) rfl) (ae (bF dD rfl (h.fV 2 rfl)) (ae (iH rfl rfl) (ah (aa (aJ hs rfl (fun c1 hs => ?_) (fun c1 hs => ?_))))))))))))))))
 refine ai (ag (ae (aj (v := (.bool (false))) rfl) (ah (aa (aI (aB (bI (v := (.bool (false))) Tryz.results47 rfl ?_)))))))
 obtain rfl := Option.some.inj hs
 exact ⟨h.grown, rfl⟩
 refine aD (aa (ai (ai (ag (ae (ak (v := va) rfl) (ae (bF dD rfl (h.fV 1 rfl)) (ae (ak (v := (.int .i64 (0))) rfl) (ah (aa (aL ?_))))))))))
 have UF := (h.fV 1 rfl).bL
 refine fq (σ := Nat × Int) (inl [4, 5, 13, 14, 15, 16, 17, 18, 19, 20, 21, 22, 23, 24, 25]) (fun ⟨k2, i3⟩ => [(13, (.int .i64 (i3)))]) (fun ⟨k2, i3⟩ w => SH w0 M BE w (hset [(1, .sr bE va a), (2, .sr bE vb b)]) ∧ i3 = (k2 : Int) ∧ upto (kH a b) nG i3 (((a.length : Int)).toNat - k2) () = some r) (fun ⟨k2, i3⟩ => ((a.length : Int)).toNat - k2) ⟨0, 0⟩ ⟨rfl, trivial⟩ ?_ ?_
 exact ⟨h.cn _, rfl, hs⟩
 rintro ⟨k2, i3⟩ w dm ⟨h, hik, hs⟩
 refine ai (ag ?_)
 refine ae (dA rfl rfl) (ah (aa ?_))
 refine ai (gH rfl (fun e7 => ?_) (fun e7 => ?_))
 refine aD (aa ?_)
 rw [pz (by have := of_decide_eq_true e7; omega)] at hs
 generalize D7 : upto (kH a b) nG (i3 + 1) (((a.length : Int)).toNat - (k2 + 1)) = De at hs
 have OD : jb (i3 + 1) := (by have := of_decide_eq_true e7; have := UF; exact jb.mk (by omega) (by omega))
 refine ai (aL (ai (ag (ae (ak (v := (.int .i64 (i3))) rfl) (ae (aj (v := (.int .i64 (i3))) rfl) (ah (aa (ai (DC mixed (by kernel_rfl) h fun w h => dZ (ak (v := va) rfl) (dZ (ak (v := (.int .i64 (i3))) rfl) ?_))))))))))
 obtain ⟨x9, e10, hs⟩ := aM hs
 obtain ⟨b12, o13, WB, h, WE, i11⟩ := h.wZ 1 3 rfl dD rfl (aX e10).1 (aX e10).2
 obtain rfl := WE
 refine dZ (i11 _ _ _ _ _ _ _ _ _ rfl rfl) (dZ (iF (k := 0) (vs := [(.int .i64 (x9.kind)), (.int .i64 (x9.n))]) h 3 rfl ic rfl rfl rfl (Nat.le_of_ble_eq_true rfl)) (dZ (ak (v := vb) rfl) (dZ (ak (v := (.int .i64 (i3))) rfl) ?_)))
 obtain ⟨lF, e17, hs⟩ := aM hs
 obtain ⟨b19, o20, Uz, h, UA, i18⟩ := h.wZ 2 4 rfl dD rfl (aX e17).1 (aX e17).2
 obtain rfl := UA
 refine dZ (i18 _ _ _ _ _ _ _ _ _ rfl rfl) (dZ (iF (k := 0) (vs := [(.int .i64 (lF.kind)), (.int .i64 (lF.n))]) h 4 rfl ic rfl rfl rfl (Nat.le_of_ble_eq_true rfl)) (dZ (SX Q7 rfl rfl) (DD (aa (aJ hs rfl (fun c23 hs => ?_) (fun c23 hs => ?_))))))
 refine ai (ag (ae (aj (v := (.bool (false))) rfl) (ah (aa (aI (aG (aB (aB (aG (aB (bI (v := (.bool (false))) Tryz.results47 rfl ?_)))))))))))
 obtain rfl := Option.some.inj hs
 exact ⟨h.grown, rfl⟩
 refine aD (az (aa (ag (ae (bY rfl rfl OD) (ae (ak (v := (.int .i64 ((i3 + 1)))) rfl) (ah (ay ?_)))))))
 subst D7
 exact iQ ⟨k2 + 1, i3 + 1⟩ ⟨h.cn _, by omega, hs⟩ (by have := of_decide_eq_true e7; dsimp only; omega)
 rw [pE (by have := of_decide_eq_false e7; omega)] at hs
 refine bT (aH (aH (aT (aa (ai (ag (ae (aj (v := (.bool (true))) rfl) (ah (aa (aI (bI (v := (.bool (true))) Tryz.results47 rfl ?_)))))))))))
 obtain rfl := Option.some.inj hs
 exact ⟨h.grown, rfl⟩
def uB (b : List (List Val)) (i3 : Int) (x4 : List Val) (s : Unit) (De : Unit → Option Bool) : Option Bool :=
  (idx b i3).bind fun lF => (iM x4 lF).bind fun y25 => bif (!y25) then some false else De ()
def xJ (s : Unit) : Option Bool :=
  some true
def zw (a : List (List Val)) (b : List (List Val)) : Option Bool :=
  bif decide (((a.length : Int) : Int) ≠ (b.length : Int)) then some false else eX (uB b) xJ 0 a ()
theorem Jr (w0 : World) (M : BS) (hM : ∀ b, M b → b < w0.heap.size) (va : Value) (a : List (List Val)) (ha : eZ (ou bE) w0 BE M va a) (vb : Value) (b : List (List Val)) (hb : eZ (ou bE) w0 BE M vb b) (r : Bool) (hs : zw a b = some r) :
    Calls Tryz.prog 44 #[va, vb] w0 (fun e w' => Grow w0 w' ∧ e = .returned (.bool r)) := by
 refine aK (args := [va, vb]) Tryz.func44 rfl Tryz.ntmps44 (Nat.le_of_ble_eq_true rfl) ?_
 have h := SH.init hM
 replace h := h.dU 1 ha aW
 replace h := h.dU 2 hb (bD aW)
 have tC := ha.bL
 have Fe := hb.bL
 refine ai (ag (ae (aj (v := (.bool (false))) rfl) (ah (aa (ai (ag (ae (ak (v := va) rfl) (ae (ak (v := vb) rfl) (jh (args := [va, vb, (.func (.func 79) #[] #[])]) TK rfl rfl (aK (args := [va, vb, (.func (.func 79) #[] #[])]) Tryz.func78 rfl Tryz.ntmps78 (Nat.le_of_ble_eq_true rfl) (ai (ag (ae (aj (v := (.bool (false))) rfl) (ah (aa (ai (ai (ag (ae (ak (v := va) rfl) (ae (bF fe rfl (h.fV 1 rfl)) (ae (ak (v := vb) rfl) (ae (bF fe rfl (h.fV 2 rfl)) (ae (iH rfl rfl) ?_)))))))))))))))))))))))
 refine ah (aa (aJ hs rfl (fun c1 hs => ?_) (fun c1 hs => ?_)))
 refine ai (ag (ae (aj (v := (.bool (false))) rfl) (ah (aa (aI (aB (bI (v := (.bool (false))) Tryz.results78 rfl (⟨_, rfl, ?_⟩))))))))
 refine ae (aj (v := (.bool (false))) rfl) (ah (aa (aI (bI (v := (.bool (false))) Tryz.results44 rfl ?_))))
 obtain rfl := Option.some.inj hs
 exact ⟨h.grown, rfl⟩
 refine aD (aa (ai (ai (ag (ae (ak (v := va) rfl) (ae (bF fe rfl (h.fV 1 rfl)) (ae (ak (v := (.int .i64 (0))) rfl) (ah (aa (aL (fq (σ := Nat × Int) (inl [6, 7, 8, 9, 17, 18, 19, 20, 21, 22, 23, 24, 25, 26, 27, 28, 29, 30, 31]) (fun ⟨k2, i3⟩ => [(17, (.int .i64 (i3)))]) (fun ⟨k2, i3⟩ w => SH w0 M BE w (hset [(1, .sr (ou bE) va a), (2, .sr (ou bE) vb b)]) ∧ i3 = (k2 : Int) ∧ eX (uB b) xJ i3 (a.drop k2) () = some r) (fun ⟨k2, i3⟩ => a.length - k2) ⟨0, 0⟩ ⟨rfl, trivial⟩ ?_ ?_)))))))))))
 exact ⟨h.cn _, rfl, hs⟩
 rintro ⟨k2, i3⟩ w dm ⟨h, hik, hs⟩
 refine ai (ag ?_)
 refine ae (dA rfl rfl) (ah (aa ?_))
 refine ai (gH rfl (fun e7 => ?_) (fun e7 => ?_))
 refine aD (aa ?_)
 obtain ⟨x4, TP, TQ⟩ := fJ (hik ▸ e7)
 rw [TQ, jc] at hs
 generalize D7 : eX (uB b) xJ (i3 + 1) (a.drop (k2 + 1)) = De at hs
 have OD := fO ((h.fV 1 rfl)).bL hik e7
 refine ai (aL (ai (ag (ae (ak (v := (.int .i64 (i3))) rfl) ?_))))
 obtain ⟨b10, Yt, TR, h, TS, i9⟩ := h.wZ 1 3 rfl fe rfl (gZ hik) (fM hik TP)
 obtain ⟨FU, rfl, g15⟩ := TS
 replace h := h.bG 4 g15.up
 refine ae (i9 _ _ _ _ _ _ _ _ _ rfl rfl) (ae (ed (k := 0) h 3 rfl oW rfl rfl) (ae (aj (v := (.int .i64 (i3))) rfl) (ae (aj (v := FU) rfl) (ah (aa (ai (ag (ae (ak (v := vb) rfl) (ae (ak (v := (.int .i64 (i3))) rfl) ?_)))))))))
 obtain ⟨lF, e17, hs⟩ := aM hs
 obtain ⟨b19, o20, Uz, h, UA, i18⟩ := h.wZ 2 5 rfl fe rfl (aX e17).1 (aX e17).2
 obtain ⟨u23, rfl, g24⟩ := UA
 replace h := h.bG 6 g24.up
 refine ae (i18 _ _ _ _ _ _ _ _ _ rfl rfl) (ae (ed (k := 0) h 5 rfl oW rfl rfl) (ae (aj (v := u23) rfl) (ah (aa (ai (ag (ae (ak (v := (.func (.func 79) #[] #[])) rfl) (ae (ak (v := FU) rfl) (ae (ak (v := u23) rfl) (jh (args := [FU, u23]) TL rfl rfl (aK (args := [FU, u23]) Tryz.func79 rfl Tryz.ntmps79 (Nat.le_of_ble_eq_true rfl) (ai (ag (ae (aj (v := (.bool (false))) rfl) (ah (aa (ai (ag (ae (ak (v := FU) rfl) (ae (ak (v := u23) rfl) ?_))))))))))))))))))))
 obtain ⟨y25, e26, hs⟩ := aM hs
 refine aO Ot rfl rfl (sV _ _ h.lt FU x4 (h.mU 4 rfl) u23 lF (h.mU 6 rfl) _ e26) ?_
 rintro _ w ⟨k27, rfl⟩
 refine ⟨_, rfl, ?_⟩
 replace h := h.grow k27
 refine ae (aj (v := (.bool (y25))) rfl) (ah (aa (aI (bI (v := (.bool (y25))) Tryz.results79 rfl (⟨_, rfl, ?_⟩)))))
 refine ae (fZ rfl) (ah (aa (aJ hs rfl (fun c28 hs => ?_) (fun c28 hs => ?_))))
 refine ai (ag (ae (aj (v := (.bool (false))) rfl) (ah (aa (aI (aG (aB (aB (aG (aB (bI (v := (.bool (false))) Tryz.results78 rfl (⟨_, rfl, ?_⟩))))))))))))
 refine ae (aj (v := (.bool (false))) rfl) (ah (aa (aI (bI (v := (.bool (false))) Tryz.results44 rfl ?_))))
 obtain rfl := Option.some.inj hs
 exact ⟨h.grown, rfl⟩
 refine aD (az (aa (ag (ae (bY rfl rfl OD) (ae (ak (v := (.int .i64 ((i3 + 1)))) rfl) (ah (ay ?_)))))))
 subst D7
 exact iQ ⟨k2 + 1, i3 + 1⟩ ⟨h.cn _, by omega, hs⟩ (by have := of_decide_eq_true e7; dsimp only; omega)
 rw [fK (hik ▸ e7), ow] at hs
 refine bT (aH (aH (aT (aa (ai (ag (ae (aj (v := (.bool (true))) rfl) (ah (aa (aI (bI (v := (.bool (true))) Tryz.results78 rfl (⟨_, rfl, ?_⟩))))))))))))
 refine ae (aj (v := (.bool (true))) rfl) (ah (aa (aI (bI (v := (.bool (true))) Tryz.results44 rfl ?_))))
 obtain rfl := Option.some.inj hs
 exact ⟨h.grown, rfl⟩
def qf (lq : Unit → Option Bool) (x34 : Bool) : Option Bool :=
  bif x34 then some false else lq ()
def vC (b : LX.State) (i10 : Int) (dC : LX.Frame) (s : Unit) (lq : Unit → Option Bool) : Option Bool :=
  (idx b.frames i10).bind fun x24 => bif ((decide ((dC.proc : Int) = x24.proc) && decide ((dC.at_ : Int) = x24.at_)) && decide ((dC.kI : Int) = x24.kI)) then (iM dC.regs x24.regs).bind fun y39 => qf lq (!y39) else qf lq true
def yN (s : Unit) : Option Bool :=
  some true
def xK (a : LX.State) (b : LX.State) : Option Bool :=
  bif (decide ((a.status : Int) = b.status) && decide ((a.bQ : Int) = b.bQ)) then (zw a.cells b.cells).bind fun y4 => bif y4 then bif decide (((a.frames.length : Int) : Int) ≠ (b.frames.length : Int)) then some false else eX (vC b) yN 0 a.frames () else some false else some false
theorem Cq (w0 : World) (M : BS) (hM : ∀ b, M b → b < w0.heap.size) (a : LX.State) (AB Bn : Value) (ha0 : eZ eH w0 BE M AB a.frames) (ha1 : eZ (ou bE) w0 BE M Bn a.cells) (b : LX.State) (vb0 vb1 : Value) (hb0 : eZ eH w0 BE M vb0 b.frames) (hb1 : eZ (ou bE) w0 BE M vb1 b.cells) (r : Bool) (hs : xK a b = some r) :
    Calls Tryz.prog 19 #[(.agg #[AB, Bn, (.int .i64 (a.status)), (.int .i64 (a.bQ))]), (.agg #[vb0, vb1, (.int .i64 (b.status)), (.int .i64 (b.bQ))])] w0 (fun e w' => Grow w0 w' ∧ e = .returned (.bool r)) := by
 refine aK (args := [(.agg #[AB, Bn, (.int .i64 (a.status)), (.int .i64 (a.bQ))]), (.agg #[vb0, vb1, (.int .i64 (b.status)), (.int .i64 (b.bQ))])]) Tryz.func19 rfl Tryz.ntmps19 (Nat.le_of_ble_eq_true rfl) ?_
 have h := SH.init hM
 replace h := h.dU 1 ha0 aW
 replace h := h.dU 2 ha1 (bD aW)
 replace h := h.dU 3 hb0 (bD (bD aW))
 replace h := h.dU 4 hb1 (bD (bD (bD aW)))
 refine ai (ag (pX (cs := [AB, Bn, (.int .i64 (a.status)), (.int .i64 (a.bQ))]) h 5 rfl rfl fun w b1 h => pX (cs := [vb0, vb1, (.int .i64 (b.status)), (.int .i64 (b.bQ))]) h 6 rfl rfl fun w b2 h => ae (aj (v := (.bool (false))) rfl) (ah (aa (ai (ag (ae (au vz rfl) (ae (aF h 5 rfl aV rfl rfl) (ae (au vz rfl) (ae (aF h 6 rfl aV rfl rfl) (ae (bM rfl rfl) (ae (ak (v := (.bool (decide ((a.status : Int) = b.status)))) rfl) (aC rfl rfl (fun q => au xm rfl) (aC rfl rfl (fun q => aF h 5 rfl aV (cO q) rfl) (aC rfl rfl (fun q => au xm rfl) (aC rfl rfl (fun q => aF h 6 rfl aV (cO q) rfl) (aC rfl rfl (fun q => bM (cO q) (cO q)) (ae (gJ rfl rfl mR) (ae (ak (v := (.bool ((decide ((a.status : Int) = b.status) && decide ((a.bQ : Int) = b.bQ))))) rfl) (ma (b := (decide ((a.status : Int) = b.status) && decide ((a.bQ : Int) = b.bQ))) hs (fun c3 hs => ?_) (fun c3 hs => ?_)))))))))))))))))))))
 refine dG rfl (congrArg Value.bool c3) (ae (au kE rfl) (dG rfl (congrArg Value.bool c3) (ae (aF h 5 rfl nO rfl rfl) (dG rfl (congrArg Value.bool c3) (ae (au kE rfl) (dG rfl (congrArg Value.bool c3) (ae (aF h 6 rfl nO rfl rfl) (dG rfl (congrArg Value.bool c3) ?_))))))))
 obtain ⟨y4, e5, hs⟩ := aM hs
 refine aO TC rfl rfl (Jr _ _ h.lt Bn a.cells (h.fV 2 rfl) vb1 b.cells (h.fV 4 rfl) _ e5) ?_
 rintro _ w ⟨k6, rfl⟩
 refine ⟨_, rfl, ?_⟩
 replace h := h.grow k6
 refine ae (fw (b := true) (v := (.bool (y4))) (congrArg Value.bool c3) rfl) (ae (ak (v := (.bool (y4))) rfl) (ma (b := y4) hs (fun c7 hs => ?_) (fun c7 hs => ?_)))
 refine dG rfl (congrArg Value.bool c7) (ae (au kD rfl) (dG rfl (congrArg Value.bool c7) (ae (aF h 5 rfl qw rfl rfl) (dG rfl (congrArg Value.bool c7) (ae (au kD rfl) (dG rfl (congrArg Value.bool c7) (ae (aF h 6 rfl qw rfl rfl) (dG rfl (congrArg Value.bool c7) (jh (args := [AB, vb0, (.func (.func 46) #[] #[])]) TD rfl rfl (aK (args := [AB, vb0, (.func (.func 46) #[] #[])]) Tryz.func45 rfl Tryz.ntmps45 (Nat.le_of_ble_eq_true rfl) (ai (ag (ae (aj (v := (.bool (false))) rfl) (ah (aa (ai (ai (ag (ae (ak (v := AB) rfl) (ae (bF fD rfl (h.fV 1 rfl)) (ae (ak (v := vb0) rfl) (ae (bF fD rfl (h.fV 3 rfl)) (ae (iH rfl rfl) ?_)))))))))))))))))))))))
 refine ah (aa (aJ hs rfl (fun c8 hs => ?_) (fun c8 hs => ?_)))
 refine ai (ag (ae (aj (v := (.bool (false))) rfl) (ah (aa (aI (aB (bI (v := (.bool (false))) Tryz.results45 rfl (⟨_, rfl, ?_⟩))))))))
 refine ae (fw (b := true) (v := (.bool (false))) (congrArg Value.bool c7) rfl) (ae (aj (v := (.bool (false))) rfl) (ah (aa (aI (bI (v := (.bool (false))) Tryz.results19 rfl ?_)))))
 obtain rfl := Option.some.inj hs
 exact ⟨h.grown, rfl⟩
 refine aD (aa (ai (ai (ag (ae (ak (v := AB) rfl) (ae (bF fD rfl (h.fV 1 rfl)) (ae (ak (v := (.int .i64 (0))) rfl) (ah (aa (aL (fq (σ := Nat × Int) (inl [6, 7, 8, 9, 17, 18, 19, 20, 21, 22, 23, 24, 25, 26, 27, 28, 29, 30, 31]) (fun ⟨k9, i10⟩ => [(17, (.int .i64 (i10)))]) (fun ⟨k9, i10⟩ w => SH w0 M BE w (hset [(1, .sr eH AB a.frames), (3, .sr eH vb0 b.frames)]) ∧ i10 = (k9 : Int) ∧ eX (vC b) yN i10 (a.frames.drop k9) () = some r) (fun ⟨k9, i10⟩ => a.frames.length - k9) ⟨0, 0⟩ ⟨rfl, trivial⟩ ?_ ?_)))))))))))
 exact ⟨h.cn _, rfl, hs⟩
 rintro ⟨k9, i10⟩ w dm ⟨h, hik, hs⟩
 refine ai (ag ?_)
 refine ae (dA rfl rfl) (ah (aa ?_))
 refine ai (gH rfl (fun e14 => ?_) (fun e14 => ?_))
 refine aD (aa ?_)
 obtain ⟨dC, G9, Ha⟩ := fJ (hik ▸ e14)
 rw [Ha, jc] at hs
 generalize Bf : eX (vC b) yN (i10 + 1) (a.frames.drop (k9 + 1)) = lq at hs
 have Hd := fO ((h.fV 1 rfl)).bL hik e14
 refine ai (aL (ai (ag (ae (ak (v := (.int .i64 (i10))) rfl) ?_))))
 obtain ⟨b17, XR, Re, h, O0, i16⟩ := h.wZ 1 7 rfl fD rfl (gZ hik) (fM hik G9)
 obtain ⟨u21, rfl, g22⟩ := rZ O0
 replace h := h.bG 8 g22.up
 refine ae (i16 _ _ _ _ _ _ _ _ _ rfl rfl) (ae (iF (k := 0) (vs := [(.int .i64 (dC.proc)), (.int .i64 (dC.at_)), u21, (.int .i64 (dC.kI))]) h 7 rfl iW rfl rfl rfl (Nat.le_of_ble_eq_true rfl)) (bP h 9 iW fun w zO h => ae (aj (v := (.int .i64 (i10))) rfl) (dV (vs := [(.int .i64 (dC.proc)), (.int .i64 (dC.at_)), u21, (.int .i64 (dC.kI))]) h 9 [(.int .i64 (dC.proc)), (.int .i64 (dC.at_)), u21, (.int .i64 (dC.kI))] rfl iW rfl rfl rfl rfl rfl (ax rfl (ax rfl (ax (h.fu 8 rfl).one (ax rfl bA)))) fun w h => ah (aa (ai (ag (ae (ak (v := vb0) rfl) (ae (ak (v := (.int .i64 (i10))) rfl) ?_))))))))
 obtain ⟨x24, e25, hs⟩ := aM hs
 obtain ⟨b27, o28, cs29, h, Ws, i26⟩ := h.wZ 3 10 rfl fD rfl (aX e25).1 (aX e25).2
 obtain ⟨u31, rfl, Uq⟩ := rZ Ws
 replace h := h.bG 11 Uq.up
 refine ae (i26 _ _ _ _ _ _ _ _ _ rfl rfl) (ae (iF (k := 0) (vs := [(.int .i64 (x24.proc)), (.int .i64 (x24.at_)), u31, (.int .i64 (x24.kI))]) h 10 rfl iW rfl rfl rfl (Nat.le_of_ble_eq_true rfl)) (bP h 12 iW fun w Vd h => dV (vs := [(.int .i64 (x24.proc)), (.int .i64 (x24.at_)), u31, (.int .i64 (x24.kI))]) h 12 [(.int .i64 (x24.proc)), (.int .i64 (x24.at_)), u31, (.int .i64 (x24.kI))] rfl iW rfl rfl rfl rfl rfl (ax rfl (ax rfl (ax (h.fu 11 rfl).one (ax rfl bA)))) fun w h => ah (aa (bU (σ := Bool) (inl [26, 27, 28, 29, 30]) (fun x34 => [(30, (.bool (x34)))]) (fun x34 w => SH w0 M BE w (hset [(1, .sr eH AB a.frames), (3, .sr eH vb0 b.frames)]) ∧ qf lq x34 = some r) ?_ ?_))))
 rintro x34 w dm ⟨h, hs⟩
 refine aJ hs rfl (fun TW hs => ?_) (fun TW hs => ?_)
 refine ai (ag (ae (aj (v := (.bool (false))) rfl) (ah (aa (aI (aG (aB (aB (aG (aB (bI (v := (.bool (false))) Tryz.results45 rfl (⟨_, rfl, ?_⟩))))))))))))
 refine ae (fw (b := true) (v := (.bool (false))) (congrArg Value.bool c7) rfl) (ae (aj (v := (.bool (false))) rfl) (ah (aa (aI (bI (v := (.bool (false))) Tryz.results19 rfl ?_)))))
 obtain rfl := Option.some.inj hs
 exact ⟨h.grown, rfl⟩
 refine aD (az (aa (ag (ae (bY rfl rfl Hd) (ae (ak (v := (.int .i64 ((i10 + 1)))) rfl) (ah (ay ?_)))))))
 subst Bf
 exact iQ ⟨k9 + 1, i10 + 1⟩ ⟨h.cn _, by omega, hs⟩ (by have := of_decide_eq_true e14; dsimp only; omega)
 refine ag (ae (ak (v := (.func (.func 46) #[] #[])) rfl) (ae (fA (vs := [(.int .i64 (dC.proc)), (.int .i64 (dC.at_)), u21, (.int .i64 (dC.kI))]) h 9 rfl iW rfl rfl rfl) (ae (fA (vs := [(.int .i64 (x24.proc)), (.int .i64 (x24.at_)), u31, (.int .i64 (x24.kI))]) h 12 rfl iW rfl rfl rfl) (jh (args := [(.agg #[(.int .i64 (dC.proc)), (.int .i64 (dC.at_)), u21, (.int .i64 (dC.kI))]), (.agg #[(.int .i64 (x24.proc)), (.int .i64 (x24.at_)), u31, (.int .i64 (x24.kI))])]) TE rfl rfl (aK (args := [(.agg #[(.int .i64 (dC.proc)), (.int .i64 (dC.at_)), u21, (.int .i64 (dC.kI))]), (.agg #[(.int .i64 (x24.proc)), (.int .i64 (x24.at_)), u31, (.int .i64 (x24.kI))])]) Tryz.func46 rfl Tryz.ntmps46 (Nat.le_of_ble_eq_true rfl) (ai (ag (pX (cs := [(.int .i64 (dC.proc)), (.int .i64 (dC.at_)), u21, (.int .i64 (dC.kI))]) h 13 rfl rfl fun w b36 h => pX (cs := [(.int .i64 (x24.proc)), (.int .i64 (x24.at_)), u31, (.int .i64 (x24.kI))]) h 14 rfl rfl fun w b37 h => ae (aj (v := (.bool (false))) rfl) (ah (aa (ai (ag (ae (au xn rfl) (ae (aF h 13 rfl aV rfl rfl) (ae (au xn rfl) (ae (aF h 14 rfl aV rfl rfl) (ae (bM rfl rfl) (ae (ak (v := (.bool (decide ((dC.proc : Int) = x24.proc)))) rfl) (aC rfl rfl (fun q => au zf rfl) (aC rfl rfl (fun q => aF h 13 rfl aV (cO q) rfl) (aC rfl rfl (fun q => au zf rfl) ?_)))))))))))))))))))))
 refine aC rfl rfl (fun q => aF h 14 rfl aV (cO q) rfl) (aC rfl rfl (fun q => bM (cO q) (cO q)) (ae (gJ rfl rfl mR) (ae (ak (v := (.bool ((decide ((dC.proc : Int) = x24.proc) && decide ((dC.at_ : Int) = x24.at_))))) rfl) (aC rfl rfl (fun q => au xq rfl) (aC rfl rfl (fun q => aF h 13 rfl aV (cO q) rfl) (aC rfl rfl (fun q => au xq rfl) (aC rfl rfl (fun q => aF h 14 rfl aV (cO q) rfl) (aC rfl rfl (fun q => bM (cO q) (cO q)) (ae (gJ rfl rfl mR) (ae (ak (v := (.bool (((decide ((dC.proc : Int) = x24.proc) && decide ((dC.at_ : Int) = x24.at_)) && decide ((dC.kI : Int) = x24.kI))))) rfl) (ma (b := ((decide ((dC.proc : Int) = x24.proc) && decide ((dC.at_ : Int) = x24.at_)) && decide ((dC.kI : Int) = x24.kI))) hs (fun Ki hs => ?_) (fun Ki hs => ?_))))))))))))
 refine dG rfl (congrArg Value.bool Ki) (ae (au pI rfl) (dG rfl (congrArg Value.bool Ki) (ae (aF h 13 rfl oW rfl rfl) (dG rfl (congrArg Value.bool Ki) (ae (au pI rfl) (dG rfl (congrArg Value.bool Ki) (ae (aF h 14 rfl oW rfl rfl) (dG rfl (congrArg Value.bool Ki) ?_))))))))
 obtain ⟨y39, e40, hs⟩ := aM hs
 refine aO Ot rfl rfl (sV _ _ h.lt u21 dC.regs (h.mU 8 rfl) u31 x24.regs (h.mU 11 rfl) _ e40) ?_
 rintro _ w ⟨YL, rfl⟩
 refine ⟨_, rfl, ?_⟩
 replace h := h.grow YL
 refine ae (fw (b := true) (v := (.bool (y39))) (congrArg Value.bool Ki) rfl) (ae (aj (v := (.bool (y39))) rfl) (ah (aa (aI (bI (v := (.bool (y39))) Tryz.results46 rfl (⟨_, rfl, ?_⟩))))))
 refine ae (fZ rfl) (ah (ay ?_))
 exact bR (!y39) ⟨h.cn _, hs⟩
 refine bH (b' := false) rfl (congrArg Value.bool Ki) rfl (bH (b' := false) rfl (congrArg Value.bool Ki) rfl (bH (b' := false) rfl (congrArg Value.bool Ki) rfl (bH (b' := false) rfl (congrArg Value.bool Ki) rfl (bH (b' := false) rfl (congrArg Value.bool Ki) rfl (ae (fw (b := false) (v := (.bool (false))) (congrArg Value.bool Ki) rfl) (ae (aj (v := (.bool (false))) rfl) (ah (aa (aI (bI (v := (.bool (false))) Tryz.results46 rfl (⟨_, rfl, ?_⟩)))))))))))
 refine ae (fZ rfl) (ah (ay ?_))
 exact bR true ⟨h.cn _, hs⟩
 rw [fK (hik ▸ e14), ow] at hs
 refine bT (aH (aH (aT (aa (ai (ag (ae (aj (v := (.bool (true))) rfl) (ah (aa (aI (bI (v := (.bool (true))) Tryz.results45 rfl (⟨_, rfl, ?_⟩))))))))))))
 refine ae (fw (b := true) (v := (.bool (true))) (congrArg Value.bool c7) rfl) (ae (aj (v := (.bool (true))) rfl) (ah (aa (aI (bI (v := (.bool (true))) Tryz.results19 rfl ?_)))))
 obtain rfl := Option.some.inj hs
 exact ⟨h.grown, rfl⟩
 refine bH (b' := false) rfl (congrArg Value.bool c7) rfl (bH (b' := false) rfl (congrArg Value.bool c7) rfl (bH (b' := false) rfl (congrArg Value.bool c7) rfl (bH (b' := false) rfl (congrArg Value.bool c7) rfl (bH (b' := false) rfl (congrArg Value.bool c7) rfl (ae (fw (b := false) (v := (.bool (false))) (congrArg Value.bool c7) rfl) (ae (aj (v := (.bool (false))) rfl) (ah (aa (aI (bI (v := (.bool (false))) Tryz.results19 rfl ?_))))))))))
 obtain rfl := Option.some.inj hs
 exact ⟨h.grown, rfl⟩
 refine bH (b' := false) rfl (congrArg Value.bool c3) rfl (bH (b' := false) rfl (congrArg Value.bool c3) rfl (bH (b' := false) rfl (congrArg Value.bool c3) rfl (bH (b' := false) rfl (congrArg Value.bool c3) rfl (bH (b' := false) rfl (congrArg Value.bool c3) rfl (ae (fw (b := false) (v := (.bool (false))) (congrArg Value.bool c3) rfl) (ae (ak (v := (.bool (false))) rfl) (bH (b' := false) rfl rfl rfl (bH (b' := false) rfl rfl rfl (bH (b' := false) rfl rfl rfl (bH (b' := false) rfl rfl rfl (bH (b' := false) rfl rfl rfl (ae (fw (b := false) (v := (.bool (false))) rfl rfl) (ae (aj (v := (.bool (false))) rfl) (ah (aa (aI (bI (v := (.bool (false))) Tryz.results19 rfl ?_)))))))))))))))))
 obtain rfl := Option.some.inj hs
 exact ⟨h.grown, rfl⟩
def qQ (a : Int) (b : Int) : Option Int :=
  gG (0 < b) (bif decide (((Int.tmod a b) : Int) < 0) then gG (jb ((Int.tmod a b) + b)) (some ((Int.tmod a b) + b)) else some (Int.tmod a b))
theorem Cr (w0 : World) (M : BS) (hM : ∀ b, M b → b < w0.heap.size) (a : Int) (b : Int) (r : Int) (hs : qQ a b = some r) :
    Calls Tryz.prog 16 #[(.int .i64 (a)), (.int .i64 (b))] w0 (fun e w' => Grow w0 w' ∧ e = .returned (.int .i64 r)) := by
 refine aK (args := [(.int .i64 (a)), (.int .i64 (b))]) Tryz.func16 rfl Tryz.ntmps16 (Nat.le_of_ble_eq_true rfl) ?_
 have h := SH.init hM
 refine ai (ag (ae (aj (v := (.int .i64 (0))) rfl) (ah (aa (ai (ag (ae (ak (v := (.int .i64 (a))) rfl) (ae (ak (v := (.int .i64 (b))) rfl) ?_))))))))
 obtain ⟨a1, hs⟩ := aZ hs
 refine ae (Vy rfl rfl a1) (ae (aj (v := (.int .i64 ((Int.tmod a b)))) rfl) (ah (aa (ai (ai (ag (ae (ak (v := (.int .i64 ((Int.tmod a b)))) rfl) (ae (dA rfl rfl) (ah (aa (aJ hs rfl (fun c2 hs => ?_) (fun c2 hs => ?_))))))))))))
 refine ag (ae (ak (v := (.int .i64 ((Int.tmod a b)))) rfl) (ae (ak (v := (.int .i64 (b))) rfl) ?_))
 obtain ⟨a3, hs⟩ := aZ hs
 refine ae (bY rfl rfl a3) (ae (aj (v := (.int .i64 (((Int.tmod a b) + b)))) rfl) (ah (aa (ai (ag (ae (ak (v := (.int .i64 (((Int.tmod a b) + b)))) rfl) (ae (aj (v := (.int .i64 (((Int.tmod a b) + b)))) rfl) (ah (aa (aI (bI (v := (.int .i64 (((Int.tmod a b) + b)))) Tryz.results16 rfl ?_)))))))))))
 obtain rfl := Option.some.inj hs
 exact ⟨h.grown, rfl⟩
 refine aD (aa (ai (ag (ae (ak (v := (.int .i64 ((Int.tmod a b)))) rfl) (ae (aj (v := (.int .i64 ((Int.tmod a b)))) rfl) (ah (aa (aI (bI (v := (.int .i64 ((Int.tmod a b)))) Tryz.results16 rfl ?_)))))))))
 obtain rfl := Option.some.inj hs
 exact ⟨h.grown, rfl⟩
end
end Go.Proofs.YtfclkapelkhlpaaGreatDoor
namespace Go.Proofs.YtfclkapelkhlpaaGreatDoor
open Go Go.Proofs Go.LX
noncomputable section
def kT (a : Val) (b : Int) (x2 : Bool) : Int :=
  bif x2 then 4 else bif (decide ((a.kind : Int) = 1) && (!(dR a.n))) then 3 else bif (decide ((a.kind : Int) = 2) && (!(aN a.n b))) then 5 else 0
def dx (a : Val) (b : Int) : Int :=
  bif (!(aR a.kind 0 2)) then kT a b (!(aR a.kind 0 2)) else kT a b (decide ((a.kind : Int) = 0) && decide ((a.n : Int) ≠ 0))
def iy (a : List (List Val)) (x20 : Val) (s : Unit) (Rm : Unit → Int) : Int :=
  bif decide (((dx x20 (a.length : Int)) : Int) ≠ 0) then (dx x20 (a.length : Int)) else Rm ()
def iA (De : Unit → Int) (s : Unit) : Int :=
  De ()
def iB (a : List (List Val)) (x4 : List Val) (s : Unit) (De : Unit → Int) : Int :=
  bif (!(aR (x4.length : Int) 1 4)) then 2 else each (iy a) (iA De) x4 ()
def iC (s : Unit) : Int :=
  0
def jr (a : List (List Val)) : Int :=
  bif decide ((24 : Int) < (a.length : Int)) then 2 else each (iB a) iC a ()
def ko (b : LX.State) (Vk : Val) (s : Unit) (nx46 : Unit → Option Int) : Option Int :=
  bif decide (((dx Vk (b.cells.length : Int)) : Int) ≠ 0) then some (dx Vk (b.cells.length : Int)) else nx46 ()
def kr (Hw : Int → Option Int) (BJ : LX.Frame) (s : Unit) : Option Int :=
  Hw (BJ.regs.length : Int)
def eQ (a : List bV) (BJ : LX.Frame) (b : LX.State) (Hw : Int → Option Int) (x30 : Bool) : Option Int :=
  bif x30 then some 3 else (idx a BJ.proc).bind fun x32 => bif decide (((BJ.regs.length : Int) : Int) ≠ x32.regs) then some 4 else each (ko b) (kr Hw BJ) BJ.regs ()
def dO (a : List bV) (b : LX.State) (BJ : LX.Frame) (Ig : Int) (Hw : Int → Option Int) : Option Int :=
  bif (!(aN BJ.proc (a.length : Int))) then some 5 else (idx a BJ.proc).bind fun PM => bif (!(aN BJ.at_ (PM.code.length : Int))) then eQ a BJ b Hw true else eQ a BJ b Hw (!(aN BJ.kI Ig))
def gD (Ig : Int) : Option Int :=
  some 0
def mP (a : List bV) (b : LX.State) : Option Int :=
  bif ((!(aR b.status 0 3)) || (!(dR b.bQ))) then some 3 else bif (((decide ((b.bQ : Int) ≠ 0) && decide ((b.status : Int) ≠ 3)) || (decide ((b.status : Int) = 1) && decide ((0 : Int) < (b.frames.length : Int)))) || (decide ((b.status : Int) ≠ 1) && decide (((b.frames.length : Int) : Int) = 0))) then some 4 else bif decide ((10 : Int) < (b.frames.length : Int)) then some 2 else bif decide (((jr b.cells) : Int) ≠ 0) then some (jr b.cells) else each (dO a b) gD b.frames 1
end
end Go.Proofs.YtfclkapelkhlpaaGreatDoor
namespace Go.Proofs.YtfclkapelkhlpaaGreatDoor
open Go Go.Proofs Go.LX
noncomputable section
abbrev KS : List (Int × Str) := [(2, [118]), (4, [46]), (5, [110, 101, 119]), (6, [102]), (1, [])]
theorem bnd {α β : Type} (a : α) (f : α → Option β) : (some a).bind f = f a := rfl
theorem M3 {α σ : Type} {g : α → Option σ} {l : List α} (hu : ∀ p ∈ l, ∀ q ∈ l, g p ≠ none → g q ≠ none → p = q) {p : α} (hp : p ∈ l) {t : σ} (h : g p = some t) : l.findSome? g = some t := by
  cases e : l.findSome? g with
  | none =>
    rw [List.findSome?_eq_none_iff] at e
    rw [e p hp] at h; cases h
  | some u =>
    obtain ⟨q, hq, hqu⟩ := List.exists_of_findSome?_eq_some e
    have := hu p hp q hq (by rw [h]; simp) (by rw [hqu]; simp)
    subst this
    rw [h] at hqu; exact hqu.symm
theorem F4 {α σ : Type} {step : α → σ → Option σ} {g : α → Option σ} : ∀ {l : List α}, (∀ p ∈ l, ∀ s, step p s = some ((g p).getD s)) → (∀ p ∈ l, g p = none) → ∀ s, DX step l s = some s
  | [], _, _, s => rfl
  | p :: l, h, hn, s => by
    unfold DX
    rw [h p (by simp), hn p (by simp), Option.getD_none, bnd]
    exact F4 (fun q hq => h q (List.mem_cons_of_mem _ hq)) (fun q hq => hn q (List.mem_cons_of_mem _ hq)) s
theorem F5 {α σ : Type} {step : α → σ → Option σ} {g : α → Option σ} : ∀ {l : List α}, (∀ p ∈ l, ∀ s, step p s = some ((g p).getD s)) → (∀ p ∈ l, ∀ q ∈ l, g p ≠ none → g q ≠ none → p = q) → l.Nodup → ∀ s, DX step l s = some ((l.findSome? g).getD s)
  | [], _, _, _, s => rfl
  | p :: l, h, hu, hn, s => by
    unfold DX
    rw [h p (by simp), bnd]
    have hn' := List.nodup_cons.1 hn
    cases e : g p with
    | none =>
      rw [Option.getD_none, F5 (fun q hq => h q (List.mem_cons_of_mem _ hq)) (fun a ha b hb => hu a (List.mem_cons_of_mem _ ha) b (List.mem_cons_of_mem _ hb)) hn'.2 s, List.findSome?_cons, e]
    | some t =>
      rw [Option.getD_some, F4 (fun q hq => h q (List.mem_cons_of_mem _ hq)) (fun q hq => ?_) t, List.findSome?_cons, e]
      · rfl
      · cases e2 : g q with
        | none => rfl
        | some u =>
          have := hu p (by simp) q (List.mem_cons_of_mem _ hq) (by rw [e]; simp) (by rw [e2]; simp)
          subst this
          exact absurd hq hn'.1
theorem M4 {α σ : Type} {step : α → σ → Option σ} {g : α → Option σ} {L : List α} (h : ∀ p ∈ L, ∀ s, step p s = some ((g p).getD s)) (hu : ∀ p ∈ L, ∀ q ∈ L, g p ≠ none → g q ≠ none → p = q) (hn : L.Nodup) (s : σ) : pG step L s ((L.findSome? g).getD s) := by
  intro l hl
  rw [F5 (fun p hp => h p (hl.mem_iff.1 hp)) (fun p hp q hq => hu p (hl.mem_iff.1 hp) q (hl.mem_iff.1 hq)) (hl.nodup_iff.2 hn) s]
  congr 2
  cases e : L.findSome? g with
  | none =>
    rw [List.findSome?_eq_none_iff] at e ⊢
    exact fun x hx => e x (hl.mem_iff.1 hx)
  | some t =>
    obtain ⟨p, hp, ht⟩ := List.exists_of_findSome?_eq_some e
    exact M3 (fun p hp q hq => hu p (hl.mem_iff.1 hp) q (hl.mem_iff.1 hq)) (hl.mem_iff.2 hp) ht
def XY (pe : Int × Str) (y : Int × Bool) (x : Bool) : Option (Int × Int) := bif x then some (pe.1, y.1) else none
def Js (s : Str) (pe : Int × Str) : Option (Option (Int × Int)) :=
  (strings_TrimPrefix s pe.2).bind fun He => (ym He).bind fun Bg => bif (!Bg.2) then (iE (⟨pe.1, Bg.1⟩ : Tok)).bind fun oQ => some (XY pe Bg (decide ((oQ : Str) = s))) else some (XY pe Bg false)
theorem Rp (pe : Int × Str) (y : Int × Bool) (a b : Int) (x : Bool) : qD pe y a b x = some ((XY pe y x).getD (a, b)) := by
  unfold qD XY; cases x <;> rfl
theorem Rq (s : Str) (pe : Int × Str) (st : Int × Int) : mG s pe st = (Js s pe).bind fun o => some (o.getD st) := by
  obtain ⟨a, b⟩ := st
  unfold mG Js
  simp only [Rp]
  cases strings_TrimPrefix s pe.2 with
  | none => rfl
  | some y =>
    simp only [bnd]
    cases ym y with
    | none => rfl
    | some z =>
      simp only [bnd]
      cases z.2 with
      | true => rfl
      | false =>
        simp only [Bool.not_false, cond_true]
        cases iE (⟨pe.1, z.1⟩ : Tok) <;> rfl
def gO (s : Str) (p : Int × Str) : Option (Int × Int) := (Js s p).join
def okW (s : Str) : Bool := KS.all (fun p => (Js s p).isSome) && KS.all (fun p => KS.all fun q => (gO s p).isNone || (gO s q).isNone || decide (p = q))
def Xi (s : Str) : Int × Int := (KS.findSome? (gO s)).getD (0, 0)
theorem Rs {s : Str} (h : okW s = true) : vo (mG s) KS (0, 0) = some (Xi s) := by
  unfold okW at h
  rw [Bool.and_eq_true, List.all_eq_true, List.all_eq_true] at h
  refine J8 (M4 (g := gO s) (fun p hp st => ?_) (fun p hp q hq h1 h2 => ?_) (by decide) (0, 0))
  · have h1 := h.1 p hp
    rw [Rq]
    unfold gO
    cases e : Js s p with
    | none => rw [e] at h1; cases h1
    | some o => cases o <;> rfl
  · have := List.all_eq_true.1 (h.2 p hp) q hq
    rw [Bool.or_eq_true, Bool.or_eq_true] at this
    rcases this with (e | e) | e
    · exact absurd (Option.isNone_iff_eq_none.1 e) h1
    · exact absurd (Option.isNone_iff_eq_none.1 e) h2
    · exact of_decide_eq_true e
def PN (s : Str) : Option (Int × Int) := bif okW s then some (Xi s) else vo (mG s) KS (0, 0)
theorem PO (s : Str) : PN s = vo (mG s) KS (0, 0) := by
  unfold PN
  cases e : okW s with
  | false => rfl
  | true => exact (Rs e).symm
def rJ (N : Nat) (zG : List Tok) (F : List dQ) (wV : Int) (wz : (List Tok × Int × Bool × Int) → Option (List Tok × dh)) (x29 : Str) (Du : Bool) (y31 : Int) : Option (List Tok × dh) :=
  (PN x29).bind fun Ja => (Bh N x29 zG F y31 wV wz Du) Ja
theorem Ep : @rJ = @qE := by
  funext a b c d e f g h
  unfold rJ qE
  rw [PO]
def vN (N : Nat) (W : List Str) (F : List dQ) (s : List Tok × Int × Bool × Int) (wz : List Tok × Int × Bool × Int → Option (List Tok × dh)) : Option (List Tok × dh) :=
  match s with | (zG, wV, Kq, y20) => bif (decide ((0 : Int) < wV) && Kq) then bif decide (((W.length : Int) : Int) ≤ y20) then rJ N zG F wV wz [] false y20 else gG (jb (y20 + 1)) (gG (jb ((y20 + 1) - 1)) ((idx W ((y20 + 1) - 1)).bind fun x103 => rJ N zG F wV wz x103 Kq (y20 + 1))) else some (zG, (⟨y20, Kq⟩ : dh))
theorem Er : @vN = @qF := by
  unfold vN qF
  rw [Ep]
def Bt (N : Nat) (sx : dh) (W : List Str) (F : List dQ) : Option (List Tok × dh) :=
  again (vN N W F) N ([], 1, sx.ok, sx.at_)
theorem F6 : @Bt = @Bi := by
  unfold Bt Bi
  rw [Er]
def rM (N : Nat) (F0 : dh → List Str → List dQ → Int → Option (List aU × dh)) (kG : Int) (W : List Str) (F : List dQ) (a : Int) (lF : List aU) (vR : Int) (jZ : (List aU × Int × Bool) → Option (List aU × dh)) (Ky : Int) (Kz : Bool) (wU : List Tok) : Option (List aU × dh) :=
  bif decide (((kG + 1) : Int) = 2) then (Bt N (⟨Ky, Kz⟩ : dh) W F).bind fun He => qG F0 kG a W F lF vR wU jZ He.2.at_ He.2.ok He.1 else qG F0 kG a W F lF vR wU jZ Ky Kz []
theorem Et : @rM = @qH := by
  unfold rM qH
  rw [F6]
def pg (N : Nat) (F0 : dh → List Str → List dQ → Int → Option (List aU × dh)) (kG : Int) (W : List Str) (F : List dQ) (a : Int) (lF : List aU) (jZ : (List aU × Int × Bool) → Option (List aU × dh)) (nA : Int) (xy : Bool) (vR : Int) : Option (List aU × dh) :=
  bif decide (((kG + 1) : Int) ≠ 4) then (Bt N (⟨nA, xy⟩ : dh) W F).bind fun y95 => rM N F0 kG W F a lF vR jZ y95.2.at_ y95.2.ok y95.1 else rM N F0 kG W F a lF vR jZ nA xy []
theorem Eu : @pg = @oF := by
  unfold pg oF
  rw [F6, Et]
def rO (N : Nat) (F0 : dh → List Str → List dQ → Int → Option (List aU × dh)) (lF : List aU) (W : List Str) (F : List dQ) (a : Int) (jZ : (List aU × Int × Bool) → Option (List aU × dh)) (x27 : Str) (y28 : Int) (y29 : Bool) : Option (List aU × dh) :=
  bif decide ((x27 : Str) = [125]) then some (lF, (⟨y28, y29⟩ : dh)) else (AX [115, 101, 116, 32, 112, 117, 116, 32, 115, 97, 121, 32, 112, 97, 117, 115, 101, 32, 103, 111, 32, 105, 102, 32, 119, 104, 105, 108, 101, 32, 114, 101, 116, 117, 114, 110]).bind fun y31 => (slices_Index_string y31 x27).bind fun kG => gG (jb (kG + 1)) (bif (!(y29 && decide ((0 : Int) < (kG + 1)))) then some ([], (⟨y28, (y29 && decide ((0 : Int) < (kG + 1)))⟩ : dh)) else bif decide (((kG + 1) : Int) ≤ 2) then bif decide (((W.length : Int) : Int) ≤ y28) then (ym []).bind fun y104 => pg N F0 kG W F a lF jZ y28 false y104.1 else gG (jb (y28 + 1)) (gG (jb ((y28 + 1) - 1)) ((idx W ((y28 + 1) - 1)).bind fun KA => (ym KA).bind fun KC => pg N F0 kG W F a lF jZ (y28 + 1) (y29 && decide ((0 : Int) < (kG + 1))) KC.1)) else pg N F0 kG W F a lF jZ y28 (y29 && decide ((0 : Int) < (kG + 1))) 0)
theorem Ev : @rO = @qI := by
  unfold rO qI
  rw [Eu]
def vO (N : Nat) (F0 : dh → List Str → List dQ → Int → Option (List aU × dh)) (W : List Str) (F : List dQ) (a : Int) (s : List aU × Int × Bool) (jZ : List aU × Int × Bool → Option (List aU × dh)) : Option (List aU × dh) :=
  match s with | (lF, Dh, EZ) => bif EZ then bif decide (((W.length : Int) : Int) ≤ Dh) then rO N F0 lF W F a jZ [] Dh false else gG (jb (Dh + 1)) (gG (jb ((Dh + 1) - 1)) ((idx W ((Dh + 1) - 1)).bind fun Jb => rO N F0 lF W F a jZ Jb (Dh + 1) EZ)) else some ([], (⟨Dh, EZ⟩ : dh))
theorem Ew : @vO = @qJ := by
  unfold vO qJ
  rw [Ev]
def uC (N : Nat) (F0 : dh → List Str → List dQ → Int → Option (List aU × dh)) (W : List Str) (F : List dQ) (a : Int) (y1 : Int) (y2 : Bool) : Option (List aU × dh) :=
  again (vO N F0 W F a) N ([], y1, y2)
theorem Fu : @uC = @sG := by
  unfold uC sG
  rw [Ew]
def rP (N : Nat) (F0 : dh → List Str → List dQ → Int → Option (List aU × dh)) (W : List Str) (F : List dQ) (a : Int) (zY : Bool) (Di : Int) (Hg : Bool) : Option (List aU × dh) :=
  bif zY then uC N F0 W F a Di false else uC N F0 W F a Di Hg
theorem Ex : @rP = @qK := by
  unfold rP qK
  rw [Fu]
def vD (N : Nat) (F0 : dh → List Str → List dQ → Int → Option (List aU × dh)) (sx : dh) (W : List Str) (F : List dQ) (a : Int) : Option (List aU × dh) :=
  bif decide (((W.length : Int) : Int) ≤ sx.at_) then rP N F0 W F a true sx.at_ false else gG (jb (sx.at_ + 1)) (gG (jb ((sx.at_ + 1) - 1)) ((idx W ((sx.at_ + 1) - 1)).bind fun Jc => rP N F0 W F a (decide ((Jc : Str) ≠ [123]) || decide ((6 : Int) < a)) (sx.at_ + 1) sx.ok))
theorem HV : @vD = @uO := by
  unfold vD uO
  rw [Ex]
def wN : Nat → dh → List Str → List dQ → Int → Option (List aU × dh)
  | 0 => fun _ _ _ _ => none
  | N + 1 => vD N (wN N)
theorem Ey : ∀ N, wN N = sH N
  | 0 => rfl
  | N + 1 => by show vD N (wN N) = uO N (sH N); rw [HV, Ey N]
def gU (N : Nat) (y1 : List Str) (oQ : List dQ) (i101 : Int) (jB : (List dQ × Int × Bool) → Option (List dQ × Int)) (Dj : Int) (y112 : Bool) : Option (List dQ × Int) :=
  (wN N (⟨Dj, y112⟩ : dh) y1 oQ 1).bind fun ja => (idx oQ i101).bind fun uF => jB ((oQ.set (i101).toNat { uF with body := ja.1 }), ja.2.at_, ja.2.ok)
theorem tH : @gU = @gm := by
  unfold gU gm
  rw [show @wN = @sH from funext Ey]
def gV (N : Nat) (y1 : List Str) (oQ : List dQ) (i101 : Int) (jB : (List dQ × Int × Bool) → Option (List dQ × Int)) (mY : Int) (Hm : Bool) : Option (List dQ × Int) :=
  bif decide (((y1.length : Int) : Int) ≤ mY) then gU N y1 oQ i101 jB mY false else gG (jb (mY + 1)) (gG (jb ((mY + 1) - 1)) ((idx y1 ((mY + 1) - 1)).bind fun Rh => gU N y1 oQ i101 jB (mY + 1) Hm))
theorem tJ : @gV = @gp := by
  unfold gV gp
  rw [tH]
def gW (N : Nat) (y1 : List Str) (oQ : List dQ) (i101 : Int) (jB : (List dQ × Int × Bool) → Option (List dQ × Int)) (mZ : Int) (Ho : Bool) : Option (List dQ × Int) :=
  bif decide (((y1.length : Int) : Int) ≤ mZ) then gV N y1 oQ i101 jB mZ false else gG (jb (mZ + 1)) (gG (jb ((mZ + 1) - 1)) ((idx y1 ((mZ + 1) - 1)).bind fun Ri => gV N y1 oQ i101 jB (mZ + 1) Ho))
theorem tK : @gW = @gq := by
  unfold gW gq
  rw [tJ]
def gX (N : Nat) (y1 : List Str) (oQ : List dQ) (i101 : Int) (jB : (List dQ × Int × Bool) → Option (List dQ × Int)) (Je : Bool) (Dk : Int) (Hq : Bool) : Option (List dQ × Int) :=
  bif Je then gW N y1 oQ i101 jB Dk false else gW N y1 oQ i101 jB Dk Hq
theorem tL : @gX = @gu := by
  unfold gX gu
  rw [tK]
def jv (N : Nat) (y1 : List Str) (i101 : Int) (s : List dQ × Int × Bool) (jB : List dQ × Int × Bool → Option (List dQ × Int)) : Option (List dQ × Int) :=
  match s with | (oQ, y98, y99) => bif decide (((y1.length : Int) : Int) ≤ y98) then gX N y1 oQ i101 jB true y98 false else gG (jb (y98 + 1)) (gG (jb ((y98 + 1) - 1)) ((idx y1 ((y98 + 1) - 1)).bind fun x152 => gX N y1 oQ i101 jB (decide ((x152 : Str) ≠ [102, 117, 110])) (y98 + 1) y99))
theorem tN : @jv = @gy := by
  unfold jv gy
  rw [tL]
def jw (N : Nat) (y1 : List Str) (a : Str) (uq : List dQ) (s : Unit) : Option (List dQ × Int) :=
  upto (jv N y1) (il N y1 a) 0 ((uq.length : Int)).toNat (uq, 0, true)
theorem tO : @jw = @gz := by
  unfold jw gz
  rw [tN]
def jy (N : Nat) (y1 : List Str) (a : Str) (uq : List dQ) : Option (List dQ × Int) :=
  bif (decide (((uq.length : Int) : Int) = 0) || decide ((4 : Int) < (uq.length : Int))) then some ([], 1) else upto (iq uq) (jw N y1 a uq) 0 ((uq.length : Int)).toNat ()
theorem tQ : @jy = @gB := by
  unfold jy gB
  rw [tO]
def lW (N : Nat) (a : Str) : Option (List dQ × Int) :=
  (GH a [32]).bind fun y1 => eX (iw y1) (jy N y1 a) 0 y1 []
theorem vP : @lW = @jq := by
  unfold lW jq
  rw [tQ]
def og (N : Nat) : Option (List dQ) :=
  (lW N [102, 117, 110, 32, 48, 32, 49, 32, 123, 32, 115, 101, 116, 32, 48, 32, 51, 32, 119, 104, 105, 108, 101, 32, 118, 48, 32, 123, 32, 115, 97, 121, 32, 102, 49, 32, 118, 48, 32, 118, 48, 32, 103, 111, 32, 118, 48, 32, 112, 97, 117, 115, 101, 32, 115, 101, 116, 32, 48, 32, 45, 32, 118, 48, 32, 49, 32, 125, 32, 125, 32, 102, 117, 110, 32, 50, 32, 50, 32, 123, 32, 114, 101, 116, 117, 114, 110, 32, 42, 32, 118, 48, 32, 118, 49, 32, 125]).bind fun y1 => some y1.1
theorem xY : @og = @ji := by
  unfold og ji
  rw [vP]
abbrev NN : Nat := 70000
theorem M5 : ji NN = og NN := by rw [xY]
end
end Go.Proofs.YtfclkapelkhlpaaGreatDoor
namespace Go.Proofs.YtfclkapelkhlpaaGreatDoor
open Go Go.Proofs Go.LX
theorem Xj (a b : List Int) : slices_Equal_int a b = some (decide (a = b)) := by
  unfold slices_Equal_int
  by_cases h : a.length = b.length
  · rw [dF (by omega)]
    simp only [cond_false, Int.toNat_natCast]
    rw [FK (fun x y => decide (x = y)) a b h rfl (fun i x y nx h1 h2 => by
      unfold lG
      rw [oz, oz, h1, h2]
      by_cases e : x = y <;> simp [e]), AV (fun _ _ => rfl)]
  · rw [dT (by omega)]
    have : a ≠ b := fun e => h (by rw [e])
    rw [dF this]; rfl
theorem Bu (a b : Int) : (decide (a < 0) || decide (b ≤ a)) = !aN a b := by
  unfold aN; rw [Bool.eq_iff_iff]; simp; try omega
theorem UG {α : Type} (x : α) (l : List α) : idx (x :: l) 0 = some x := by simp [idx]
theorem LJ {l : List Int} : l.length = 1 ↔ ∃ x, l = [x] := by
  match l with
  | [] => simp
  | [x] => simp
  | x :: y :: r => simp
def vQ (i : Nat) (x : bV) : Int :=
  if (0 ≤ x.params ∧ x.params ≤ 3) ∧ (1 ≤ x.regs ∧ x.params ≤ x.regs ∧ x.regs ≤ 40) ∧ ¬ (i = 0 ∧ x.params ≠ 0) then (if 1 ≤ x.code.length ∧ x.code.length ≤ 2000 then 0 else 2) else 3
theorem UH (i : Nat) (x : bV) (nx : Unit → Option Int) : gP (i : Int) x () nx = if vQ i x ≠ 0 then some (vQ i x) else nx () := by
  unfold gP vQ
  by_cases h1 : (0 ≤ x.params ∧ x.params ≤ 3) ∧ (1 ≤ x.regs ∧ x.params ≤ x.regs ∧ x.regs ≤ 40) ∧ ¬ (i = 0 ∧ x.params ≠ 0)
  · have e : (((((decide ((x.params : Int) < 0) || decide ((3 : Int) < x.params)) || decide ((x.regs : Int) < 1)) || decide ((x.regs : Int) < x.params)) || decide ((40 : Int) < x.regs)) || (decide ((i : Int) = 0) && decide ((0 : Int) < x.params))) = false := by
      simp only [Bool.or_eq_false_iff, Bool.and_eq_false_iff, decide_eq_false_iff_not]; omega
    rw [e, if_pos h1]
    simp only [cond_false]
    by_cases h2 : 1 ≤ x.code.length ∧ x.code.length ≤ 2000
    · rw [if_pos h2, show (decide (((x.code.length : Int) : Int) = 0) || decide ((2000 : Int) < (x.code.length : Int))) = false by simp only [Bool.or_eq_false_iff, decide_eq_false_iff_not]; omega]
      rfl
    · rw [if_neg h2, show (decide (((x.code.length : Int) : Int) = 0) || decide ((2000 : Int) < (x.code.length : Int))) = true by simp only [Bool.or_eq_true, decide_eq_true_eq]; omega]
      rfl
  · have e : (((((decide ((x.params : Int) < 0) || decide ((3 : Int) < x.params)) || decide ((x.regs : Int) < 1)) || decide ((x.regs : Int) < x.params)) || decide ((40 : Int) < x.regs)) || (decide ((i : Int) = 0) && decide ((0 : Int) < x.params))) = true := by
      simp only [Bool.or_eq_true, Bool.and_eq_true, decide_eq_true_eq]; omega
    rw [e, if_neg h1]
    rfl
def heads : Nat → List bV → Int
  | _, [] => 0
  | i, x :: p => if vQ i x ≠ 0 then vQ i x else heads (i + 1) p
theorem Ez (k : Unit → Option Int) : ∀ (p : List bV) (i : Nat), eX gP k (i : Int) p () = if heads i p ≠ 0 then some (heads i p) else k ()
  | [], i => by simp [heads, eX]
  | x :: p, i => by
    show gP (i : Int) x () (eX gP k ((i : Int) + 1) p) = _
    rw [UH, show ((i : Int) + 1) = ((i + 1 : Nat) : Int) by omega, Ez k p (i + 1), heads]
    by_cases h : vQ i x = 0 <;> simp [h]
end Go.Proofs.YtfclkapelkhlpaaGreatDoor
namespace Go.Proofs.YtfclkapelkhlpaaGreatDoor
open Go Go.Proofs Go.LX
def rQ (x : bV) : Prop := 1 ≤ x.code.length ∧ x.code.length ≤ 2000
theorem df {α σ ρ : Type} {body : α → σ → (σ → ρ) → ρ} {k : σ → ρ} (x : α) (l : List α) (s : σ) : each body k (x :: l) s = body x s (each body k l) := rfl
theorem fB {α σ ρ : Type} {body : α → σ → (σ → ρ) → ρ} {k : σ → ρ} (s : σ) : each body k [] s = k s := rfl
theorem PQ (d : Int) : ∀ l : List Int, ∃ y, each (lu d) o8 l () = some y
  | [] => ⟨0, rfl⟩
  | x :: l => by
    obtain ⟨y, hy⟩ := PQ d l
    rw [df]
    unfold lu
    cases (!(decide ((0 : Int) ≤ x) && decide ((x : Int) < d))) with
    | true => exact ⟨3, rfl⟩
    | false => exact ⟨y, hy⟩
theorem PR (x9 : Bool) (a : Ins) (b Dw : Int) (c : List bV) (y13 xW d pJ : Int) : ∃ y, dB x9 a b Dw c y13 xW d pJ = some y ∧ (y = 0 → (a.args.length : Int) = xW) := by
  unfold dB
  cases x9 with
  | false => exact ⟨3, rfl, fun h => absurd h (by decide)⟩
  | true =>
    simp only [Bool.not_true, cond_false]
    generalize hc : (((decide ((a.a : Int) ≠ pJ) || decide ((a.b : Int) ≠ Dw)) || decide ((a.c : Int) ≠ y13)) || decide (((a.args.length : Int) : Int) ≠ xW)) = C
    cases C with
    | true => exact ⟨4, rfl, fun h => absurd h (by decide)⟩
    | false =>
      simp only [Bool.or_eq_false_iff, decide_eq_false_iff_not, Decidable.not_not] at hc
      simp only [cond_false]
      cases decide ((a.op : Int) = 7) with
      | true => obtain ⟨y, hy⟩ := PQ d a.args; exact ⟨y, hy, fun _ => hc.2⟩
      | false => exact ⟨0, rfl, fun _ => hc.2⟩
theorem UI (a : Ins) (b : Int) (c : List bV) (d : Int) (x9 : Bool) (xW MX Dw y13 : Int) : ∃ y, bK a b c d x9 xW MX Dw y13 = some y ∧ (y = 0 → (a.args.length : Int) = xW) := by
  unfold bK
  cases decide ((a.op : Int) = 12) with
  | true => exact PR x9 a b Dw c y13 xW d 0
  | false => exact PR x9 a b Dw c y13 xW d MX
def HY (a : Ins) (r : Option Int) : Prop := ∃ y, r = some y ∧ (y = 0 → a.args.length ≤ 3)
theorem Fv (a : Ins) (b : Int) (c : List bV) (d : Int) (x9 : Bool) {xW : Int} (MX Dw y13 : Int) (h : xW ≤ 3) : HY a (bK a b c d x9 xW MX Dw y13) := by
  obtain ⟨y, h1, h2⟩ := UI a b c d x9 xW MX Dw y13
  exact ⟨y, h1, fun h0 => by have := h2 h0; omega⟩
theorem ng {a : Ins} {c : Bool} {x y : Option Int} (h1 : HY a x) (h2 : HY a y) : HY a (bif c then x else y) := by
  cases c
  · exact h2
  · exact h1
theorem EA {a : Ins} {e : Int} (h : e ≠ 0) : HY a (some e) := ⟨e, rfl, fun h0 => absurd h0 h⟩
theorem M6 (a : Ins) (b : Int) (c : List bV) (d e : Int) (hp : ∀ x ∈ c, x.params ≤ 3) : HY a (fH a b c d e) := by
  unfold fH
  refine ng (EA (by decide)) (ng (EA (by decide)) (ng (Fv _ _ _ _ _ _ _ _ (by decide)) (ng (Fv _ _ _ _ _ _ _ _ (by decide)) ?_)))
  have k12 : ∀ x, HY a (bZ a b c d x) := fun x => by
    unfold bZ
    exact ng (Fv _ _ _ _ _ _ _ _ (by decide)) (ng (Fv _ _ _ _ _ _ _ _ (by decide)) (Fv _ _ _ _ _ _ _ _ (by decide)))
  have k11 : ∀ x, HY a (cB a b c d e x) := fun x => by
    unfold cB
    refine ng (Fv _ _ _ _ _ _ _ _ (by decide)) ?_
    cases decide ((a.op : Int) = 7) with
    | false =>
      rw [cond_false]
      exact ng (k12 _) (ng (k12 _) (k12 _))
    | true =>
      simp only [cond_true]
      rw [Bu]
      cases hb : aN a.b (c.length : Int) with
      | false => exact EA (by decide)
      | true =>
        simp only [Bool.not_true, cond_false]
        unfold aN at hb
        simp only [Bool.and_eq_true, decide_eq_true_eq] at hb
        obtain ⟨n, hn⟩ := Int.eq_ofNat_of_zero_le hb.1
        rw [hn, xe (by omega), Option.bind_some]
        exact Fv _ _ _ _ _ _ _ _ (hp _ (List.getElem_mem _))
  have k10 : ∀ x, HY a (cK a b c d e x) := fun x => by
    unfold cK
    refine ng (Fv _ _ _ _ _ _ _ _ (by decide)) ?_
    cases decide ((a.op : Int) = 3) with
    | false =>
      rw [cond_false]
      exact ng (k11 _) (k11 _)
    | true =>
      simp only [cond_true]
      by_cases h1 : a.args.length = 1
      · rw [dT (show ((a.args.length : Int) : Int) = 1 by omega)]
        obtain ⟨y, hy⟩ := LJ.1 h1
        simp only [cond_true]
        rw [show idx a.args 0 = some y by rw [hy, UG], Option.bind_some]
        exact Fv _ _ _ _ _ _ _ _ (by decide)
      · rw [dF (show ¬ ((a.args.length : Int) : Int) = 1 by omega)]
        exact Fv _ _ _ _ _ _ _ _ (by decide)
  exact ng (k10 _) (k10 _)
def Good (a : List bV) : Prop := a.length ≤ 4 ∧ ∀ x ∈ a, rQ x ∧ ∀ c ∈ x.code, c.args.length ≤ 3
theorem Jt {i : Nat} {x : bV} (h : vQ i x = 0) : x.params ≤ 3 ∧ rQ x := by
  unfold vQ at h
  split at h
  · split at h
    · exact ⟨by omega, by unfold rQ; omega⟩
    · cases h
  · cases h
theorem EB : ∀ (p : List bV) (i : Nat), heads i p = 0 → ∀ x ∈ p, x.params ≤ 3 ∧ rQ x
  | [], _, _, x, hx => by cases hx
  | y :: p, i, h, x, hx => by
    unfold heads at h
    split at h
    · rename_i h1; exact absurd h h1
    · rename_i h1
      rcases List.mem_cons.1 hx with rfl | hx
      · exact Jt (Decidable.not_not.1 h1)
      · exact EB p (i + 1) h x hx
theorem LK (a : List bV) (x : bV) (k : Unit → Option Int) (hp : ∀ x ∈ a, x.params ≤ 3) (Q : Prop) (hk : ∃ y, k () = some y ∧ (y = 0 → Q)) : ∀ (l : List Ins) (i : Int), ∃ y, eX (eP a x) k i l () = some y ∧ (y = 0 → Q ∧ ∀ c ∈ l, c.args.length ≤ 3)
  | [], i => by
    obtain ⟨y, h1, h2⟩ := hk
    exact ⟨y, h1, fun h => ⟨h2 h, by intro c hc; cases hc⟩⟩
  | c :: l, i => by
    obtain ⟨y, h1, h2⟩ := LK a x k hp Q hk l (i + 1)
    have e1 : eX (eP a x) k i (c :: l) () = eP a x i c () (eX (eP a x) k (i + 1) l) := rfl
    rw [e1]
    unfold eP
    obtain ⟨z, g1, g2⟩ := M6 c i a x.regs (x.code.length : Int) hp
    rw [g1, Option.bind_some]
    by_cases hz : z = 0
    · rw [dF (by omega), cond_false]
      refine ⟨y, h1, fun h => ⟨(h2 h).1, fun d hd => ?_⟩⟩
      rcases List.mem_cons.1 hd with rfl | hd
      · exact g2 hz
      · exact (h2 h).2 d hd
    · rw [dT hz, cond_true]
      exact ⟨z, rfl, fun h => absurd h hz⟩
theorem LM (a : List bV) (hp : ∀ x ∈ a, x.params ≤ 3 ∧ rQ x) : ∀ l : List bV, (∀ x ∈ l, x.params ≤ 3 ∧ rQ x) → ∃ y, each (iX a) lQ l () = some y ∧ (y = 0 → ∀ x ∈ l, ∀ c ∈ x.code, c.args.length ≤ 3)
  | [], _ => ⟨0, rfl, fun _ x hx => by cases hx⟩
  | x :: l, hl => by
    obtain ⟨y, h1, h2⟩ := LM a hp l (fun z hz => hl z (List.mem_cons_of_mem _ hz))
    rw [df]
    unfold iX
    have hx := hl x (by simp)
    obtain ⟨z, g1, g2⟩ := LK a x (lN x (each (iX a) lQ l)) (fun x hx => (hp x hx).1) (∀ x ∈ l, ∀ c ∈ x.code, c.args.length ≤ 3) (by
      unfold lN
      have h3 := hx.2
      unfold rQ at h3
      rw [gI, show ((x.code.length : Int) - 1) = ((x.code.length - 1 : Nat) : Int) by omega, xe (by omega), Option.bind_some]
      cases (decide ((x.code[x.code.length - 1].op : Int) ≠ 8) && decide ((x.code[x.code.length - 1].op : Int) ≠ 12)) with
      | true => exact ⟨4, rfl, fun h => absurd h (by decide)⟩
      | false => exact ⟨y, h1, h2⟩) x.code 0
    refine ⟨z, g1, fun h => ?_⟩
    intro w hw
    rcases List.mem_cons.1 hw with rfl | hw
    · exact (g2 h).2
    · exact (g2 h).1 w hw
theorem M7 (a : List bV) : ∃ y, nU a = some y ∧ (y = 0 → Good a) := by
  unfold nU
  generalize hc : (decide (((a.length : Int) : Int) = 0) || decide ((4 : Int) < (a.length : Int))) = C
  cases C with
  | true => exact ⟨2, rfl, fun h => absurd h (by decide)⟩
  | false =>
    simp only [Bool.or_eq_false_iff, decide_eq_false_iff_not] at hc
    have h1 : eX gP (j6 a) 0 a () = _ := Ez (j6 a) a 0
    rw [cond_false, h1]
    by_cases hz : heads 0 a = 0
    · rw [if_neg (by omega)]
      have hp := EB a 0 hz
      obtain ⟨y, g1, g2⟩ := LM a hp a hp
      exact ⟨y, g1, fun h => ⟨by omega, fun x hx => ⟨(hp x hx).2, g2 h x hx⟩⟩⟩
    · rw [if_pos hz]
      exact ⟨_, rfl, fun h => absurd h hz⟩
def M8 (a : List bV) : Int := (nU a).getD 0
theorem PS (a : List bV) : nU a = some (M8 a) := by
  obtain ⟨y, h, _⟩ := M7 a
  unfold M8
  rw [h]; rfl
def Cs (R x : Int) : Prop := 0 ≤ x ∧ x < R
def xZ (a : List bV) (R L : Int) (c : Ins) : Prop :=
  (c.op = 1 ∧ Cs R c.a ∧ (-1000000000 ≤ c.b ∧ c.b ≤ 1000000000)) ∨
  (c.op = 2 ∧ Cs R c.a ∧ Cs R c.b) ∨
  (c.op = 3 ∧ Cs R c.a ∧ Cs R c.b ∧ Cs R c.c ∧ ∃ n, c.args = [n] ∧ 1 ≤ n ∧ n ≤ 5) ∨
  ((c.op = 4 ∨ c.op = 6) ∧ Cs R c.a ∧ Cs R c.b ∧ (0 ≤ c.c ∧ c.c < 4)) ∨
  (c.op = 5 ∧ Cs R c.a ∧ (1 ≤ c.b ∧ c.b ≤ 4)) ∨
  (c.op = 7 ∧ Cs R c.a ∧ (∃ p, idx a c.b = some p ∧ (c.args.length : Int) = p.params) ∧ ∀ x ∈ c.args, Cs R x) ∨
  ((c.op = 8 ∨ c.op = 9 ∨ c.op = 11) ∧ Cs R c.a) ∨
  c.op = 10 ∨
  (c.op = 12 ∧ (0 ≤ c.b ∧ c.b < L)) ∨
  (c.op = 13 ∧ Cs R c.a ∧ (0 ≤ c.b ∧ c.b < L))
theorem LP (R : Int) : ∀ l : List Int, each (lu R) o8 l () = some 0 → ∀ x ∈ l, Cs R x
  | [], _, x, hx => by cases hx
  | y :: l, h, x, hx => by
    rw [df] at h
    unfold lu at h
    cases e : (!(decide ((0 : Int) ≤ y) && decide ((y : Int) < R))) with
    | true => rw [e, cond_true] at h; cases h
    | false =>
      rw [e, cond_false] at h
      rcases List.mem_cons.1 hx with rfl | hx
      · simp at e; exact e
      · exact LP R l h x hx
theorem Rt {c : Ins} {i : Int} {a : List bV} {R L : Int} (h : fH c i a R L = some 0) : xZ a R L c := by
  obtain ⟨op, ca, cb, cc, args⟩ := c
  by_cases h1 : op = 1
  · subst h1
    simp [fH, bu, dw, dW, eF, dL, bK, dB, cK, cB, bZ, Bool.cond_eq_ite] at h
    simp [xZ, Cs]
    (repeat (split at h; · simp at h))
    omega
  by_cases h2 : op = 2
  · subst h2
    simp [fH, bu, dw, dW, eF, dL, bK, dB, cK, cB, bZ, Bool.cond_eq_ite] at h
    simp [xZ, Cs]
    (repeat (split at h; · simp at h))
    omega
  by_cases h3 : op = 3
  · subst h3
    simp [fH, bu, dw, dW, eF, dL, bK, dB, cK, cB, bZ, Bool.cond_eq_ite] at h
    simp [xZ, Cs]
    by_cases hl : args.length = 1
    · obtain ⟨y, rfl⟩ := LJ.1 hl
      simp [UG] at h
      split at h
      · simp at h
      split at h
      · simp at h
      refine ⟨by omega, by omega, by omega, y, rfl, by omega, by omega⟩
    · exfalso
      rw [if_neg (show ¬ ((args.length : Int) = 1) by omega)] at h
      split at h <;> simp at h
  by_cases h4 : op = 4
  · subst h4
    simp [fH, bu, dw, dW, eF, dL, bK, dB, cK, cB, bZ, Bool.cond_eq_ite] at h
    simp [xZ, Cs]
    (repeat (split at h; · simp at h))
    omega
  by_cases h5 : op = 5
  · subst h5
    simp [fH, bu, dw, dW, eF, dL, bK, dB, cK, cB, bZ, Bool.cond_eq_ite] at h
    simp [xZ, Cs]
    (repeat (split at h; · simp at h))
    omega
  by_cases h6 : op = 6
  · subst h6
    simp [fH, bu, dw, dW, eF, dL, bK, dB, cK, cB, bZ, Bool.cond_eq_ite] at h
    simp [xZ, Cs]
    (repeat (split at h; · simp at h))
    omega
  by_cases h7 : op = 7
  · subst h7
    simp [fH, bu, dw, dW, eF, dL, bK, dB, cK, cB, bZ, Bool.cond_eq_ite] at h
    simp [xZ, Cs]
    split at h
    · simp at h
    split at h
    · simp at h
    obtain ⟨p, hp, h⟩ := aM h
    (repeat (split at h; · simp at h))
    refine ⟨by omega, ⟨p, hp, by omega⟩, fun x hx => LP R args h x hx⟩
  by_cases h8 : op = 8
  · subst h8
    simp [fH, bu, dw, dW, eF, dL, bK, dB, cK, cB, bZ, Bool.cond_eq_ite] at h
    simp [xZ, Cs]
    (repeat (split at h; · simp at h))
    omega
  by_cases h9 : op = 9
  · subst h9
    simp [fH, bu, dw, dW, eF, dL, bK, dB, cK, cB, bZ, Bool.cond_eq_ite] at h
    simp [xZ, Cs]
    (repeat (split at h; · simp at h))
    omega
  by_cases h10 : op = 10
  · subst h10
    simp [xZ, Cs]
  by_cases h11 : op = 11
  · subst h11
    simp [fH, bu, dw, dW, eF, dL, bK, dB, cK, cB, bZ, Bool.cond_eq_ite] at h
    simp [xZ, Cs]
    (repeat (split at h; · simp at h))
    omega
  by_cases h12 : op = 12
  · subst h12
    simp [fH, bu, dw, dW, eF, dL, bK, dB, cK, cB, bZ, Bool.cond_eq_ite] at h
    simp [xZ, Cs]
    (repeat (split at h; · simp at h))
    omega
  by_cases h13 : op = 13
  · subst h13
    simp [fH, bu, dw, dW, eF, dL, bK, dB, cK, cB, bZ, Bool.cond_eq_ite] at h
    simp [xZ, Cs]
    (repeat (split at h; · simp at h))
    omega
  · exfalso
    simp [fH, bu, dw, dW, eF, dL, bK, dB, cK, cB, bZ, Bool.cond_eq_ite, *] at h
structure yO (a : List bV) : Prop where
  many : 1 ≤ a.length ∧ a.length ≤ 4
  head : ∀ (i : Nat) x, a[i]? = some x → (0 ≤ x.params ∧ x.params ≤ 3) ∧ (1 ≤ x.regs ∧ x.params ≤ x.regs ∧ x.regs ≤ 40) ∧ ¬ (i = 0 ∧ x.params ≠ 0) ∧ rQ x
  last : ∀ x ∈ a, ∃ c, idx x.code ((x.code.length : Int) - 1) = some c ∧ (c.op = 8 ∨ c.op = 12)
  ins : ∀ x ∈ a, ∀ c ∈ x.code, xZ a x.regs x.code.length c
theorem F7 : ∀ (p : List bV) (j : Nat), heads j p = 0 → ∀ (i : Nat) x, p[i]? = some x → vQ (j + i) x = 0
  | [], j, _, i, x, hx => by simp at hx
  | y :: p, j, h, i, x, hx => by
    unfold heads at h
    split at h
    · rename_i h1; exact absurd h h1
    · rename_i h1
      cases i with
      | zero => simp at hx; subst hx; exact Decidable.not_not.1 h1
      | succ i => rw [show j + (i + 1) = (j + 1) + i by omega]; exact F7 p (j + 1) h i x (by simpa using hx)
theorem LQ (a : List bV) (x : bV) (k : Unit → Option Int) : ∀ (l : List Ins) (i : Int), eX (eP a x) k i l () = some 0 → k () = some 0 ∧ ∀ c ∈ l, xZ a x.regs x.code.length c
  | [], i, h => ⟨h, fun c hc => by cases hc⟩
  | y :: l, i, h => by
    have e1 : eX (eP a x) k i (y :: l) () = eP a x i y () (eX (eP a x) k (i + 1) l) := rfl
    rw [e1] at h
    unfold eP at h
    obtain ⟨z, hz, h⟩ := aM h
    by_cases z0 : z = 0
    · subst z0
      rw [dF (by simp), cond_false] at h
      obtain ⟨h1, h2⟩ := LQ a x k l (i + 1) h
      refine ⟨h1, fun c hc => ?_⟩
      rcases List.mem_cons.1 hc with rfl | hc
      · exact Rt hz
      · exact h2 c hc
    · rw [dT z0, cond_true] at h
      exact absurd (Option.some.inj h) z0
theorem LU (a : List bV) : ∀ l : List bV, each (iX a) lQ l () = some 0 → ∀ x ∈ l, (∃ c, idx x.code ((x.code.length : Int) - 1) = some c ∧ (c.op = 8 ∨ c.op = 12)) ∧ ∀ c ∈ x.code, xZ a x.regs x.code.length c
  | [], _, x, hx => by cases hx
  | y :: l, h, x, hx => by
    rw [df] at h
    unfold iX at h
    obtain ⟨h1, h2⟩ := LQ a y _ y.code 0 h
    unfold lN at h1
    obtain ⟨_, h1⟩ := aZ h1
    obtain ⟨c, hc, h1⟩ := aM h1
    cases e : (decide ((c.op : Int) ≠ 8) && decide ((c.op : Int) ≠ 12)) with
    | true => rw [e, cond_true] at h1; cases h1
    | false =>
      rw [e, cond_false] at h1
      rcases List.mem_cons.1 hx with rfl | hx
      · exact ⟨⟨c, hc, by simp only [Bool.and_eq_false_iff, decide_eq_false_iff_not, Decidable.not_not] at e; exact e⟩, h2⟩
      · exact LU a l h1 x hx
theorem EC {a : List bV} (h : M8 a = 0) : yO a := by
  have h0 := PS a
  rw [h] at h0
  unfold nU at h0
  generalize hc : (decide (((a.length : Int) : Int) = 0) || decide ((4 : Int) < (a.length : Int))) = C at h0
  cases C with
  | true => cases h0
  | false =>
    simp only [Bool.or_eq_false_iff, decide_eq_false_iff_not] at hc
    have h1 : eX gP (j6 a) 0 a () = _ := Ez (j6 a) a 0
    rw [cond_false, h1] at h0
    by_cases hz : heads 0 a = 0
    · rw [if_neg (by omega)] at h0
      have hb := LU a a h0
      refine ⟨by omega, fun i x hx => ?_, fun x hx => (hb x hx).1, fun x hx => (hb x hx).2⟩
      have := F7 a 0 hz i x hx
      rw [Nat.zero_add] at this
      unfold vQ at this
      split at this
      · rename_i g
        split at this
        · rename_i g2; exact ⟨g.1, g.2.1, g.2.2, g2⟩
        · cases this
      · cases this
    · rw [if_pos hz] at h0
      exact absurd (Option.some.inj h0) hz
end Go.Proofs.YtfclkapelkhlpaaGreatDoor
namespace Go.Proofs.YtfclkapelkhlpaaGreatDoor
open Go Go.Proofs Go.LX
theorem jc {α σ ρ : Type} {body : Int → α → σ → (σ → ρ) → ρ} {k : σ → ρ} (i : Int) (x : α) (l : List α) (s : σ) : eX body k i (x :: l) s = body i x s (eX body k (i + 1) l) := rfl
theorem Ct {σ ρ : Type} {body : Int → σ → (σ → ρ) → ρ} {k : σ → ρ} (i : Int) (m : Nat) (s : σ) : upto body k i (m + 1) s = body i s (upto body k (i + 1) m) := rfl
theorem xL {σ β : Type} {body : σ → (σ → Option β) → Option β} {m : Nat} {s : σ} : again body (m + 1) s = body s (again body m) := rfl
def iP (n : Nat) (v : Val) : Prop := (v.kind = 0 ∧ v.n = 0) ∨ (v.kind = 1 ∧ -1000000000 ≤ v.n ∧ v.n ≤ 1000000000) ∨ (v.kind = 2 ∧ 0 ≤ v.n ∧ v.n < n)
instance (n : Nat) (v : Val) : Decidable (iP n v) := inferInstanceAs (Decidable (_ ∨ _))
theorem yP (n : Nat) (v : Val) : bO v (n : Int) = 0 ↔ iP n v := by
  obtain ⟨k, m⟩ := v
  simp only [bO, iP, Bool.cond_eq_ite, Bool.or_eq_true, decide_eq_true_eq]
  constructor
  · intro h
    (repeat' split at h) <;> first | omega | (exfalso; omega)
  · intro h
    rcases h with ⟨h1, h2⟩ | ⟨h1, h2⟩ | ⟨h1, h2⟩
    · rw [if_pos h1, if_neg (by omega)]
    · rw [if_neg (by omega), if_pos h1, if_neg (by omega)]
    · rw [if_neg (by omega), if_neg (by omega), if_pos h1, if_neg (by omega)]
theorem Ju (v : Val) (n : Int) : dx v n = bO v n := by
  obtain ⟨k, m⟩ := v
  simp only [bO, dx, kT, aR, dR, aN, Bool.cond_eq_ite, Bool.or_eq_true, Bool.and_eq_true, Bool.not_eq_true', decide_eq_true_eq, decide_eq_false_iff_not, Bool.and_eq_false_iff]
  (repeat' split) <;> first | rfl | (exfalso; omega)
def mQ (l : List (List Val)) : Prop := l.length ≤ 24 ∧ ∀ c ∈ l, (1 ≤ c.length ∧ c.length ≤ 4) ∧ ∀ v ∈ c, iP l.length v
theorem Jv (a : List (List Val)) : jr a = cz a := by
  unfold jr cz
  have k1 : ∀ (l : List Val) (f : Unit → Int), each (iy a) (iA f) l () = each (fQ a) (eY f) l () := by
    intro l f
    induction l with
    | nil => rfl
    | cons x l ih =>
      show (bif decide ((dx x (a.length : Int) : Int) ≠ 0) then dx x (a.length : Int) else each (iy a) (iA f) l ()) = (bif decide ((bO x (a.length : Int) : Int) ≠ 0) then bO x (a.length : Int) else each (fQ a) (eY f) l ())
      rw [Ju, ih]
  have k2 : ∀ l : List (List Val), each (iB a) iC l () = each (gN a) fT l () := by
    intro l
    induction l with
    | nil => rfl
    | cons x l ih =>
      show (bif (!(aR (x.length : Int) 1 4)) then 2 else each (iy a) (iA (each (iB a) iC l)) x ()) = (bif (decide (((x.length : Int) : Int) = 0) || decide ((4 : Int) < (x.length : Int))) then 2 else each (fQ a) (eY (each (gN a) fT l)) x ())
      have e : (!(aR (x.length : Int) 1 4)) = (decide (((x.length : Int) : Int) = 0) || decide ((4 : Int) < (x.length : Int))) := by
        unfold aR; rw [Bool.eq_iff_iff]; simp only [Bool.or_eq_true, Bool.not_eq_true', Bool.and_eq_false_iff, decide_eq_true_eq, decide_eq_false_iff_not]; omega
      rw [e, k1]
      have : each (iB a) iC l = each (gN a) fT l := by funext u; exact ih
      rw [this]
  rw [k2]
theorem KT (a : List (List Val)) : cz a = 0 ↔ mQ a := by
  have k1 : ∀ (l : List Val) (f : Unit → Int), each (fQ a) (eY f) l () = 0 ↔ (∀ v ∈ l, iP a.length v) ∧ f () = 0 := by
    intro l f
    induction l with
    | nil => simp [fB, eY]
    | cons x l ih =>
      show (bif decide ((bO x (a.length : Int) : Int) ≠ 0) then bO x (a.length : Int) else each (fQ a) (eY f) l ()) = 0 ↔ _
      by_cases h : bO x (a.length : Int) = 0
      · rw [dF (by omega), cond_false, ih]
        have := (yP _ _).1 h
        simp [this]
      · rw [dT h, cond_true]
        have h2 : ¬ iP a.length x := fun e => h ((yP _ _).2 e)
        simp [h, h2]
  have k2 : ∀ l : List (List Val), each (gN a) fT l () = 0 ↔ ∀ c ∈ l, (1 ≤ c.length ∧ c.length ≤ 4) ∧ ∀ v ∈ c, iP a.length v := by
    intro l
    induction l with
    | nil => simp [fB, fT]
    | cons x l ih =>
      show (bif (decide (((x.length : Int) : Int) = 0) || decide ((4 : Int) < (x.length : Int))) then 2 else each (fQ a) (eY (each (gN a) fT l)) x ()) = 0 ↔ _
      by_cases h : 1 ≤ x.length ∧ x.length ≤ 4
      · rw [show (decide (((x.length : Int) : Int) = 0) || decide ((4 : Int) < (x.length : Int))) = false by simp only [Bool.or_eq_false_iff, decide_eq_false_iff_not]; omega, cond_false, k1, ih]
        simp [h]
      · rw [show (decide (((x.length : Int) : Int) = 0) || decide ((4 : Int) < (x.length : Int))) = true by simp only [Bool.or_eq_true, decide_eq_true_eq]; omega, cond_true]
        simp [h]
  unfold cz mQ
  by_cases h : a.length ≤ 24
  · rw [dF (by omega), cond_false, k2]; simp [h]
  · rw [dT (by omega), cond_true]; simp [h]
structure yQ (a : List bV) (n : Nat) (f : LX.Frame) (x : bV) : Prop where
  proc : idx a f.proc = some x
  at_ : 0 ≤ f.at_ ∧ f.at_ < x.code.length
  regs : (f.regs.length : Int) = x.regs
  vals : ∀ v ∈ f.regs, iP n v
def iD (a : List bV) (n : Nat) : Int → List LX.Frame → Prop
  | _, [] => True
  | ahead, f :: l => (∃ x, yQ a n f x) ∧ (0 ≤ f.kI ∧ f.kI < ahead) ∧ iD a n f.regs.length l
structure Fw (a : List bV) (s : LX.State) : Prop where
  status : 0 ≤ s.status ∧ s.status ≤ 3
  bQ : -1000000000 ≤ s.bQ ∧ s.bQ ≤ 1000000000
  stay : s.status ≠ 3 → s.bQ = 0
  ended : s.status = 1 ↔ s.frames = []
  many : s.frames.length ≤ 10
  cells : mQ s.cells
  frames : iD a s.cells.length 1 s.frames
end Go.Proofs.YtfclkapelkhlpaaGreatDoor
namespace Go.Proofs.YtfclkapelkhlpaaGreatDoor
open Go Go.Proofs Go.LX
def ahead (pre : List LX.Frame) : Int := match pre.getLast? with | none => 1 | some f => f.regs.length
theorem F8 : ahead [] = 1 := rfl
theorem ED (pre : List LX.Frame) (f : LX.Frame) : ahead (pre ++ [f]) = f.regs.length := by simp [ahead]
theorem Cu (b : LX.State) (f : LX.Frame) (n1 : Unit → Option Int) (n2 : Int → Option Int) (hn : n1 () = n2 f.regs.length) : ∀ l : List Val, each (kY b) (kZ n1) l () = each (ko b) (kr n2 f) l ()
  | [] => hn
  | x :: l => by
    show (bif decide ((bO x (b.cells.length : Int) : Int) ≠ 0) then some (bO x (b.cells.length : Int)) else each (kY b) (kZ n1) l ()) = (bif decide ((dx x (b.cells.length : Int) : Int) ≠ 0) then some (dx x (b.cells.length : Int)) else each (ko b) (kr n2 f) l ())
    rw [Ju, Cu b f n1 n2 hn l]
theorem Jw (b : LX.State) (n1 : Unit → Option Int) (Q : Prop) (hn : ∃ y, n1 () = some y ∧ (y = 0 ↔ Q)) : ∀ l : List Val, ∃ y, each (kY b) (kZ n1) l () = some y ∧ (y = 0 ↔ (∀ v ∈ l, iP b.cells.length v) ∧ Q)
  | [] => by obtain ⟨y, h1, h2⟩ := hn; exact ⟨y, h1, by simp [h2]⟩
  | x :: l => by
    obtain ⟨y, h1, h2⟩ := Jw b n1 Q hn l
    have e : each (kY b) (kZ n1) (x :: l) () = (bif decide ((bO x (b.cells.length : Int) : Int) ≠ 0) then some (bO x (b.cells.length : Int)) else each (kY b) (kZ n1) l ()) := rfl
    rw [e]
    by_cases h : bO x (b.cells.length : Int) = 0
    · rw [dF (by omega), cond_false]
      have := (yP _ _).1 h
      exact ⟨y, h1, by rw [h2]; simp [this]⟩
    · rw [dT h, cond_true]
      refine ⟨_, rfl, ?_⟩
      have h3 : ¬ iP b.cells.length x := fun e => h ((yP _ _).2 e)
      simp [h, h3]
theorem CV (a : List bV) (b : LX.State) (hm : b.frames.length ≤ 10) : ∀ (l pre : List LX.Frame), b.frames = pre ++ l →
    eX (oH a b) qL (pre.length : Int) l () = each (dO a b) gD l (ahead pre)
  | [], pre, h => rfl
  | f :: l, pre, h => by
    have ih := CV a b hm l (pre ++ [f]) (by simpa using h)
    rw [ED] at ih
    have hi : (((pre ++ [f]).length : Nat) : Int) = (pre.length : Int) + 1 := by simp
    rw [hi] at ih
    rw [jc, df]
    generalize eX (oH a b) qL ((pre.length : Int) + 1) l = K1 at ih ⊢
    generalize each (dO a b) gD l = K2 at ih ⊢
    unfold oH dO
    have hl : pre.length ≤ 10 := by have := congrArg List.length h; simp at this; omega
    have e1 : (decide ((f.proc : Int) < 0) || decide (((a.length : Int) : Int) ≤ f.proc)) = !aN f.proc (a.length : Int) := Bu _ _
    rw [e1]
    cases hp : aN f.proc (a.length : Int) with
    | false => rfl
    | true =>
      simp only [Bool.not_true, cond_false]
      cases hx : idx a f.proc with
      | none => rfl
      | some x =>
        simp only [bnd]
        cases ha : aN f.at_ (x.code.length : Int) with
        | false =>
          rw [show (((decide ((f.at_ : Int) < 0) || decide (((x.code.length : Int) : Int) ≤ f.at_)) || decide ((f.kI : Int) < 0)) || (decide ((pre.length : Int) = 0) && decide ((f.kI : Int) ≠ 0))) = true by
            have := Bu f.at_ (x.code.length : Int)
            rw [ha] at this
            rw [this]; rfl]
          rfl
        | true =>
          have h3 := Bu f.at_ (x.code.length : Int)
          rw [ha] at h3
          rw [h3]
          simp only [Bool.not_true, Bool.false_or, cond_false]
          have key : ∀ t, oG f x b K1 t = eQ a f b K2 t := by
            intro t
            unfold oG eQ
            rw [hx, bnd, Cu b f _ _ ih]
          simp only [key]
          rcases List.eq_nil_or_concat pre with rfl | ⟨q, g, rfl⟩
          · rw [F8]
            by_cases ht : f.kI = 0
            · rw [show (decide ((f.kI : Int) < 0) || (decide ((([] : List LX.Frame).length : Int) = 0) && decide ((f.kI : Int) ≠ 0))) = false by simp [ht], cond_false, dF (by simp), cond_false, show (!aN f.kI 1) = false by simp [ht, aN]]
            · rw [show (decide ((f.kI : Int) < 0) || (decide ((([] : List LX.Frame).length : Int) = 0) && decide ((f.kI : Int) ≠ 0))) = true by simp [ht], cond_true, show (!aN f.kI 1) = true by simp [aN]; omega]
          · rw [List.concat_eq_append] at *
            rw [ED]
            have hlen : ((q ++ [g]).length : Int) = (q.length : Int) + 1 := by simp
            rw [hlen, show (decide ((q.length : Int) + 1 = 0)) = false from dF (by omega), Bool.false_and, Bool.or_false]
            by_cases ht : f.kI < 0
            · rw [dT ht, cond_true, show (!aN f.kI (g.regs.length : Int)) = true by simp [aN]; omega]
            · rw [dF ht, cond_false, dT (by omega), cond_true, gI (by omega) (by simp at hl; omega), show (q.length : Int) + 1 - 1 = ((q.length : Nat) : Int) by omega, oz, h]
              simp only [List.append_assoc, List.getElem?_append_right (Nat.le_refl _), Nat.sub_self, List.cons_append, List.nil_append, List.getElem?_cons_zero, bnd]
              congr 1
              rw [Bool.eq_iff_iff]; simp [aN]; omega
theorem EE (a : List bV) (b : LX.State) : uP a b = mP a b := by
  unfold uP mP
  have e1 : (((decide ((b.status : Int) < 0) || decide ((3 : Int) < b.status)) || decide ((b.bQ : Int) < -1000000000)) || decide ((1000000000 : Int) < b.bQ)) = ((!(aR b.status 0 3)) || (!(dR b.bQ))) := by
    unfold dR aR; rw [Bool.eq_iff_iff]; simp only [Bool.or_eq_true, Bool.not_eq_true', Bool.and_eq_false_iff, decide_eq_true_eq, decide_eq_false_iff_not]; omega
  have e2 : ((decide ((b.status : Int) ≠ 3) && decide ((b.bQ : Int) ≠ 0)) || (decide ((b.status : Int) = 1) != decide (((b.frames.length : Int) : Int) = 0))) = (((decide ((b.bQ : Int) ≠ 0) && decide ((b.status : Int) ≠ 3)) || (decide ((b.status : Int) = 1) && decide ((0 : Int) < (b.frames.length : Int)))) || (decide ((b.status : Int) ≠ 1) && decide (((b.frames.length : Int) : Int) = 0))) := by
    by_cases h1 : b.status = 1 <;> by_cases h2 : b.frames.length = 0 <;> by_cases h3 : b.status = 3 <;> by_cases h4 : b.bQ = 0 <;> simp [h1, h2, h3, h4] <;> omega
  rw [e1, e2, Jv]
  by_cases h : b.frames.length ≤ 10
  · have := CV a b h b.frames [] rfl
    rw [F8] at this
    rw [← this]; rfl
  · rw [show (decide ((10 : Int) < (b.frames.length : Int))) = true from dT (by omega)]
    rfl
theorem EF (a : List bV) (b : LX.State) : ∀ (l : List LX.Frame) (t : Int), ∃ y, each (dO a b) gD l t = some y ∧ (y = 0 ↔ iD a b.cells.length t l)
  | [], t => ⟨0, rfl, by simp [iD]⟩
  | f :: l, t => by
    obtain ⟨y, h1, h2⟩ := EF a b l f.regs.length
    rw [df]
    generalize each (dO a b) gD l = K2 at h1 ⊢
    unfold dO
    cases hp : aN f.proc (a.length : Int) with
    | false =>
      refine ⟨5, rfl, ?_⟩
      have : ¬ iD a b.cells.length t (f :: l) := by
        rintro ⟨⟨x, g⟩, -, -⟩
        have := aX g.proc
        have h3 := (List.getElem?_eq_some_iff.1 this.2).1
        unfold aN at hp
        simp only [Bool.and_eq_false_iff, decide_eq_false_iff_not] at hp
        omega
      simp [this]
    | true =>
      unfold aN at hp
      simp only [Bool.and_eq_true, decide_eq_true_eq] at hp
      simp only [Bool.not_true, cond_false]
      obtain ⟨n, hn⟩ := Int.eq_ofNat_of_zero_le hp.1
      have hx : idx a f.proc = some (a[n]'(by omega)) := by rw [hn, xe (by omega)]
      generalize a[n]'(by omega) = x at hx
      rw [hx, bnd]
      have kB : ∃ y, eQ a f b K2 true = some y ∧ y ≠ 0 := ⟨3, rfl, by decide⟩
      have uniq : ∀ z, yQ a b.cells.length f z → z = x := fun z g => by have := g.proc; rw [hx] at this; exact (Option.some.inj this).symm
      cases ha : aN f.at_ (x.code.length : Int) with
      | false =>
        obtain ⟨y, g1, g2⟩ := kB
        refine ⟨y, g1, ?_⟩
        have : ¬ iD a b.cells.length t (f :: l) := by
          rintro ⟨⟨z, g⟩, -, -⟩
          have := uniq z g; subst this
          have := g.at_
          unfold aN at ha
          simp only [Bool.and_eq_false_iff, decide_eq_false_iff_not] at ha
          omega
        simp [this, g2]
      | true =>
        simp only [Bool.not_true, cond_false]
        cases ht : aN f.kI t with
        | false =>
          obtain ⟨y, g1, g2⟩ := kB
          refine ⟨y, g1, ?_⟩
          have : ¬ iD a b.cells.length t (f :: l) := by
            rintro ⟨⟨z, g⟩, h3, -⟩
            unfold aN at ht
            simp only [Bool.and_eq_false_iff, decide_eq_false_iff_not] at ht
            omega
          simp [this, g2]
        | true =>
          simp only [Bool.not_true]
          unfold eQ
          rw [hx, cond_false, bnd]
          unfold aN at ha ht
          simp only [Bool.and_eq_true, decide_eq_true_eq] at ha ht
          by_cases hr : (f.regs.length : Int) = x.regs
          · rw [dF (by omega), cond_false, ← Cu b f (fun _ => K2 f.regs.length) _ rfl]
            obtain ⟨z, g1, g2⟩ := Jw b (fun _ => K2 f.regs.length) _ ⟨y, h1, h2⟩ f.regs
            refine ⟨z, g1, g2.trans ⟨fun h => ⟨⟨x, hx, ha, hr, h.1⟩, ht, h.2⟩, ?_⟩⟩
            rintro ⟨⟨z, g⟩, h3, h4⟩
            exact ⟨g.vals, h4⟩
          · rw [dT (by omega), cond_true]
            refine ⟨4, rfl, ?_⟩
            have : ¬ iD a b.cells.length t (f :: l) := by
              rintro ⟨⟨z, g⟩, -, -⟩
              have := uniq z g; subst this
              exact hr g.regs
            simp [this]
theorem EG (a : List bV) (b : LX.State) : ∃ y, uP a b = some y ∧ (y = 0 ↔ Fw a b) := by
  rw [EE]
  unfold mP
  cases c1 : ((!(aR b.status 0 3)) || (!(dR b.bQ))) with
  | true =>
    refine ⟨3, rfl, ⟨fun h => absurd h (by decide), fun h => ?_⟩⟩
    unfold dR aR at c1
    simp only [Bool.or_eq_true, Bool.not_eq_true', Bool.and_eq_false_iff, decide_eq_false_iff_not] at c1
    have := h.status; have := h.bQ; omega
  | false =>
    unfold dR aR at c1
    simp only [Bool.or_eq_false_iff, Bool.not_eq_false', Bool.and_eq_true, decide_eq_true_eq] at c1
    rw [cond_false]
    cases c2 : (((decide ((b.bQ : Int) ≠ 0) && decide ((b.status : Int) ≠ 3)) || (decide ((b.status : Int) = 1) && decide ((0 : Int) < (b.frames.length : Int)))) || (decide ((b.status : Int) ≠ 1) && decide (((b.frames.length : Int) : Int) = 0))) with
    | true =>
      refine ⟨4, rfl, ⟨fun h => absurd h (by decide), fun h => ?_⟩⟩
      simp only [Bool.or_eq_true, Bool.and_eq_true, decide_eq_true_eq] at c2
      rcases c2 with (c2 | c2) | c2
      · exact absurd (h.stay c2.2) c2.1
      · have := h.ended.1 c2.1; rw [this] at c2; simp at c2
      · exact absurd (h.ended.2 (List.eq_nil_of_length_eq_zero (by omega))) c2.1
    | false =>
      simp only [Bool.or_eq_false_iff, Bool.and_eq_false_iff, decide_eq_false_iff_not] at c2
      rw [cond_false]
      by_cases hm : b.frames.length ≤ 10
      · rw [dF (by omega), cond_false, Jv]
        by_cases hc : cz b.cells = 0
        · rw [dF (by omega), cond_false]
          obtain ⟨y, h1, h2⟩ := EF a b b.frames 1
          refine ⟨y, h1, h2.trans ⟨fun h => ⟨by omega, by omega, fun h3 => by omega, ⟨fun h3 => ?_, fun h3 => ?_⟩, hm, (KT _).1 hc, h⟩, fun h => h.frames⟩⟩
          · exact List.eq_nil_of_length_eq_zero (by omega)
          · rw [h3] at c2; simp at c2; omega
        · rw [dT hc, cond_true]
          exact ⟨_, rfl, ⟨fun h => absurd h hc, fun h => absurd ((KT _).2 h.cells) hc⟩⟩
      · rw [dT (by omega), cond_true]
        exact ⟨2, rfl, ⟨fun h => absurd h (by decide), fun h => absurd h.many hm⟩⟩
def M9 (a : List bV) (s : LX.State) : Int := (uP a s).getD 0
theorem UJ (a : List bV) (s : LX.State) : uP a s = some (M9 a s) := by obtain ⟨y, h, -⟩ := EG a s; unfold M9; rw [h]; rfl
theorem HZ {a : List bV} {s : LX.State} : M9 a s = 0 ↔ Fw a s := by obtain ⟨y, h, h2⟩ := EG a s; unfold M9; rw [h]; exact h2
theorem CW (a : List bV) (s : LX.State) : wJ a s = some (if M8 a ≠ 0 then M8 a else M9 a s) := by
  unfold wJ
  rw [PS, bnd]
  by_cases h : M8 a = 0
  · rw [dF (by omega), cond_false, UJ, bnd, if_neg (by omega)]
  · rw [dT h, cond_true, if_pos h]
end Go.Proofs.YtfclkapelkhlpaaGreatDoor
namespace Go.Proofs.YtfclkapelkhlpaaGreatDoor
open Go Go.Proofs Go.LX
theorem PT (a b : List Val) : iM a b = some (decide (a = b)) := by
  unfold iM
  by_cases h : a.length = b.length
  · rw [dF (by omega)]
    simp only [cond_false, Int.toNat_natCast]
    rw [FK (fun x y => decide (x = y)) a b h rfl (fun i x y nx h1 h2 => by
      unfold kH
      rw [oz, oz, h1, h2]
      obtain ⟨k, n⟩ := x; obtain ⟨k2, n2⟩ := y
      by_cases e : k = k2 <;> by_cases e2 : n = n2 <;> simp [e, e2]), AV (fun _ _ => rfl)]
  · rw [dT (by omega)]
    have : a ≠ b := fun e => h (by rw [e])
    rw [dF this]; rfl
theorem Ru (a b : List (List Val)) : zw a b = some (decide (a = b)) := by
  unfold zw
  by_cases h : a.length = b.length
  · rw [dF (by omega), cond_false, DN (fun x y => decide (x = y)) a b h rfl (fun i x y nx h2 => by
      unfold uB
      rw [oz, h2, bnd, PT, bnd]
      by_cases e : x = y <;> simp [e]), AV (fun _ _ => rfl)]
  · rw [dT (by omega)]
    have : a ≠ b := fun e => h (by rw [e])
    rw [dF this]; rfl
theorem Xk (x y : LX.Frame) (nx : Unit → Option Bool) : (bif ((decide ((x.proc : Int) = y.proc) && decide ((x.at_ : Int) = y.at_)) && decide ((x.kI : Int) = y.kI)) then (iM x.regs y.regs).bind fun y39 => qf nx (!y39) else qf nx true) = bif decide (x = y) then nx () else some false := by
  obtain ⟨p, t, r, o⟩ := x; obtain ⟨p2, t2, r2, o2⟩ := y
  simp only [PT, bnd, qf]
  by_cases e1 : p = p2 <;> by_cases e2 : t = t2 <;> by_cases e3 : r = r2 <;> by_cases e4 : o = o2 <;> simp [e1, e2, e3, e4]
theorem Xl (a b : LX.State) : decide (a = b) = ((decide (a.status = b.status) && decide (a.bQ = b.bQ)) && (decide (a.cells = b.cells) && decide (a.frames = b.frames))) := by
  obtain ⟨f, c, s, w⟩ := a; obtain ⟨f2, c2, s2, w2⟩ := b
  rw [Bool.eq_iff_iff]; simp; constructor <;> (intro h; simp [h])
theorem LV (a b : LX.State) : xK a b = some (decide (a = b)) := by
  rw [Xl]
  unfold xK
  cases (decide ((a.status : Int) = b.status) && decide ((a.bQ : Int) = b.bQ)) with
  | false => rfl
  | true =>
    rw [cond_true, Ru, bnd]
    cases decide (a.cells = b.cells) with
    | false => rfl
    | true =>
      rw [cond_true]
      by_cases h : a.frames.length = b.frames.length
      · rw [dF (by omega), cond_false, DN (fun x y => decide (x = y)) a.frames b.frames h rfl (fun i x y nx h2 => by
          unfold vC
          rw [oz, h2, bnd]
          exact Xk x y nx), AV (fun _ _ => rfl)]; rfl
      · rw [dT (by omega)]
        have : a.frames ≠ b.frames := fun e => h (by rw [e])
        rw [dF this]; rfl
structure Small (s : LX.State) : Prop where
  frames : s.frames.length ≤ 10
  regs : ∀ f ∈ s.frames, f.regs.length ≤ 40
  cells : s.cells.length ≤ 24
  fields : ∀ c ∈ s.cells, c.length ≤ 4
theorem qR {a : List bV} {n : Nat} : ∀ {l : List LX.Frame} {t : Int}, iD a n t l → ∀ f ∈ l, ∃ x, yQ a n f x
  | [], _, _, f, hf => by cases hf
  | g :: l, t, h, f, hf => by
    rcases List.mem_cons.1 hf with rfl | hf
    · exact h.1
    · exact qR h.2.2 f hf
theorem yO.mem {a : List bV} (h : yO a) {k : Int} {x : bV} (hx : idx a k = some x) : x ∈ a ∧ (0 ≤ x.params ∧ x.params ≤ 3) ∧ (1 ≤ x.regs ∧ x.params ≤ x.regs ∧ x.regs ≤ 40) ∧ rQ x := by
  have h1 := (aX hx).2
  have := h.head _ x h1
  exact ⟨List.mem_of_getElem? h1, this.1, this.2.1, this.2.2.2⟩
theorem Fw.small {a : List bV} {s : LX.State} (h : Fw a s) (ha : yO a) : Small s where
  frames := h.many
  regs f hf := by
    obtain ⟨x, g⟩ := qR h.frames f hf
    have := (ha.mem g.proc).2.2.1
    have := g.regs
    omega
  cells := h.cells.1
  fields c hc := (h.cells.2 c hc).1.2
theorem Bv {α : Type} {bytes : Nat} {a : List α} (h : a.length ≤ 400) (hb : bytes ≤ 48) : clone bytes a = some a := by
  have : a.length * bytes ≤ 400 * 48 := Nat.mul_le_mul h hb
  unfold clone
  exact rX ⟨by simp; omega, by simp; omega⟩
theorem Cv {ρ : Type} {body : Int → Unit → (Unit → ρ) → ρ} {k : Unit → ρ} : ∀ (m : Nat) (i : Nat), (∀ j : Nat, i ≤ j → j < i + m → ∀ nx, body (j : Int) () nx = nx ()) → upto body k (i : Int) m () = k ()
  | 0, i, _ => rfl
  | m + 1, i, h => by
    rw [Ct, h i (Nat.le_refl _) (by omega), show ((i : Int) + 1) = ((i + 1 : Nat) : Int) by omega]
    exact Cv m (i + 1) (fun j h1 h2 => h j (by omega) (by omega))
theorem Jy {l : List (List Val)} (h : l.length ≤ 24) (hf : ∀ c ∈ l, c.length ≤ 4) : zq l = some l := by
  unfold zq
  rw [Bv (by omega) (by decide), bnd, Int.toNat_natCast]
  exact Cv (k := uw l) l.length 0 (fun j h1 h2 nx => by
    unfold uu
    rw [xe (by omega), bnd, Bv (by have := hf _ (List.getElem_mem (by omega : j < l.length)); omega) (by decide), bnd])
theorem copy_eq {s : LX.State} (h : Small s) : Dx s = some s := by
  unfold Dx
  rw [Bv (by have := h.frames; omega) (by decide), bnd, Jy h.cells h.fields, bnd]
  unfold Ag
  rw [Int.toNat_natCast]
  exact Cv (k := xG s s.cells) s.frames.length 0 (fun j h1 h2 nx => by
    unfold xE
    rw [xe (by omega), bnd, Bv (by have := h.regs _ (List.getElem_mem (by omega : j < s.frames.length)); omega) (by decide), bnd])
theorem room_le {α : Type} {bytes : Nat} {l m : List α} (h : l.length + m.length ≤ 100000) (hb : bytes ≤ 48) : Room bytes l m := by
  have : (l.length + m.length) * bytes ≤ 100000 * 48 := Nat.mul_le_mul h hb
  exact ⟨by omega, by omega⟩
end Go.Proofs.YtfclkapelkhlpaaGreatDoor
namespace Go.Proofs.YtfclkapelkhlpaaGreatDoor
open Go Go.Proofs Go.LX
def Bw (l : List Int) (v : Val) : List Int := if v.kind = 2 ∧ v.n ∉ l then l ++ [v.n] else l
def Bz (l : List Int) (vs : List Val) : List Int := vs.foldl Bw l
def cellAt (cells : List (List Val)) (k : Int) : List Val := (idx cells k).getD []
def Fx (cells : List (List Val)) : Nat → Nat → List Int → List Int
  | 0, _, l => l
  | m + 1, k, l => if h : k < l.length then Fx cells m (k + 1) (Bz l (cellAt cells l[k])) else l
def yR (cells : List (List Val)) (vs : List Val) : List Int := Fx cells 25 0 (Bz [] vs)
theorem zx (l : List Int) (v : Val) (vs : List Val) : Bz l (v :: vs) = Bz (Bw l v) vs := rfl
theorem PU (l : List Int) (v : Val) : l <+: Bw l v := by
  unfold Bw; split
  · exact List.prefix_append _ _
  · exact List.prefix_refl _
theorem yS : ∀ (vs : List Val) (l : List Int), l <+: Bz l vs
  | [], l => List.prefix_refl _
  | v :: vs, l => (PU l v).trans (yS vs _)
theorem LW (cells : List (List Val)) : ∀ (m k : Nat) (l : List Int), l <+: Fx cells m k l
  | 0, _, l => List.prefix_refl _
  | m + 1, k, l => by
    unfold Fx; split
    · exact (yS _ _).trans (LW cells m _ _)
    · exact List.prefix_refl _
theorem F9 : ∀ (n : Nat) (l : List Int), l.Nodup → (∀ x ∈ l, 0 ≤ x ∧ x < n) → l.length ≤ n
  | 0, l, _, h => by
    cases l with
    | nil => simp
    | cons x l => have := h x (by simp); omega
  | n + 1, l, hn, h => by
    have h1 := F9 n (l.erase (n : Int)) (hn.erase _) (fun x hx => by
      have h2 := (hn.mem_erase_iff).1 hx
      have := h x h2.2
      have h3 := h2.1
      constructor
      · omega
      · push_cast at this; omega)
    have h4 : l.length ≤ (l.erase (n : Int)).length + 1 := by rw [List.length_erase]; split <;> omega
    omega
def nK (n : Nat) (l : List Int) : Prop := l.Nodup ∧ ∀ x ∈ l, 0 ≤ x ∧ x < n
theorem nK.len {n : Nat} {l : List Int} (h : nK n l) : l.length ≤ n := F9 n l h.1 h.2
theorem nK.nil {n : Nat} : nK n [] := ⟨List.nodup_nil, fun x hx => by cases hx⟩
theorem iP.ref {n : Nat} {v : Val} (h : iP n v) (hk : v.kind = 2) : 0 ≤ v.n ∧ v.n < n := by unfold iP at h; omega
theorem nK.v {n : Nat} {l : List Int} (h : nK n l) {v : Val} (hv : iP n v) : nK n (Bw l v) := by
  unfold Bw; split
  · rename_i hc
    refine ⟨List.nodup_append.2 ⟨h.1, by simp, fun a ha b hb => ?_⟩, fun x hx => ?_⟩
    · simp at hb; subst hb; intro e; subst e; exact hc.2 ha
    · rcases List.mem_append.1 hx with hx | hx
      · exact h.2 x hx
      · simp at hx; subst hx; exact hv.ref hc.1
  · exact h
theorem nK.l {n : Nat} : ∀ {vs : List Val} {l : List Int}, nK n l → (∀ v ∈ vs, iP n v) → nK n (Bz l vs)
  | [], l, h, _ => h
  | v :: vs, l, h, hv => nK.l (vs := vs) (l := Bw l v) (h.v (hv v (by simp))) (fun w hw => hv w (List.mem_cons_of_mem _ hw))
theorem Ai {cells : List (List Val)} {k : Int} (h : 0 ≤ k ∧ k < cells.length) : idx cells k = some (cellAt cells k) ∧ cellAt cells k ∈ cells := by
  obtain ⟨n, rfl⟩ := Int.eq_ofNat_of_zero_le h.1
  unfold cellAt
  rw [xe (by omega)]
  exact ⟨rfl, List.getElem_mem _⟩
theorem mQ.at {cells : List (List Val)} (h : mQ cells) {k : Int} (hk : 0 ≤ k ∧ k < cells.length) : (1 ≤ (cellAt cells k).length ∧ (cellAt cells k).length ≤ 4) ∧ ∀ v ∈ cellAt cells k, iP cells.length v := h.2 _ (Ai hk).2
theorem nK.Fx {cells : List (List Val)} (hc : mQ cells) : ∀ {m k : Nat} {l : List Int}, nK cells.length l → nK cells.length (Fx cells m k l)
  | 0, _, l, h => h
  | m + 1, k, l, h => by
    unfold Proofs.YtfclkapelkhlpaaGreatDoor.Fx; split
    · rename_i hk
      exact nK.Fx hc (h.l (hc.at (h.2 _ (List.getElem_mem hk))).2)
    · exact h
def je (vs : List Val) (l : List Int) : Prop := ∀ v ∈ vs, v.kind = 2 → v.n ∈ l
theorem je.pre {vs : List Val} {l m : List Int} (h : je vs l) (hp : l <+: m) : je vs m := fun v hv hk => hp.subset (h v hv hk)
theorem Rv (l : List Int) (v : Val) (hk : v.kind = 2) : v.n ∈ Bw l v := by
  unfold Bw; split
  · simp
  · rename_i hc
    exact Decidable.not_not.1 (fun h => hc ⟨hk, h⟩)
theorem H5 : ∀ (vs : List Val) (l : List Int), je vs (Bz l vs)
  | [], l, v, hv, _ => by cases hv
  | w :: vs, l, v, hv, hk => by
    rw [zx]
    rcases List.mem_cons.1 hv with rfl | hv
    · exact (yS vs _).subset (Rv l v hk)
    · exact H5 vs _ v hv hk
theorem PV {cells : List (List Val)} (hc : mQ cells) : ∀ {m k : Nat} {l : List Int}, nK cells.length l → cells.length < k + m → (∀ j (hj : j < l.length), j < k → je (cellAt cells l[j]) l) → ∀ x ∈ Fx cells m k l, je (cellAt cells x) (Fx cells m k l)
  | 0, k, l, h, hm, hj, x, hx => by
    have := h.len
    obtain ⟨j, h1, rfl⟩ := List.getElem_of_mem hx
    exact hj j h1 (by have h1' : j < l.length := h1; omega)
  | m + 1, k, l, h, hm, hj, x, hx => by
    unfold Proofs.YtfclkapelkhlpaaGreatDoor.Fx at hx ⊢
    split at hx
    · rename_i hk
      rw [dif_pos hk]
      have hv := (hc.at (h.2 _ (List.getElem_mem hk))).2
      have hp := yS (cellAt cells l[k]) l
      refine PV hc (h.l hv) (by omega) (fun j h1 h2 => ?_) x hx
      by_cases e : j < l.length
      · have e1 : (Bz l (cellAt cells l[k]))[j] = l[j] := (hp.getElem e).symm
        rw [e1]
        by_cases e2 : j < k
        · exact (hj j e e2).pre hp
        · have : j = k := by omega
          subst this
          exact H5 _ _
      · omega
    · rename_i hk
      rw [dif_neg hk]
      obtain ⟨j, h1, rfl⟩ := List.getElem_of_mem hx
      exact hj j h1 (by omega)
theorem PW {cells : List (List Val)} (hc : mQ cells) {vs : List Val} (hv : ∀ v ∈ vs, iP cells.length v) : nK cells.length (yR cells vs) ∧ je vs (yR cells vs) ∧ ∀ x ∈ yR cells vs, je (cellAt cells x) (yR cells vs) := by
  have h0 : nK cells.length (Bz [] vs) := nK.nil.l hv
  refine ⟨nK.Fx hc h0, (H5 vs []).pre (LW _ _ _ _), PV hc h0 (by have := hc.1; omega) (fun j h1 h2 => absurd h2 (Nat.not_lt_zero _))⟩
theorem H6 {α : Type} (k k' : Int) (v : α) : ∀ l : List (Int × α), lk k (xk k' v l) = if k = k' then some v else lk k l
  | [] => by unfold xk lk; by_cases h : k = k' <;> simp [h, lk]
  | p :: l => by
    unfold xk
    by_cases h : k' = p.1
    · rw [if_pos h]
      show (if k = p.1 then some v else lk k l) = if k = k' then some v else (if k = p.1 then some p.2 else lk k l)
      by_cases e : k = p.1
      · rw [if_pos e, if_pos (by omega)]
      · rw [if_neg e, if_neg (by omega), if_neg e]
    · rw [if_neg h]
      show (if k = p.1 then some p.2 else lk k (xk k' v l)) = if k = k' then some v else (if k = p.1 then some p.2 else lk k l)
      by_cases e : k = p.1
      · rw [if_pos e, if_pos e, if_neg (by omega)]
      · rw [if_neg e, if_neg e, H6 k k' v l]
def Seen (l : List Int) (m : List (Int × Bool)) : Prop := ∀ k, (lk k m).getD false = decide (k ∈ l)
theorem Seen.nil : Seen [] [] := fun k => rfl
theorem Seen.put {l : List Int} {m : List (Int × Bool)} (h : Seen l m) (n : Int) : Seen (l ++ [n]) (xk n true m) := by
  intro k
  rw [H6]
  by_cases e : k = n
  · simp [e]
  · rw [if_neg e, h k, Bool.eq_iff_iff]; simp [e]
theorem BA {ρ : Type} {body : Val → List Int × List (Int × Bool) → (List Int × List (Int × Bool) → Option ρ) → Option ρ} {K : List Int × List (Int × Bool) → Option ρ}
    (hb : ∀ x l m nx, l.length ≤ 1000 → body x (l, m) nx = bif (decide (x.kind = 2) && (!((lk x.n m).getD false))) then nx (l ++ [x.n], xk x.n true m) else nx (l, m)) :
    ∀ (vs : List Val) (l : List Int) (m : List (Int × Bool)), Seen l m → l.length + vs.length ≤ 1000 → ∃ m', Seen (Bz l vs) m' ∧ each body K vs (l, m) = K (Bz l vs, m')
  | [], l, m, h, _ => ⟨m, h, rfl⟩
  | v :: vs, l, m, h, hl => by
    simp only [List.length_cons] at hl
    rw [df, hb v l m _ (by omega), h v.n, zx]
    unfold Bw
    by_cases hc : v.kind = 2 ∧ v.n ∉ l
    · rw [if_pos hc, dT hc.1, dF hc.2, Bool.true_and, Bool.not_false, cond_true]
      exact BA hb vs _ _ (h.put v.n) (by simp; omega)
    · rw [if_neg hc, show (decide (v.kind = 2) && !decide (v.n ∈ l)) = false by rw [Bool.and_eq_false_iff]; simp; simp only [not_and, Decidable.not_not] at hc; by_cases e : v.kind = 2 <;> simp [e, hc], cond_false]
      exact BA hb vs _ _ h (by omega)
theorem Jz {cells : List (List Val)} (hc : mQ cells) : ∀ (m N k : Nat) (l : List Int) (s : List (Int × Bool)), nK cells.length l → Seen l s → cells.length < k + m → m < N → k ≤ l.length → again (kg cells) N ((k : Int), l, s) = some (Fx cells m k l, 0)
  | m, 0, k, l, s, h, hs, hm, hN, hk => by omega
  | 0, N + 1, k, l, s, h, hs, hm, hN, hk => by have := h.len; omega
  | m + 1, N + 1, k, l, s, h, hs, hm, hN, hk => by
    rw [xL]
    unfold kg Proofs.YtfclkapelkhlpaaGreatDoor.Fx
    simp only
    have hl := h.len
    have hn := hc.1
    by_cases hlt : k < l.length
    · rw [dT (by omega), cond_true, xe hlt, bnd, dif_pos hlt]
      have hr := h.2 _ (List.getElem_mem hlt)
      have hv := hc.at hr
      rw [(Ai hr).1, bnd]
      have e0 : (fun (s : Int × List Int × List (Int × Bool)) (Jn : Int × List Int × List (Int × Bool) → Option (List Int × Int)) => match s with | (Em, zm, Ih) => bif decide ((Em : Int) < (zm.length : Int)) then (idx zm Em).bind fun XW => (idx cells XW).bind fun x87 => each lT (lU Em Jn) x87 (zm, Ih) else some (zm, 0)) = kg cells := rfl
      rw [e0]
      obtain ⟨s', h1, h2⟩ := BA (body := lT) (K := lU (k : Int) (again (kg cells) N)) (fun x l m nx hl => by
        unfold lT
        simp only [qN]
        cases (decide (x.kind = 2) && (!((lk x.n m).getD false))) with
        | false => rfl
        | true => rw [cond_true, cond_true, rX (room_le (by simp; omega) (by decide))]) (cellAt cells l[k]) l s hs (by have := hv.1.2; omega)
      rw [h2]
      unfold lU
      simp only
      rw [gI (by omega) (by omega)]
      have hp := (yS (cellAt cells l[k]) l).length_le
      exact Jz hc m N (k + 1) _ s' (h.l hv.2) h1 (by omega) (by omega) (by omega)
    · rw [dF (by omega), cond_false, dif_neg hlt]
theorem PX {N : Nat} (hN : 100 ≤ N) {cells : List (List Val)} (hc : mQ cells) {vs : List Val} (hv : ∀ v ∈ vs, iP cells.length v) (hl : vs.length ≤ 400) : xH N cells vs = some (yR cells vs, 0) := by
  unfold xH
  rw [(KT cells).2 hc, dF (by simp), cond_false, dF (by omega), cond_false]
  have k1 : ∀ l : List Val, (∀ v ∈ l, iP cells.length v) → each (nZ cells) (lV N cells vs) l () = lV N cells vs () := by
    intro l
    induction l with
    | nil => intro _; rfl
    | cons x l ih =>
      intro h
      rw [df]
      unfold nZ
      rw [(yP _ _).2 (h x (by simp)), dF (by simp), cond_false]
      exact ih (fun v hv => h v (List.mem_cons_of_mem _ hv))
  rw [k1 vs hv]
  unfold lV
  obtain ⟨s', h1, h2⟩ := BA (body := nY) (K := qO N cells) (fun x l m nx hl => by
    unfold nY
    simp only [qM]
    cases (decide (x.kind = 2) && (!((lk x.n m).getD false))) with
    | false => rfl
    | true => rw [cond_true, cond_true, rX (room_le (by simp; omega) (by decide))]) vs [] [] Seen.nil (by simp; omega)
  rw [h2]
  exact Jz hc 25 N 0 _ s' (nK.nil.l hv) h1 (by have := hc.1; omega) (by omega) (by omega)
end Go.Proofs.YtfclkapelkhlpaaGreatDoor
namespace Go.Proofs.YtfclkapelkhlpaaGreatDoor
open Go Go.Proofs Go.LX
def ren (l : List Int) (v : Val) : Val := if v.kind = 2 then ⟨v.kind, (l.idxOf v.n : Nat)⟩ else v
def JA (l : List Int) (f : LX.Frame) : LX.Frame := { f with regs := f.regs.map (ren l) }
def roots (fr : List LX.Frame) : List Val := fr.flatMap (·.regs)
def qU (s : LX.State) : List Int := yR s.cells (roots s.frames)
def lv (s : LX.State) : LX.State := ⟨s.frames.map (JA (qU s)), (qU s).map (fun k => (cellAt s.cells k).map (ren (qU s))), s.status, s.bQ⟩
structure Fy (s : LX.State) : Prop where
  small : Small s
  cells : mQ s.cells
  vals : ∀ f ∈ s.frames, ∀ v ∈ f.regs, iP s.cells.length v
theorem Fw.sw {a : List bV} {s : LX.State} (h : Fw a s) (ha : yO a) : Fy s where
  small := h.small ha
  cells := h.cells
  vals f hf := by obtain ⟨x, g⟩ := qR h.frames f hf; exact g.vals
theorem Fy.roots {s : LX.State} (h : Fy s) : ∀ v ∈ roots s.frames, iP s.cells.length v := by
  intro v hv
  unfold YtfclkapelkhlpaaGreatDoor.roots at hv
  obtain ⟨f, hf, hv⟩ := List.mem_flatMap.1 hv
  exact h.vals f hf v hv
theorem Na (fr : List LX.Frame) (h : ∀ f ∈ fr, f.regs.length ≤ 40) : (roots fr).length ≤ 40 * fr.length := by
  induction fr with
  | nil => simp [roots]
  | cons f l ih =>
    have := h f (by simp)
    have := ih (fun g hg => h g (List.mem_cons_of_mem _ hg))
    unfold roots at *
    rw [List.flatMap_cons, List.length_append, List.length_cons]; omega
theorem Fy.Xm {s : LX.State} (h : Fy s) : (YtfclkapelkhlpaaGreatDoor.roots s.frames).length ≤ 400 := by
  have := Na s.frames h.small.regs
  have := h.small.frames
  omega
theorem Fy.reach {s : LX.State} (h : Fy s) : nK s.cells.length (qU s) ∧ je (YtfclkapelkhlpaaGreatDoor.roots s.frames) (qU s) ∧ ∀ x ∈ qU s, je (cellAt s.cells x) (qU s) := PW h.cells h.roots
theorem JB {α ρ : Type} {body : Int → List α → (List α → Option ρ) → Option ρ} {K : List α → Option ρ} {g : α → α} {P : α → Prop}
    (hb : ∀ (i : Nat) (x : List α) a nx, x[i]? = some a → P a → body (i : Int) x nx = nx (x.set i (g a))) :
    ∀ (l2 l1 : List α), (∀ a ∈ l2, P a) → upto body K (l1.length : Int) l2.length (l1 ++ l2) = K (l1 ++ l2.map g)
  | [], l1, _ => by simp [upto]
  | a :: l2, l1, h => by
    rw [List.length_cons, Ct, hb l1.length (l1 ++ a :: l2) a _ (by simp) (h a (by simp))]
    have := JB (K := K) hb l2 (l1 ++ [g a]) (fun b hb => h b (List.mem_cons_of_mem _ hb))
    rw [show (l1 ++ a :: l2).set l1.length (g a) = (l1 ++ [g a]) ++ l2 by simp, show ((l1.length : Int) + 1) = ((l1 ++ [g a]).length : Nat) by simp, this]
    simp
theorem Cw {α ρ : Type} {body : Int → List α → (List α → Option ρ) → Option ρ} {K : List α → Option ρ} {g : α → α} {P : α → Prop}
    (hb : ∀ (i : Nat) (x : List α) a nx, x[i]? = some a → P a → body (i : Int) x nx = nx (x.set i (g a))) (l : List α) (hp : ∀ a ∈ l, P a) : upto body K 0 l.length l = K (l.map g) := by
  have := JB (K := K) hb l [] hp
  simpa using this
def EH (l : List Int) (m : List (Int × Int)) : Prop := ∀ k, lk k m = if k ∈ l then some ((l.idxOf k : Nat) : Int) else none
theorem LY {l : List Int} {m : List (Int × Int)} (h : EH l m) (vs : List Val) (hr : je vs l) : En vs m = some (vs.map (ren l)) := by
  unfold En
  rw [Int.toNat_natCast]
  refine Cw (P := fun v => v.kind = 2 → v.n ∈ l) (fun i x a nx hx hp => ?_) vs (fun v hv => hr v hv)
  unfold zu zt
  rw [oz, hx, bnd]
  by_cases hk : a.kind = 2
  · rw [dT hk, cond_true, h a.n, if_pos (hp hk)]
    simp [ren, hk]
  · rw [dF hk, cond_false]
    have : x.set i a = x := by
      obtain ⟨h1, rfl⟩ := List.getElem?_eq_some_iff.1 hx
      exact List.set_getElem_self h1
    simp [ren, hk, this]
theorem EI {s : LX.State} (hc : mQ s.cells) {K : List (List Val) × List Int × List (Int × Int) → Option LX.State} : ∀ (l2 l1 : List Int) (m : List (Int × Int)), nK s.cells.length (l1 ++ l2) → EH l1 m →
    ∃ m', EH (l1 ++ l2) m' ∧ eX (mO s) K (l1.length : Int) l2 (l1.map (cellAt s.cells), l1, m) = K ((l1 ++ l2).map (cellAt s.cells), l1 ++ l2, m')
  | [], l1, m, _, h => ⟨m, by simpa using h, by simp [eX]⟩
  | k :: l2, l1, m, hm, h => by
    have e1 : l1 ++ k :: l2 = (l1 ++ [k]) ++ l2 := by simp
    have hk : k ∉ l1 := by
      intro hk
      exact (List.nodup_append.1 hm.1).2.2 k hk k (by simp) rfl
    have hl := hm.len
    have hn := hc.1
    simp only [List.length_append, List.length_cons] at hl
    have hr := hm.2 k (by simp)
    rw [jc]
    obtain ⟨m', h1, h2⟩ := EI hc (K := K) l2 (l1 ++ [k]) (xk k (l1.length : Int) m) (by rw [← e1]; exact hm) (fun q => by
      rw [H6]
      by_cases e : q = k
      · subst e
        rw [if_pos rfl, if_pos (by simp), List.idxOf_append, if_neg hk]
        simp
      · rw [if_neg e, h q]
        by_cases hq : q ∈ l1
        · rw [if_pos hq, if_pos (by simp [hq]), List.idxOf_append, if_pos hq]
        · rw [if_neg hq, if_neg (by simp [hq, e])])
    refine ⟨m', by rw [e1]; exact h1, ?_⟩
    have hlen : (((l1 ++ [k]).length : Nat) : Int) = (l1.length : Int) + 1 := by simp
    rw [hlen] at h2
    rw [e1, ← h2]
    generalize eX (mO s) K ((l1.length : Int) + 1) l2 = K1
    unfold mO
    simp only
    rw [(Ai hr).1, bnd, rX hk, rX (room_le (by simp; omega) (by decide)), List.map_append]
    rfl
theorem H7 {l : List Int} {m : List (Int × Int)} (h : EH l m) (K : List LX.Frame → Option LX.State) (fr : List LX.Frame) (hr : ∀ f ∈ fr, je f.regs l) : upto (qP m) K 0 fr.length fr = K (fr.map (JA l)) :=
  Cw (P := fun f => je f.regs l) (fun i x a nx hx hp => by
    unfold qP
    rw [oz, hx, bnd, LY h a.regs hp, bnd]
    simp [JA]) fr hr
theorem JC {l : List Int} {m : List (Int × Int)} (h : EH l m) (K : List (List Val) → Option LX.State) (cs : List (List Val)) (hr : ∀ c ∈ cs, je c l) : upto (sS m) K 0 cs.length cs = K (cs.map (fun c => c.map (ren l))) :=
  Cw (P := fun c => je c l) (fun i x a nx hx hp => by
    unfold sS
    rw [oz, hx, bnd, LY h a hp, bnd]
    simp) cs hr
theorem Ga {K : List Val → Option LX.State} : ∀ (fr : List LX.Frame) (acc : List Val), acc.length + (roots fr).length ≤ 1000 → each oJ K fr acc = K (acc ++ roots fr)
  | [], acc, _ => by simp [fB, roots]
  | f :: fr, acc, h => by
    have e : roots (f :: fr) = f.regs ++ roots fr := rfl
    rw [e, List.length_append] at h
    rw [df]
    have ih := Ga (K := K) fr (acc ++ f.regs) (by simp; omega)
    generalize each oJ K fr = K1 at ih ⊢
    unfold oJ
    rw [rX (room_le (by omega) (by decide)), ih, e, List.append_assoc]
theorem JD {fr : List LX.Frame} {l : List Int} (h : je (roots fr) l) : ∀ f ∈ fr, je f.regs l := fun f hf v hv hk => h v (List.mem_flatMap.2 ⟨f, hf, hv⟩) hk
theorem BB {N : Nat} (hN : 100 ≤ N) {s : LX.State} (h : Fy s) : sU N s = some (lv s) := by
  have hr := h.reach
  unfold sU
  rw [Ga s.frames [] (by have := h.Xm; simp; omega), List.nil_append]
  unfold uA
  rw [PX hN h.cells h.roots h.Xm, bnd, dF (by simp), cond_false, copy_eq h.small, bnd]
  have e : yR s.cells (roots s.frames) = qU s := rfl
  simp only [e]
  obtain ⟨m', h1, h2⟩ := EI h.cells (K := oI s) (qU s) [] [] (by simpa using hr.1) (fun k => by simp [lk])
  have h2' : eX (mO s) (oI s) 0 (qU s) ([], ([] : List Int), ([] : List (Int × Int))) = _ := h2
  rw [h2']
  simp only [List.nil_append] at h1 ⊢
  unfold oI
  simp only [Int.toNat_natCast]
  rw [H7 h1 _ _ (JD hr.2.1)]
  unfold uz
  rw [Int.toNat_natCast, JC h1 _ _ (fun c hc => by
    obtain ⟨k, hk, rfl⟩ := List.mem_map.1 hc
    exact hr.2.2 k hk)]
  unfold uy lv
  rw [List.map_map]; rfl
end Go.Proofs.YtfclkapelkhlpaaGreatDoor
namespace Go.Proofs.YtfclkapelkhlpaaGreatDoor
open Go Go.Proofs Go.LX
theorem iP.int {n : Nat} {v : Val} (h : iP n v) (hk : v.kind = 1) : -1000000000 ≤ v.n ∧ v.n ≤ 1000000000 := by unfold iP at h; omega
end Go.Proofs.YtfclkapelkhlpaaGreatDoor
namespace Go.Proofs.YtfclkapelkhlpaaGreatDoor
open Go Go.Proofs Go.LX
theorem zQ {a : List bV} {n : Nat} {f : LX.Frame} : ∀ {l : List LX.Frame} {t : Int}, iD a n t (l ++ [f]) ↔ iD a n t l ∧ (∃ x, yQ a n f x) ∧ (0 ≤ f.kI ∧ f.kI < (match l.getLast? with | none => t | some g => g.regs.length))
  | [], t => by simp [iD]
  | g :: l, t => by
    show ((∃ x, yQ a n g x) ∧ (0 ≤ g.kI ∧ g.kI < t) ∧ iD a n g.regs.length (l ++ [f])) ↔ _
    rw [zQ (l := l)]
    have e : (match (g :: l).getLast? with | none => t | some g => ((g.regs.length : Int))) = (match l.getLast? with | none => ((g.regs.length : Int)) | some g => (g.regs.length : Int)) := by
      rw [List.getLast?_cons]
      cases l.getLast? <;> rfl
    rw [e]
    simp only [iD, and_assoc]
structure LZ (a : List bV) (pre : List LX.Frame) (f : LX.Frame) (cells : List (List Val)) (x : bV) (c : Ins) : Prop where
  fr : yQ a cells.length f x
  ins : idx x.code f.at_ = some c
  good : xZ a x.regs x.code.length c
  chain : iD a cells.length 1 pre
  kI : 0 ≤ f.kI ∧ f.kI < ahead pre
  many : pre.length + 1 ≤ 10
  cok : mQ cells
  proc : (1 ≤ x.regs ∧ x.regs ≤ 40) ∧ rQ x
theorem LZ.sw {a : List bV} {pre : List LX.Frame} {f : LX.Frame} {cells : List (List Val)} {x : bV} {c : Ins} (ha : yO a) (h : LZ a pre f cells x c) {st wh : Int} {g : LX.Frame} (hg : yQ a cells.length g x) : Fy ⟨pre ++ [g], cells, st, wh⟩ where
  small := ⟨by have := h.many; simp; omega, fun k hk => by
    rcases List.mem_append.1 hk with hk | hk
    · obtain ⟨y, hy⟩ := qR h.chain k hk
      have := hy.regs
      have := (ha.mem hy.proc).2.2.1
      omega
    · simp at hk; subst hk
      have := hg.regs
      have := h.proc.1
      omega, h.cok.1, fun c hc => (h.cok.2 c hc).1.2⟩
  cells := h.cok
  vals k hk := by
    rcases List.mem_append.1 hk with hk | hk
    · obtain ⟨y, hy⟩ := qR h.chain k hk
      exact hy.vals
    · simp at hk; subst hk; exact hg.vals
end Go.Proofs.YtfclkapelkhlpaaGreatDoor
namespace Go.Proofs.YtfclkapelkhlpaaGreatDoor
open Go Go.Proofs Go.LX
theorem iP.up {n m : Nat} {v : Val} (h : iP n v) (hm : n ≤ m) : iP m v := by unfold iP at *; omega
theorem yQ.up {a : List bV} {n m : Nat} {f : LX.Frame} {x : bV} (h : yQ a n f x) (hm : n ≤ m) : yQ a m f x := ⟨h.proc, h.at_, h.regs, fun v hv => (h.vals v hv).up hm⟩
theorem CX {a : List bV} {n m : Nat} (hm : n ≤ m) : ∀ {l : List LX.Frame} {t : Int}, iD a n t l → iD a m t l
  | [], _, _ => trivial
  | f :: l, t, h => by obtain ⟨⟨x, g⟩, h2, h3⟩ := h; exact ⟨⟨x, g.up hm⟩, h2, CX hm h3⟩
theorem PY {n : Nat} {l : List Int} {v : Val} (h : iP n v) (hr : v.kind = 2 → v.n ∈ l) : iP l.length (ren l v) := by
  unfold ren
  by_cases hk : v.kind = 2
  · rw [if_pos hk]
    have := List.idxOf_lt_length_of_mem (hr hk)
    unfold iP
    simp only
    omega
  · rw [if_neg hk]; unfold iP at *; omega
theorem yQ.ren {a : List bV} {n : Nat} {l : List Int} {f : LX.Frame} {x : bV} (h : yQ a n f x) (hr : je f.regs l) : yQ a l.length (JA l f) x where
  proc := h.proc
  at_ := h.at_
  regs := by unfold JA; simpa using h.regs
  vals v hv := by
    unfold JA at hv
    simp only [List.mem_map] at hv
    obtain ⟨w, hw, rfl⟩ := hv
    exact PY (h.vals w hw) (hr w hw)
theorem BC {a : List bV} {n : Nat} {r : List Int} : ∀ {l : List LX.Frame} {t : Int}, iD a n t l → (∀ f ∈ l, je f.regs r) → iD a r.length t (l.map (JA r))
  | [], _, _, _ => trivial
  | f :: l, t, h, hr => by
    obtain ⟨⟨x, g⟩, h2, h3⟩ := h
    refine ⟨⟨x, g.ren (hr f (by simp))⟩, h2, ?_⟩
    have := BC h3 (fun k hk => hr k (List.mem_cons_of_mem _ hk))
    simpa [JA] using this
theorem JE {s : LX.State} (h : Fy s) : mQ (lv s).cells := by
  have hr := h.reach
  have hl := hr.1.len
  have hn := h.cells.1
  refine ⟨by simp [lv]; omega, fun c hc => ?_⟩
  unfold lv at hc ⊢
  simp only [List.mem_map, List.length_map] at hc ⊢
  obtain ⟨k, hk, rfl⟩ := hc
  have hk2 := h.cells.at (hr.1.2 k hk)
  refine ⟨by simpa using hk2.1, fun v hv => ?_⟩
  obtain ⟨w, hw, rfl⟩ := List.mem_map.1 hv
  exact PY (hk2.2 w hw) (hr.2.2 k hk w hw)
theorem PZ {a : List bV} (ha : yO a) {s : LX.State} (h : Fw a s) : Fw a (lv s) where
  status := h.status
  bQ := h.bQ
  stay := h.stay
  ended := by rw [show (lv s).status = s.status from rfl, h.ended]; simp [lv]
  many := by simpa [lv] using h.many
  cells := JE (h.sw ha)
  frames := by
    have hr := (h.sw ha).reach
    have := BC h.frames (JD hr.2.1)
    simpa [lv] using this
theorem P5 {n : Nat} {r : List Val} {i : Nat} {v : Val} (h : ∀ w ∈ r, iP n w) (hv : iP n v) : ∀ w ∈ r.set i v, iP n w := fun w hw => by
  rcases List.mem_or_eq_of_mem_set hw with hw | rfl
  · exact h w hw
  · exact hv
section
variable {a : List bV} {pre : List LX.Frame} {f : LX.Frame} {cells : List (List Val)} {wh : Int} {x : bV} {c : Ins} {N : Nat}
theorem LZ.st (h : LZ a pre f cells x c) {g : LX.Frame} {y : bV} {cs : List (List Val)} {s w : Int} (hg : yQ a cs.length g y) (hto : g.kI = f.kI) (hc : mQ cs) (hl : cells.length ≤ cs.length) (hs : (s = 0 ∧ w = 0) ∨ (s = 3 ∧ -1000000000 ≤ w ∧ w ≤ 1000000000)) : Fw a ⟨pre ++ [g], cs, s, w⟩ where
  status := by simp only; omega
  bQ := by simp only; omega
  stay := by simp only; omega
  ended := by simp; omega
  many := by have := h.many; simp; omega
  cells := hc
  frames := zQ.2 ⟨CX hl h.chain, ⟨y, hg⟩, by rw [hto]; exact h.kI⟩
theorem yQ.put {n : Nat} {f : LX.Frame} {x : bV} (h : yQ a n f x) {i : Nat} {v : Val} (hv : iP n v) : yQ a n { f with regs := f.regs.set i v } x := ⟨h.proc, h.at_, by simpa using h.regs, P5 h.vals hv⟩
end
end Go.Proofs.YtfclkapelkhlpaaGreatDoor
namespace Go.Proofs.YtfclkapelkhlpaaGreatDoor
open Go Go.Proofs Go.LX
def JF (ρ : Int → Int) (v : Val) : Val := if v.kind = 2 then ⟨v.kind, ρ v.n⟩ else v
def P6 (ρ : Int → Int) (f : LX.Frame) : LX.Frame := { f with regs := f.regs.map (JF ρ) }
structure Sr (ρ : Int → Int) (R : List Int) (s t : LX.State) : Prop where
  frames : t.frames = s.frames.map (P6 ρ)
  status : t.status = s.status
  bQ : t.bQ = s.bQ
  roots : je (YtfclkapelkhlpaaGreatDoor.roots s.frames) R
  range : ∀ x ∈ R, 0 ≤ x ∧ x < s.cells.length
  range' : ∀ x ∈ R, 0 ≤ ρ x ∧ ρ x < t.cells.length
  inj : ∀ x ∈ R, ∀ y ∈ R, ρ x = ρ y → x = y
  cells : ∀ x ∈ R, cellAt t.cells (ρ x) = (cellAt s.cells x).map (JF ρ) ∧ je (cellAt s.cells x) R
theorem P7 (ρ : Int → Int) {v : Val} (h : v.kind = 2) : JF ρ v = ⟨v.kind, ρ v.n⟩ := if_pos h
theorem Rw (ρ : Int → Int) {v : Val} (h : v.kind ≠ 2) : JF ρ v = v := if_neg h
section
variable {ρ : Int → Int} {R : List Int} {s t : LX.State}
theorem JG (hi : ∀ x ∈ R, ∀ y ∈ R, ρ x = ρ y → x = y) {l : List Int} (hl : ∀ x ∈ l, x ∈ R) {x : Int} (hx : x ∈ R) : ρ x ∈ l.map ρ ↔ x ∈ l := by
  constructor
  · intro h
    obtain ⟨y, hy, e⟩ := List.mem_map.1 h
    rw [← hi y (hl y hy) x hx e]; exact hy
  · exact fun h => List.mem_map_of_mem h
theorem P8 (hi : ∀ x ∈ R, ∀ y ∈ R, ρ x = ρ y → x = y) {l : List Int} (hl : ∀ x ∈ l, x ∈ R) {v : Val} (hv : v.kind = 2 → v.n ∈ R) : Bw (l.map ρ) (JF ρ v) = (Bw l v).map ρ ∧ ∀ x ∈ Bw l v, x ∈ R := by
  unfold Bw
  by_cases hk : v.kind = 2
  · rw [P7 ρ hk]
    simp only [hk, true_and]
    have hm' := JG hi hl (hv hk)
    by_cases hm : v.n ∈ l
    · rw [if_neg (fun h => h (hm'.2 hm)), if_neg (fun h => h hm)]; exact ⟨rfl, hl⟩
    · rw [if_pos (fun h => hm (hm'.1 h)), if_pos hm]
      refine ⟨by simp, fun x hx => ?_⟩
      rcases List.mem_append.1 hx with hx | hx
      · exact hl x hx
      · simp at hx; subst hx; exact hv hk
  · rw [Rw ρ hk, if_neg (fun h => hk h.1), if_neg (fun h => hk h.1)]; exact ⟨rfl, hl⟩
theorem EJ (hi : ∀ x ∈ R, ∀ y ∈ R, ρ x = ρ y → x = y) : ∀ {vs : List Val} {l : List Int}, (∀ x ∈ l, x ∈ R) → je vs R → Bz (l.map ρ) (vs.map (JF ρ)) = (Bz l vs).map ρ ∧ ∀ x ∈ Bz l vs, x ∈ R
  | [], l, hl, _ => ⟨rfl, hl⟩
  | v :: vs, l, hl, hv => by
    obtain ⟨h1, h2⟩ := P8 hi hl (hv v (by simp))
    rw [List.map_cons, zx, zx, h1]
    exact EJ hi h2 (fun w hw => hv w (List.mem_cons_of_mem _ hw))
theorem Sr.Fx (h : Sr ρ R s t) : ∀ (m k : Nat) (l : List Int), (∀ x ∈ l, x ∈ R) → Fx t.cells m k (l.map ρ) = (Fx s.cells m k l).map ρ ∧ ∀ x ∈ Fx s.cells m k l, x ∈ R
  | 0, k, l, hl => ⟨rfl, hl⟩
  | m + 1, k, l, hl => by
    unfold YtfclkapelkhlpaaGreatDoor.Fx
    by_cases hk : k < l.length
    · rw [dif_pos hk, dif_pos (by simpa using hk)]
      have hx := hl _ (List.getElem_mem hk)
      have hc := h.cells _ hx
      rw [List.getElem_map, hc.1]
      obtain ⟨h1, h2⟩ := EJ h.inj hl hc.2
      rw [h1]
      exact Sr.Fx h m (k + 1) _ h2
    · rw [dif_neg hk, dif_neg (by simpa using hk)]; exact ⟨rfl, hl⟩
theorem Gb (ρ : Int → Int) : ∀ fr : List LX.Frame, YtfclkapelkhlpaaGreatDoor.roots (fr.map (P6 ρ)) = (YtfclkapelkhlpaaGreatDoor.roots fr).map (JF ρ)
  | [] => rfl
  | f :: fr => by
    have := Gb ρ fr
    unfold YtfclkapelkhlpaaGreatDoor.roots at *
    rw [List.map_cons, List.flatMap_cons, List.flatMap_cons, List.map_append, this]; rfl
theorem Sr.reach (h : Sr ρ R s t) : qU t = (qU s).map ρ ∧ ∀ x ∈ qU s, x ∈ R := by
  unfold qU yR
  rw [h.frames, Gb]
  obtain ⟨h1, h2⟩ := EJ h.inj (l := []) (fun x hx => by cases hx) h.roots
  rw [List.map_nil] at h1
  rw [h1]
  exact h.Fx 25 0 _ h2
end
end Go.Proofs.YtfclkapelkhlpaaGreatDoor
namespace Go.Proofs.YtfclkapelkhlpaaGreatDoor
open Go Go.Proofs Go.LX
section
variable {a : List bV} {ρ : Int → Int} {R : List Int} {s t : LX.State}
theorem EK {cells : List (List Val)} {k j : Int} {c : List Val} (hk : 0 ≤ k ∧ k < cells.length) (hj : 0 ≤ j ∧ j < cells.length) : cellAt (cells.set k.toNat c) j = if j = k then c else cellAt cells j := by
  obtain ⟨n, rfl⟩ := Int.eq_ofNat_of_zero_le hk.1
  obtain ⟨m, rfl⟩ := Int.eq_ofNat_of_zero_le hj.1
  unfold cellAt
  rw [Int.toNat_natCast, oz, oz, List.getElem?_set]
  by_cases e : n = m
  · subst e; rw [if_pos rfl, if_pos (by omega), if_pos rfl]; rfl
  · rw [if_neg e, if_neg (by omega)]
theorem P9 {vs : List Val} {i : Nat} {v : Val} (h : je vs R) (hv : v.kind = 2 → v.n ∈ R) : je (vs.set i v) R := fun w hw hk => by
  rcases List.mem_or_eq_of_mem_set hw with hw | rfl
  · exact h w hw hk
  · exact hv hk
theorem Sr.put (h : Sr ρ R s t) {fr : List LX.Frame} (hr : je (YtfclkapelkhlpaaGreatDoor.roots fr) R) {k : Int} (hk : k ∈ R) {i : Nat} {v : Val} (hv : v.kind = 2 → v.n ∈ R) (st wh : Int) :
    Sr ρ R ⟨fr, s.cells.set k.toNat ((cellAt s.cells k).set i v), st, wh⟩ ⟨fr.map (P6 ρ), t.cells.set (ρ k).toNat ((cellAt t.cells (ρ k)).set i (JF ρ v)), st, wh⟩ := by
  refine ⟨rfl, rfl, rfl, hr, fun x hx => by simpa using h.range x hx, fun x hx => by simpa using h.range' x hx, h.inj, fun x hx => ?_⟩
  simp only
  rw [EK (h.range' k hk) (h.range' x hx), EK (h.range k hk) (h.range x hx)]
  have hc := h.cells x hx
  by_cases e : x = k
  · subst e
    rw [if_pos rfl, if_pos rfl, hc.1, List.map_set]
    exact ⟨rfl, P9 hc.2 hv⟩
  · rw [if_neg e, if_neg (fun q => e (h.inj x hx k hk q))]
    exact hc
end
end Go.Proofs.YtfclkapelkhlpaaGreatDoor
namespace Go.Proofs.YtfclkapelkhlpaaGreatDoor
open Go Go.Proofs Go.LX
theorem at_eq (k : Int) {n : Int} (hn : 0 < n) (hb : n ≤ 1000000000) : ∃ r, qQ k n = some r ∧ 0 ≤ r ∧ r < n := by
  unfold qQ
  rw [rX hn]
  have h1 : Int.tmod k n < n := Int.tmod_lt_of_pos k hn
  have h2 : -n < Int.tmod k n := by
    have := Int.tmod_lt_of_pos (-k) hn
    rw [Int.neg_tmod] at this
    omega
  by_cases h : Int.tmod k n < 0
  · rw [dT h, cond_true, gI (by omega) (by omega)]
    exact ⟨_, rfl, by omega, by omega⟩
  · rw [dF h, cond_false]
    exact ⟨_, rfl, by omega, h1⟩
end Go.Proofs.YtfclkapelkhlpaaGreatDoor
