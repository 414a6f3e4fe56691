/-
  What the law SnapTorn needs of our own library and of the walks, no more.
-/
import Derived.Test.YtfclkapelkhlpaaGreatDoorProg
import Derived.Test.YtfclkapelkhlpaaGreatDoorSnapTornTe
set_option linter.unusedSimpArgs false
set_option linter.unusedVariables false
set_option maxRecDepth 10000
namespace Go.Proofs.YtfclkapelkhlpaaGreatDoor
open Go Go.Proofs Go.LX
noncomputable section
theorem BD : eU Tryz.prog 80 0 0 := ⟨_, _, 0, Tryz.underlying80, rfl, rfl, by kernel_rfl⟩
theorem H8 : eU Tryz.prog 80 1 1 := ⟨_, _, 0, Tryz.underlying80, rfl, rfl, by kernel_rfl⟩
theorem KU : fG Tryz.prog 13 := ⟨_, Tryz.func13, by kernel_rfl, rfl⟩
theorem Qa : fG Tryz.prog 14 := ⟨_, Tryz.func14, by kernel_rfl, rfl⟩
theorem H9 : fG Tryz.prog 15 := ⟨_, Tryz.func15, by kernel_rfl, rfl⟩
theorem UK : fG Tryz.prog 17 := ⟨_, Tryz.func17, by kernel_rfl, rfl⟩
theorem Qb : fG Tryz.prog 38 := ⟨_, Tryz.func38, by kernel_rfl, rfl⟩
theorem yT : fG Tryz.prog 41 := ⟨_, Tryz.func41, by kernel_rfl, rfl⟩
theorem EL : fG Tryz.prog 42 := ⟨_, Tryz.func42, by kernel_rfl, rfl⟩
theorem Ia : fG Tryz.prog 43 := ⟨_, Tryz.func43, by kernel_rfl, rfl⟩
theorem Qc : Struct Tryz.prog 80 [(.slice none 0 0), (.bool (false))] [(0, 1), (1, 1)] := ⟨by kernel_rfl, _, Tryz.underlying80, by kernel_rfl⟩
def oh (dC : Val) (x8 : List Int) (lq : List Int → Option (List Int)) : Option (List Int) :=
  gG (Room 8 x8 [dC.kind, dC.n]) (lq (x8 ++ [dC.kind, dC.n]))
def om (x8 : List Int) : Option (List Int) :=
  some x8
def qg (sx : List Int) (a : List Val) : Option (List Int) :=
  each oh om a sx
theorem zR (w0 : World) (M : BS) (hM : ∀ b, M b → b < w0.heap.size) (sv : Value) (sx : List Int) (hC : Chunk.holds w0 M (Chunk.own' (.own cZ 3 sv sx : Chunk)) (.own cZ 3 sv sx : Chunk)) (hap : ∀ b, Chunk.own' (.own cZ 3 sv sx : Chunk) b → ¬ M b) (va : Value) (a : List Val) (ha : eB bE w0 (fun b => M b ∨ (.own cZ 3 sv sx : Chunk).own' b) va a) (r : List Int) (hs : qg sx a = some r) :
    Calls Tryz.prog 38 #[sv, va] w0 (fun e w' => aQ (Chunk.own' (.own cZ 3 sv sx : Chunk)) w0 w' ∧ ∃ EM, e = .returned (EM) ∧ Chunk.holds w' M (Chunk.own' (.own cZ 3 EM r : Chunk)) (.own cZ 3 EM r : Chunk) ∧ (∀ b, Chunk.own' (.own cZ 3 EM r : Chunk) b → b < w0.heap.size → Chunk.own' (.own cZ 3 sv sx : Chunk) b)) := by
 refine aK (args := [sv, va]) Tryz.func38 rfl Tryz.ntmps38 (Nat.le_of_ble_eq_true rfl) ?_
 have h := SH.DK hM hC hap
 replace h := h.BP 2 ha yt
 generalize Ii : (.own cZ 3 sv sx : Chunk).own' = K0 at h
 have tC := ha.bL
 refine ai (ag (ae (aj (v := (.slice none 0 0)) rfl) (ah (aa (ai (ai (ag (ae (ak (v := va) rfl) (ae (bF dD rfl (h.mU 2 rfl)) (ae (ak (v := (.int .i64 (0))) rfl) (ah (aa (aL (fq (σ := Nat × Int × Value × List Int) (inl [0, 6, 9, 10, 11, 12, 13, 14, 15, 16, 17, 18, 19, 20]) (fun ⟨k9, i10, v7, x8⟩ => [(0, v7), (9, (.int .i64 (i10)))]) (fun ⟨k9, i10, v7, x8⟩ w => SH w0 M K0 w (hset [(1, .own cZ 3 v7 x8), (2, .rd bE va a)]) ∧ i10 = (k9 : Int) ∧ each oh om (a.drop k9) x8 = some r) (fun ⟨k9, i10, v7, x8⟩ => a.length - k9) ⟨0, 0, sv, sx⟩ ⟨rfl, rfl, trivial⟩ ?_ ?_))))))))))))))
 exact ⟨h.cn _, rfl, hs⟩
 rintro ⟨k9, i10, v7, x8⟩ w dm ⟨h, hik, hs⟩
 refine ai (ag ?_)
 refine ae (dA rfl rfl) (ah (aa ?_))
 refine ai (gH rfl (fun e14 => ?_) (fun e14 => ?_))
 refine aD (aa ?_)
 obtain ⟨dC, G9, Ha⟩ := fJ (hik ▸ e14)
 rw [Ha, df] at hs
 generalize Bf : each oh om (a.drop (k9 + 1)) = lq at hs
 have Hd := fO ((h.mU 2 rfl)).bL hik e14
 refine ai (aL (ai (ag ?_)))
 obtain ⟨b17, XR, Re, h, O0, i16⟩ := h.FD 2 3 rfl dD rfl (gZ hik) (fM hik G9)
 obtain rfl := O0
 refine ae (i16 _ _ _ _ _ _ _ _ _ rfl rfl) (ae (iF (k := 0) (vs := [(.int .i64 (dC.kind)), (.int .i64 (dC.n))]) h 3 rfl ic rfl rfl rfl (Nat.le_of_ble_eq_true rfl)) (bP h 4 ic fun w Fh h => dV (vs := [(.int .i64 (dC.kind)), (.int .i64 (dC.n))]) h 4 [(.int .i64 (dC.kind)), (.int .i64 (dC.n))] rfl ic rfl rfl rfl rfl rfl (ax rfl (ax rfl bA)) fun w h => ah (aa (ag (ae (ak (v := v7) rfl) (ae (au A8 rfl) (ae (aF h 4 rfl aV rfl rfl) (ae (au nI rfl) (ae (aF h 4 rfl aV rfl rfl) (oV (R := cZ) (vs := [(.int .i64 (dC.kind)), (.int .i64 (dC.n))]) (xs := [dC.kind, dC.n]) h 5 fP rfl rfl rfl ⟨rfl, ⟨rfl, trivial⟩⟩ rfl fun w u22 h => ?_))))))))))
 obtain ⟨a23, hs⟩ := aZ hs
 refine jg (R := cZ) (m := [dC.kind, dC.n]) h 1 rfl (h.dJ 5 rfl) fP rfl rfl rfl a23.1 a23.2 fun w u24 h => ae (aj (v := u24) rfl) (ah (az (aa (ag (ae (bY rfl rfl Hd) (ae (ak (v := (.int .i64 ((i10 + 1)))) rfl) (ah (ay ?_))))))))
 subst Bf
 exact iQ ⟨k9 + 1, i10 + 1, u24, (x8 ++ [dC.kind, dC.n])⟩ ⟨h.cn _, by omega, hs⟩ (by have := of_decide_eq_true e14; dsimp only; omega)
 rw [fK (hik ▸ e14), fB] at hs
 refine bT (aH (aH (aT (aa (ai (ag (ae (ak (v := v7) rfl) (ae (aj (v := v7) rfl) (ah (aa (aI (bI (v := v7) Tryz.results38 rfl ?_))))))))))))
 obtain rfl := Option.some.inj hs
 subst Ii
 obtain ⟨o1, o2, o3⟩ := h.zV 1 (C := (.own cZ 3 v7 x8 : Chunk)) rfl trivial
 exact ⟨o2, v7, rfl, o1, o3⟩
def uD (y6 : LX.State) (i60 : Int) (uZ : List Int) (Xn : List Int → Option (List Int × Int)) : Option (List Int × Int) :=
  (idx y6.cells i60).bind fun x66 => gG (Room 8 uZ [(x66.length : Int)]) ((qg (uZ ++ [(x66.length : Int)]) x66).bind fun XZ => Xn XZ)
def uE (uZ : List Int) : Option (List Int × Int) :=
  bif decide ((1200 : Int) < (uZ.length : Int)) then some ([], 2) else some (uZ, 0)
def qV (y6 : LX.State) (i25 : Int) (rf : List Int) (Xo : List Int → Option (List Int × Int)) : Option (List Int × Int) :=
  (idx y6.frames i25).bind fun x31 => gG (Room 8 rf [x31.proc, x31.at_, x31.kI, (x31.regs.length : Int)]) ((qg (rf ++ [x31.proc, x31.at_, x31.kI, (x31.regs.length : Int)]) x31.regs).bind fun zy => Xo zy)
def qW (y6 : LX.State) (rf : List Int) : Option (List Int × Int) :=
  gG (Room 8 rf [(y6.cells.length : Int)]) (upto (uD y6) uE 0 ((y6.cells.length : Int)).toNat (rf ++ [(y6.cells.length : Int)]))
def uG (N : Nat) (a : List bV) (b : LX.State) : Option (List Int × Int) :=
  (wJ a b).bind fun y2 => bif decide ((y2 : Int) ≠ 0) then some ([], y2) else (sU N b).bind fun y6 => upto (qV y6) (qW y6) 0 ((y6.frames.length : Int)).toNat [y6.status, y6.bQ, (y6.frames.length : Int)]
theorem yU (N : Nat) (w0 : World) (M : BS) (hM : ∀ b, M b → b < w0.heap.size) (va : Value) (a : List bV) (ha : eZ lC w0 BE M va a) (b : LX.State) (vb0 vb1 : Value) (hb0 : eZ eH w0 BE M vb0 b.frames) (hb1 : eZ (ou bE) w0 BE M vb1 b.cells) (r : List Int × Int) (hs : uG N a b = some r) :
    Calls Tryz.prog 13 #[va, (.agg #[vb0, vb1, (.int .i64 (b.status)), (.int .i64 (b.bQ))])] w0 (fun e w' => Grow w0 w' ∧ ∃ u0, e = .returned (.tuple #[u0, .int .i64 r.2]) ∧ dH cZ 3 w' M u0 r.1 ∧ (∀ b, ob u0 b → w0.heap.size ≤ b)) := by
 refine aK (args := [va, (.agg #[vb0, vb1, (.int .i64 (b.status)), (.int .i64 (b.bQ))])]) Tryz.func13 rfl Tryz.ntmps13 (Nat.le_of_ble_eq_true rfl) ?_
 have h := SH.init hM
 replace h := h.dU 1 ha aW
 replace h := h.dU 2 hb0 (bD aW)
 replace h := h.dU 3 hb1 (bD (bD aW))
 have tC := ha.bL
 refine ai (ag (pX (cs := [vb0, vb1, (.int .i64 (b.status)), (.int .i64 (b.bQ))]) h 4 rfl rfl fun w b1 h => ae (aj (v := (.slice none 0 0)) rfl) (ae (aj (v := (.int .i64 (0))) rfl) (ah (aa (ai (ai (ag (ae (ak (v := va) rfl) (ae (fA (vs := [vb0, vb1, (.int .i64 (b.status)), (.int .i64 (b.bQ))]) h 4 rfl di rfl rfl rfl) ?_))))))))))
 obtain ⟨y2, e3, hs⟩ := aM hs
 refine aO Oq rfl rfl (Ej _ _ h.lt va a (h.fV 1 rfl) b vb0 vb1 (h.fV 2 rfl) (h.fV 3 rfl) _ e3) ?_
 rintro _ w ⟨k4, rfl⟩
 refine ⟨_, rfl, ?_⟩
 replace h := h.grow k4
 refine ae (aj (v := (.int .i64 (y2))) rfl) (ah (aa (ai (ag (ae (ak (v := (.int .i64 (y2))) rfl) (ae (iH rfl rfl) (ah (aa (aJ hs rfl (fun c5 hs => ?_) (fun c5 hs => ?_))))))))))
 refine ai (ag (ae (ak (v := (.int .i64 (y2))) rfl) (ae (aj (v := (.slice none 0 0)) rfl) (ae (aj (v := (.int .i64 (y2))) rfl) (ah (aa (aI (aB (zD (v1 := (.slice none 0 0)) (v2 := (.int .i64 (y2))) Tryz.results13 rfl rfl ?_)))))))))
 obtain rfl := Option.some.inj hs
 exact ⟨h.grown, _, rfl, dH.nil, kU⟩
 refine aD (aa (ai (ag (ae (fA (vs := [vb0, vb1, (.int .i64 (b.status)), (.int .i64 (b.bQ))]) h 4 rfl di rfl rfl rfl) ?_))))
 obtain ⟨y6, e7, hs⟩ := aM hs
 refine aO G6 rfl rfl (xI N _ _ h.lt b vb0 vb1 (h.fV 2 rfl) (h.fV 3 rfl) _ e7) ?_
 rintro _ w ⟨k14, u8, Vo, X0, yG, rfl, h12, h13⟩
 refine ⟨_, rfl, ?_⟩
 replace h := h.IK 5 (C := (.two (.two (.two (.own dn.raw 49 u8 (List.zip y6.frames X0)) (.fU (cu bE 51 hn X0 (List.map dn.sub y6.frames)))) (.own (fo Val).raw 47 Vo (List.zip y6.cells yG))) (.fU (cu bE 51 hn yG (List.map (fo Val).sub y6.cells))) : Chunk)) k14 ⟨⟨⟨trivial, trivial⟩, trivial⟩, trivial⟩ h12 h13
 replace h := h.iT 5 8 (by decide) rfl rfl
 replace h := h.iT 5 7 (by decide) rfl rfl
 replace h := h.iT 5 6 (by decide) rfl rfl
 refine dV (vs := [u8, Vo, (.int .i64 (y6.status)), (.int .i64 (y6.bQ))]) h 4 [u8, Vo, (.int .i64 (y6.status)), (.int .i64 (y6.bQ))] rfl di rfl rfl rfl rfl rfl (ax (h.fF 5 rfl).one (ax (h.fF 7 rfl).one (ax rfl (ax rfl bA)))) fun w h => ah (aa (ai (ag (ae (au vz rfl) (ae (aF h 4 rfl aV rfl rfl) (ae (au xm rfl) (ae (aF h 4 rfl aV rfl rfl) (ae (au kD rfl) (ae (aF h 4 rfl qw rfl rfl) (ae (yo (N := dn) fD rfl (h.dJ 5 rfl) (h.oM 6 rfl)) (oV (R := cZ) (vs := [(.int .i64 (y6.status)), (.int .i64 (y6.bQ)), (.int .i64 ((y6.frames.length : Int)))]) (xs := [y6.status, y6.bQ, (y6.frames.length : Int)]) h 9 fP rfl rfl rfl ⟨rfl, ⟨rfl, ⟨rfl, trivial⟩⟩⟩ rfl fun w Ay h => ae (aj (v := Ay) rfl) (ah (aa (ai (ai (ag (ae (au kD rfl) (ae (aF h 4 rfl qw rfl rfl) (ae (yo (N := dn) fD rfl (h.dJ 5 rfl) (h.oM 6 rfl)) (ae (ak (v := (.int .i64 (0))) rfl) (ah ?_)))))))))))))))))))))
 refine aa (aL ?_)
 have Xp := DY (h.dJ 5 rfl) (h.oM 6 rfl)
 refine fq (σ := Nat × Int × Value × List Int) (inl [7, 9, 31, 32, 33, 34, 35, 36, 37, 38, 39, 40, 41, 42, 43, 44, 45, 46, 47, 48, 49, 50]) (fun ⟨k24, i25, v22, rf⟩ => [(7, v22), (31, (.int .i64 (i25)))]) (fun ⟨k24, i25, v22, rf⟩ w => SH w0 M BE w (hset [(4, .blk b1 [u8, Vo, (.int .i64 (y6.status)), (.int .i64 (y6.bQ))]), (5, .own dn.raw 49 u8 (List.zip y6.frames X0)), (6, .fU (cu bE 51 hn X0 (List.map dn.sub y6.frames))), (7, .own (fo Val).raw 47 Vo (List.zip y6.cells yG)), (8, .fU (cu bE 51 hn yG (List.map (fo Val).sub y6.cells))), (9, .own cZ 3 v22 rf)]) ∧ i25 = (k24 : Int) ∧ upto (qV y6) (qW y6) i25 (((y6.frames.length : Int)).toNat - k24) rf = some r) (fun ⟨k24, i25, v22, rf⟩ => ((y6.frames.length : Int)).toNat - k24) ⟨0, 0, Ay, [y6.status, y6.bQ, (y6.frames.length : Int)]⟩ ⟨rfl, rfl, trivial⟩ ?_ ?_
 exact ⟨h.cn _, rfl, hs⟩
 rintro ⟨k24, i25, v22, rf⟩ w dm ⟨h, hik, hs⟩
 refine ai (ag ?_)
 refine ae (dA rfl rfl) (ah (aa ?_))
 refine ai (gH rfl (fun e29 => ?_) (fun e29 => ?_))
 refine aD (aa ?_)
 rw [pz (by have := of_decide_eq_true e29; omega)] at hs
 generalize Xq : upto (qV y6) (qW y6) (i25 + 1) (((y6.frames.length : Int)).toNat - (k24 + 1)) = Xo at hs
 have e30r : jb (i25 + 1) := (by have := of_decide_eq_true e29; have := Xp; exact jb.mk (by omega) (by omega))
 refine ai (aL (ai (ag ?_)))
 obtain ⟨x31, e32, hs⟩ := aM hs
 obtain ⟨u36, e37, h⟩ := h.Dp 6 10 x31.regs rfl rfl (by decide) (aX e32).2 rfl
 obtain ⟨XT, q35, i33⟩ := h.Ir 5 rfl fD rfl (aX e32).1 (mf (aX e32).2 e37)
 refine ae (i33 _ _ _ _ _ _ _ _ _ rfl rfl) ?_
 obtain ⟨cs38, Uo, r40⟩ := h.Ns 5 rfl q35 (mf (aX e32).2 e37)
 obtain ⟨rfl, -⟩ := r40
 refine ae (BL (k := 0) (vs := [(.int .i64 (x31.proc)), (.int .i64 (x31.at_)), u36, (.int .i64 (x31.kI))]) Uo iW rfl rfl rfl (Nat.le_of_ble_eq_true rfl)) (bP h 11 iW fun w b41 h => dV (vs := [(.int .i64 (x31.proc)), (.int .i64 (x31.at_)), u36, (.int .i64 (x31.kI))]) h 11 [(.int .i64 (x31.proc)), (.int .i64 (x31.at_)), u36, (.int .i64 (x31.kI))] rfl iW rfl rfl rfl rfl rfl (ax rfl (ax rfl (ax (h.fF 10 rfl).one (ax rfl bA)))) fun w h => ah (aa (rW (L := (ob v22)) mixed h fun w h => bJ 0 (aQ.refl _ _) rfl aA (by kernel_rfl) (by kernel_rfl) (by kernel_rfl) (fun w hk => ak (v := v22) rfl) (bJ 1 (aQ.refl _ _) rfl aA (by kernel_rfl) (by kernel_rfl) (by kernel_rfl) (fun w hk => au xn rfl) (bJ 2 (aQ.refl _ _) rfl aA (by kernel_rfl) (by kernel_rfl) (by kernel_rfl) (fun w hk => have h := h.tX 9 rfl hk; aF h 11 rfl aV rfl rfl) (bJ 3 (aQ.refl _ _) rfl aA (by kernel_rfl) (by kernel_rfl) (by kernel_rfl) (fun w hk => au zf rfl) (bJ 4 (aQ.refl _ _) rfl aA (by kernel_rfl) (by kernel_rfl) (by kernel_rfl) (fun w hk => have h := h.tX 9 rfl hk; aF h 11 rfl aV rfl rfl) (bJ 5 (aQ.refl _ _) rfl aA (by kernel_rfl) (by kernel_rfl) (by kernel_rfl) (fun w hk => au xq rfl) (bJ 6 (aQ.refl _ _) rfl aA (by kernel_rfl) (by kernel_rfl) (by kernel_rfl) (fun w hk => have h := h.tX 9 rfl hk; aF h 11 rfl aV rfl rfl) (bJ 7 (aQ.refl _ _) rfl aA (by kernel_rfl) (by kernel_rfl) (by kernel_rfl) (fun w hk => au pI rfl) (bJ 8 (aQ.refl _ _) rfl aA (by kernel_rfl) (by kernel_rfl) (by kernel_rfl) (fun w hk => have h := h.tX 9 rfl hk; aF h 11 rfl oW rfl rfl) (bJ 9 (aQ.refl _ _) rfl aA (by kernel_rfl) (by kernel_rfl) (by kernel_rfl) (fun w hk => bF dD rfl (h.dJ 10 rfl)) (bJ 12 (aQ.refl _ _) rfl aA (by kernel_rfl) (by kernel_rfl) (by kernel_rfl) (fun w hk => au pI rfl) (bJ 13 (aQ.refl _ _) rfl aA (by kernel_rfl) (by kernel_rfl) (by kernel_rfl) (fun w hk => have h := h.tX 9 rfl hk; aF h 11 rfl oW rfl rfl) ?_))))))))))))))
 obtain ⟨Rx, Su⟩ : ∃ x, x = w := ⟨_, rfl⟩
 have Aj : aQ (ob v22) Rx w := Su ▸ aQ.refl (ob v22) w
 refine yj Su.symm (bW 10 (by kernel_rfl) rfl aA (zM (R := cZ) (vs := [(.int .i64 (x31.proc)), (.int .i64 (x31.at_)), (.int .i64 (x31.kI)), (.int .i64 ((x31.regs.length : Int)))]) (xs := [x31.proc, x31.at_, x31.kI, (x31.regs.length : Int)]) h 132 fP rfl rfl rfl ⟨rfl, ⟨rfl, ⟨rfl, ⟨rfl, trivial⟩⟩⟩⟩ rfl fun w Nb h KV KW => ?_))
 have UL : ∀ b, ob Nb b → Rx.heap.size ≤ b := fun b hb => Nat.le_trans Aj.size (KW b hb)
 replace Aj := Aj.grow KV
 refine ah (aY Aj (bW 11 (by kernel_rfl) rfl aA ?_))
 obtain ⟨Gc, hs⟩ := aZ hs
 have UM := Aj.size
 refine pF (R := cZ) (m := [x31.proc, x31.at_, x31.kI, (x31.regs.length : Int)]) h 9 rfl (h.dJ 132 rfl) fP rfl rfl rfl Gc.1 Gc.2 fun w zA h KX KY => ?_
 have EN : ∀ b, ob zA b → b < Rx.heap.size → ob v22 b := fun b hb hl => KY b hb (Nat.lt_of_lt_of_le hl (Aj).size)
 replace Aj := Aj.same KX
 refine ah (aY Aj (bW 14 (by kernel_rfl) rfl aA ?_))
 obtain ⟨KZ, UN, UO⟩ := h.l7 9 (C := (.own cZ 3 zA (rf ++ [x31.proc, x31.at_, x31.kI, (x31.regs.length : Int)]) : Chunk)) rfl trivial
 obtain ⟨zy, Nc, hs⟩ := aM hs
 have Vp := Aj.size
 refine aO Qb rfl rfl (zR _ BE (fun _ h => h.elim) zA (rf ++ [x31.proc, x31.at_, x31.kI, (x31.regs.length : Int)]) (Chunk.flatten (fun _ _ _ _ _ h => h) KZ) R8 u36 x31.regs (h.Om 9 10 (by decide) rfl rfl) _ Nc) ?_
 rintro _ w ⟨Gd, zB, rfl, Nf, Gf⟩
 refine ⟨_, rfl, ?_⟩
 replace h := h.back 9 (C := (.own cZ 3 zA (rf ++ [x31.proc, x31.at_, x31.kI, (x31.regs.length : Int)]) : Chunk)) (C' := (.own cZ 3 zB zy : Chunk)) rfl trivial (Chunk.flatten (fun _ _ _ _ _ h => h) Nf) Gd Gf
 have K3 := Gd
 have K4 := Gf
 have UQ : ∀ b, ob zB b → b < Rx.heap.size → ob v22 b := fun b hb hl => EN b (K4 b hb (Nat.lt_of_lt_of_le hl (Aj).size)) hl
 replace Aj := aQ.step Aj K3 (fun x hx hl => EN x hx hl)
 refine ah (aY Aj (bJ 15 Aj rfl aA (by kernel_rfl) (by kernel_rfl) (by kernel_rfl) (fun w hk => aj (v := zB) rfl) (jE (by kernel_rfl) (az (aa (ag (ae (bY rfl rfl e30r) (ae (ak (v := (.int .i64 ((i25 + 1)))) rfl) (ah ?_)))))))))
 replace h := h.II 6 10 rfl rfl (by decide) (aX e32).2 e37 rfl
 refine ay ?_
 subst Xq
 exact iQ ⟨k24 + 1, i25 + 1, zB, zy⟩ ⟨h.cn _, by omega, hs⟩ (by have := of_decide_eq_true e29; dsimp only; omega)
 rw [pE (by have := of_decide_eq_false e29; omega)] at hs
 refine bT (aH (aH (aT (aa (ai (ag (ae (ak (v := v22) rfl) (ae (au kE rfl) (ae (aF h 4 rfl nO rfl rfl) (ae (yo (N := (fo Val)) fe rfl (h.dJ 7 rfl) (h.oM 8 rfl)) (oV (R := cZ) (vs := [(.int .i64 ((y6.cells.length : Int)))]) (xs := [(y6.cells.length : Int)]) h 216 fP rfl rfl rfl ⟨rfl, trivial⟩ rfl fun w u48 h => ?_)))))))))))
 obtain ⟨a49, hs⟩ := aZ hs
 refine jg (R := cZ) (m := [(y6.cells.length : Int)]) h 9 rfl (h.dJ 216 rfl) fP rfl rfl rfl a49.1 a49.2 fun w u50 h => ae (aj (v := u50) rfl) (ah (aa (ai (ai (ag (ae (au kE rfl) (ae (aF h 4 rfl nO rfl rfl) (ae (yo (N := (fo Val)) fe rfl (h.dJ 7 rfl) (h.oM 8 rfl)) (ae (ak (v := (.int .i64 (0))) rfl) (ah (aa (aL ?_))))))))))))
 have Xr := DY (h.dJ 7 rfl) (h.oM 8 rfl)
 refine fq (σ := Nat × Int × Value × List Int) (inl [7, 11, 60, 61, 62, 63, 64, 65, 66, 67, 68, 69, 70, 71]) (fun ⟨Sv, i60, v57, uZ⟩ => [(7, v57), (60, (.int .i64 (i60)))]) (fun ⟨Sv, i60, v57, uZ⟩ w => SH w0 M BE w (hset [(7, .own (fo Val).raw 47 Vo (List.zip y6.cells yG)), (8, .fU (cu bE 51 hn yG (List.map (fo Val).sub y6.cells))), (9, .own cZ 3 v57 uZ)]) ∧ i60 = (Sv : Int) ∧ upto (uD y6) uE i60 (((y6.cells.length : Int)).toNat - Sv) uZ = some r) (fun ⟨Sv, i60, v57, uZ⟩ => ((y6.cells.length : Int)).toNat - Sv) ⟨0, 0, u50, (rf ++ [(y6.cells.length : Int)])⟩ ⟨rfl, rfl, trivial⟩ ?_ ?_
 exact ⟨h.cn _, rfl, hs⟩
 rintro ⟨Sv, i60, v57, uZ⟩ w dm ⟨h, hik, hs⟩
 refine ai (ag ?_)
 refine ae (dA rfl rfl) (ah (aa ?_))
 refine ai (gH rfl (fun e64 => ?_) (fun e64 => ?_))
 refine aD (aa ?_)
 rw [pz (by have := of_decide_eq_true e64; omega)] at hs
 generalize Xt : upto (uD y6) uE (i60 + 1) (((y6.cells.length : Int)).toNat - (Sv + 1)) = Xn at hs
 have e65r : jb (i60 + 1) := (by have := of_decide_eq_true e64; have := Xr; exact jb.mk (by omega) (by omega))
 refine ai (aL (ai (ag ?_)))
 obtain ⟨x66, Xu, hs⟩ := aM hs
 obtain ⟨X3, Xv, h⟩ := h.Dp 8 217 x66 rfl rfl (by decide) (aX Xu).2 rfl
 obtain ⟨b69, q70, i68⟩ := h.Ir 7 rfl fe rfl (aX Xu).1 (mf (aX Xu).2 Xv)
 refine ae (i68 _ _ _ _ _ _ _ _ _ rfl rfl) ?_
 obtain ⟨cs73, Ux, r75⟩ := h.Ns 7 rfl q70 (mf (aX Xu).2 Xv)
 obtain ⟨rfl, -⟩ := r75
 refine ae (CG (k := 0) Ux oW rfl rfl) (ae (aj (v := X3) rfl) (ah (aa (ag (ae (ak (v := v57) rfl) (ae (ak (v := X3) rfl) (ae (bF dD rfl (h.dJ 217 rfl)) (oV (R := cZ) (vs := [(.int .i64 ((x66.length : Int)))]) (xs := [(x66.length : Int)]) h 218 fP rfl rfl rfl ⟨rfl, trivial⟩ rfl fun w u76 h => ?_))))))))
 obtain ⟨a77, hs⟩ := aZ hs
 refine jg (R := cZ) (m := [(x66.length : Int)]) h 9 rfl (h.dJ 218 rfl) fP rfl rfl rfl a77.1 a77.2 fun w E5 h => ae (ak (v := X3) rfl) ?_
 obtain ⟨l79a, l79b, l79c⟩ := h.l7 9 (C := (.own cZ 3 E5 (uZ ++ [(x66.length : Int)]) : Chunk)) rfl trivial
 obtain ⟨XZ, e81, hs⟩ := aM hs
 refine aO Qb rfl rfl (zR _ BE (fun _ h => h.elim) E5 (uZ ++ [(x66.length : Int)]) (Chunk.flatten (fun _ _ _ _ _ h => h) l79a) R8 X3 x66 (h.Om 9 217 (by decide) rfl rfl) _ e81) ?_
 rintro _ w ⟨k82, Sd, rfl, Zq, h84⟩
 refine ⟨_, rfl, ?_⟩
 replace h := h.back 9 (C := (.own cZ 3 E5 (uZ ++ [(x66.length : Int)]) : Chunk)) (C' := (.own cZ 3 Sd XZ : Chunk)) rfl trivial (Chunk.flatten (fun _ _ _ _ _ h => h) Zq) k82 h84
 refine ae (aj (v := Sd) rfl) (ah (az (aa (ag (ae (bY rfl rfl e65r) (ae (ak (v := (.int .i64 ((i60 + 1)))) rfl) (ah ?_)))))))
 replace h := h.II 8 217 rfl rfl (by decide) (aX Xu).2 Xv rfl
 refine ay ?_
 subst Xt
 exact iQ ⟨Sv + 1, i60 + 1, Sd, XZ⟩ ⟨h.cn _, by omega, hs⟩ (by have := of_decide_eq_true e64; dsimp only; omega)
 rw [pE (by have := of_decide_eq_false e64; omega)] at hs
 refine bT (aH (aH (aT (aa (ai (ai (ag (ae (ak (v := v57) rfl) (ae (bF bS rfl (h.dJ 9 rfl)) (ae (iR rfl rfl) (ah (aa (aJ hs rfl (fun c86 hs => ?_) (fun c86 hs => ?_))))))))))))))
 refine ai (ag (ae (aj (v := (.slice none 0 0)) rfl) (ae (aj (v := (.int .i64 (2))) rfl) (ah (aa (aI (aB (zD (v1 := (.slice none 0 0)) (v2 := (.int .i64 (2))) Tryz.results13 rfl rfl ?_))))))))
 obtain rfl := Option.some.inj hs
 exact ⟨h.grown, _, rfl, dH.nil, kU⟩
 refine aD (aa (ai (ag (ae (ak (v := v57) rfl) (ae (aj (v := v57) rfl) (ae (aj (v := (.int .i64 (0))) rfl) (ah (aa (aI (zD (v1 := v57) (v2 := (.int .i64 (0))) Tryz.results13 rfl rfl ?_))))))))))
 obtain rfl := Option.some.inj hs
 exact ⟨h.grown, _, rfl, (h.kJ 9 rfl).1, (h.kJ 9 rfl).2⟩
def eT (sx : ib) : Option (Int × ib) :=
  bif decide (((sx.l.length : Int) : Int) = 0) then some (0, (⟨sx.l, true⟩ : ib)) else (idx sx.l 0).bind fun x2 => (sub? sx.l 1 (sx.l.length : Int)).bind fun x9 => some (x2, (⟨x9, sx.bad⟩ : ib))
theorem gF (w0 : World) (M : BS) (hM : ∀ b, M b → b < w0.heap.size) (sb : Nat) (sx : ib) (zC : Value) (hC : Chunk.holds w0 M (Chunk.own' (.blk sb [zC, (.bool (sx.bad))] : Chunk)) (.blk sb [zC, (.bool (sx.bad))] : Chunk)) (hap : ∀ b, Chunk.own' (.blk sb [zC, (.bool (sx.bad))] : Chunk) b → ¬ M b) (Qd : eB cZ w0 (fun b => M b ∨ Chunk.own' (.blk sb [zC, (.bool (sx.bad))] : Chunk) b) zC sx.l) (r : Int × ib) (hs : eT sx = some r) :
    Calls Tryz.prog 41 #[(.pointer (some ⟨sb, 0, none⟩))] w0 (fun e w' => aQ (Chunk.own' (.blk sb [zC, (.bool (sx.bad))] : Chunk)) w0 w' ∧ ∃ EM, e = .returned (.int .i64 r.1) ∧ Chunk.holds w' M (Chunk.own' (.blk sb [EM, .bool r.2.bad] : Chunk)) (.blk sb [EM, .bool r.2.bad] : Chunk) ∧ (∀ b, Chunk.own' (.blk sb [EM, .bool r.2.bad] : Chunk) b → b < w0.heap.size → Chunk.own' (.blk sb [zC, (.bool (sx.bad))] : Chunk) b) ∧ eB cZ w' (fun b => M b ∨ Chunk.own' (.blk sb [EM, .bool r.2.bad] : Chunk) b) EM r.2.l) := by
 refine aK (args := [(.pointer (some ⟨sb, 0, none⟩))]) Tryz.func41 rfl Tryz.ntmps41 (Nat.le_of_ble_eq_true rfl) ?_
 have h := SH.DK hM hC hap
 replace h := h.BP 2 Qd yt
 generalize Ii : (.blk sb [zC, (.bool (sx.bad))] : Chunk).own' = K0 at h
 refine ai (ag (ae (aj (v := (.int .i64 (0))) rfl) (ah (aa (ai (ai (ag (ae (ak (v := (.pointer (some ⟨sb, 0, none⟩))) rfl) (ae (nL rfl) (ae (au BD rfl) (ae (aF h 1 rfl qx rfl rfl) (ae (bF bS rfl (h.mU 2 rfl)) (ae (bM rfl rfl) (ah (aa (aJ hs rfl (fun c1 hs => ?_) (fun c1 hs => ?_)))))))))))))))))
 refine ai (ag (ae (ak (v := (.pointer (some ⟨sb, 0, none⟩))) rfl) (ae (nL rfl) (ae (au H8 rfl) (dX h 1 [zC, (.bool (true))] rfl vI rfl rfl rfl rfl rfl fun w h => ah (aa (ai (ag (ae (aj (v := (.int .i64 (0))) rfl) (ah (aa (aI (aB (bI (v := (.int .i64 (0))) Tryz.results41 rfl ?_))))))))))))))
 obtain rfl := Option.some.inj hs
 subst Ii
 obtain ⟨o1, o2, o3⟩ := h.zV 1 (C := (.blk sb [zC, (.bool (true))] : Chunk)) rfl trivial
 exact ⟨o2, zC, rfl, o1, o3, h.xg 1 2 rfl rfl⟩
 refine aD (aa (ai (ag (ae (ak (v := (.pointer (some ⟨sb, 0, none⟩))) rfl) (ae (nL rfl) (ae (au BD rfl) (ae (aF h 1 rfl qx rfl rfl) ?_)))))))
 obtain ⟨x2, e3, hs⟩ := aM hs
 obtain ⟨b5, o6, cs7, h, r8, i4⟩ := h.FD 2 3 rfl bS rfl (aX e3).1 (aX e3).2
 obtain rfl := r8
 refine ae (i4 _ _ _ _ _ _ _ _ _ rfl rfl) (ae (ed (k := 0) h 3 rfl aV rfl rfl) (ae (aj (v := (.int .i64 (x2))) rfl) (ah (aa (ai (ag (ae (ak (v := (.pointer (some ⟨sb, 0, none⟩))) rfl) (ae (ak (v := (.pointer (some ⟨sb, 0, none⟩))) rfl) (ae (nL rfl) (ae (au BD rfl) (ae (aF h 1 rfl qx rfl rfl) ?_)))))))))))
 obtain ⟨x9, e10, hs⟩ := aM hs
 obtain ⟨e13, Uu, Uv, e13c⟩ := Io e10
 obtain ⟨u11, h, i12⟩ := h.X6 2 4 rfl bS rfl Uu Uv e13c
 rw [← e13] at h
 refine ae (i12 _ _ _ _ _ _ _ _ _ _ rfl (.inr (congrArg some rfl)) (.inl ⟨rfl, rfl⟩)) (ae (nL rfl) (ae (au BD rfl) (dX h 1 [u11, (.bool (sx.bad))] rfl qx rfl rfl rfl rfl (h.fu 4 rfl).one fun w h => ah (aa (ai (ag (ae (ak (v := (.int .i64 (x2))) rfl) (ae (aj (v := (.int .i64 (x2))) rfl) (ah (aa (aI (bI (v := (.int .i64 (x2))) Tryz.results41 rfl ?_))))))))))))
 obtain rfl := Option.some.inj hs
 subst Ii
 obtain ⟨o1, o2, o3⟩ := h.zV 1 (C := (.blk sb [u11, (.bool (sx.bad))] : Chunk)) rfl trivial
 exact ⟨o2, u11, rfl, o1, o3, h.xg 1 4 rfl rfl⟩
def iN (sx : ib) (a : Int) : Option (Int × ib) :=
  (eT sx).bind fun y2 => bif (decide ((y2.1 : Int) < 0) || decide ((a : Int) < y2.1)) then some (0, (⟨y2.2.l, true⟩ : ib)) else some (y2.1, y2.2)
theorem ku (w0 : World) (M : BS) (hM : ∀ b, M b → b < w0.heap.size) (sb : Nat) (sx : ib) (zC : Value) (hC : Chunk.holds w0 M (Chunk.own' (.blk sb [zC, (.bool (sx.bad))] : Chunk)) (.blk sb [zC, (.bool (sx.bad))] : Chunk)) (hap : ∀ b, Chunk.own' (.blk sb [zC, (.bool (sx.bad))] : Chunk) b → ¬ M b) (Qd : eB cZ w0 (fun b => M b ∨ Chunk.own' (.blk sb [zC, (.bool (sx.bad))] : Chunk) b) zC sx.l) (a : Int) (r : Int × ib) (hs : iN sx a = some r) :
    Calls Tryz.prog 42 #[(.pointer (some ⟨sb, 0, none⟩)), (.int .i64 (a))] w0 (fun e w' => aQ (Chunk.own' (.blk sb [zC, (.bool (sx.bad))] : Chunk)) w0 w' ∧ ∃ EM, e = .returned (.int .i64 r.1) ∧ Chunk.holds w' M (Chunk.own' (.blk sb [EM, .bool r.2.bad] : Chunk)) (.blk sb [EM, .bool r.2.bad] : Chunk) ∧ (∀ b, Chunk.own' (.blk sb [EM, .bool r.2.bad] : Chunk) b → b < w0.heap.size → Chunk.own' (.blk sb [zC, (.bool (sx.bad))] : Chunk) b) ∧ eB cZ w' (fun b => M b ∨ Chunk.own' (.blk sb [EM, .bool r.2.bad] : Chunk) b) EM r.2.l) := by
 refine aK (args := [(.pointer (some ⟨sb, 0, none⟩)), (.int .i64 (a))]) Tryz.func42 rfl Tryz.ntmps42 (Nat.le_of_ble_eq_true rfl) ?_
 have h := SH.DK hM hC hap
 replace h := h.BP 2 Qd yt
 generalize Ii : (.blk sb [zC, (.bool (sx.bad))] : Chunk).own' = K0 at h
 refine ai (ag (ae (aj (v := (.int .i64 (0))) rfl) (ah (aa (ai (ag (ae (ak (v := (.pointer (some ⟨sb, 0, none⟩))) rfl) ?_)))))))
 obtain ⟨l1a, l1b, l1c⟩ := h.l7 1 (C := (.blk sb [zC, (.bool (sx.bad))] : Chunk)) rfl trivial
 obtain ⟨y2, e3, hs⟩ := aM hs
 refine aO yT rfl rfl (gF _ _ l1c sb sx zC l1a l1b (h.EY 1 2 rfl rfl) _ e3) ?_
 rintro _ w ⟨k6, u4, rfl, h7, h8, g5⟩
 refine ⟨_, rfl, ?_⟩
 replace h := h.back 1 (C := (.blk sb [zC, (.bool (sx.bad))] : Chunk)) (C' := (.blk sb [u4, (.bool (y2.2.bad))] : Chunk)) rfl trivial h7 k6 h8
 replace h := h.bG 3 (iU g5)
 refine ae (aj (v := (.int .i64 (y2.1))) rfl) (ah (aa (ai (ai (ag (ae (ak (v := (.int .i64 (y2.1))) rfl) (ae (dA rfl rfl) (ae (ak (v := (.bool (decide ((y2.1 : Int) < 0)))) rfl) (aC rfl rfl (fun q => ak (v := (.int .i64 (y2.1))) rfl) (aC rfl rfl (fun q => ak (v := (.int .i64 (a))) rfl) (aC rfl rfl (fun q => iR (cO q) (cO q)) (ae (gM rfl rfl mR) (ah (aa (aJ hs rfl (fun c9 hs => ?_) (fun c9 hs => ?_))))))))))))))))
 refine ai (ag (ae (ak (v := (.pointer (some ⟨sb, 0, none⟩))) rfl) (ae (nL rfl) (ae (au H8 rfl) (dX h 1 [u4, (.bool (true))] rfl vI rfl rfl rfl rfl rfl fun w h => ah (aa (ai (ag (ae (aj (v := (.int .i64 (0))) rfl) (ah (aa (aI (aB (bI (v := (.int .i64 (0))) Tryz.results42 rfl ?_))))))))))))))
 obtain rfl := Option.some.inj hs
 subst Ii
 obtain ⟨o1, o2, o3⟩ := h.zV 1 (C := (.blk sb [u4, (.bool (true))] : Chunk)) rfl trivial
 exact ⟨o2, u4, rfl, o1, o3, h.xg 1 3 rfl rfl⟩
 refine aD (aa (ai (ag (ae (ak (v := (.int .i64 (y2.1))) rfl) (ae (aj (v := (.int .i64 (y2.1))) rfl) (ah (aa (aI (bI (v := (.int .i64 (y2.1))) Tryz.results42 rfl ?_)))))))))
 obtain rfl := Option.some.inj hs
 subst Ii
 obtain ⟨o1, o2, o3⟩ := h.zV 1 (C := (.blk sb [u4, (.bool (y2.2.bad))] : Chunk)) rfl trivial
 exact ⟨o2, u4, rfl, o1, o3, h.xg 1 3 rfl rfl⟩
def fI (a : Int) (s : List Val × Int × List Int × Bool) (Xw : List Val × Int × List Int × Bool → Option (List Val × ib)) : Option (List Val × ib) :=
  match s with | (x20, wH, y23, y24) => bif decide ((wH : Int) < a) then (eT (⟨y23, y24⟩ : ib)).bind fun y34 => (eT y34.2).bind fun nA => gG (Room 16 x20 [(⟨y34.1, nA.1⟩ : Val)]) (gG (jb (wH + 1)) (Xw ((x20 ++ [(⟨y34.1, nA.1⟩ : Val)]), (wH + 1), nA.2.l, nA.2.bad))) else some (x20, (⟨y23, y24⟩ : ib))
def kv (N : Nat) (sx : ib) (a : Int) : Option (List Val × ib) :=
  again (fI a) N ([], 0, sx.l, sx.bad)
theorem lh (N : Nat) (w0 : World) (M : BS) (hM : ∀ b, M b → b < w0.heap.size) (sb : Nat) (sx : ib) (zC : Value) (hC : Chunk.holds w0 M (Chunk.own' (.blk sb [zC, (.bool (sx.bad))] : Chunk)) (.blk sb [zC, (.bool (sx.bad))] : Chunk)) (hap : ∀ b, Chunk.own' (.blk sb [zC, (.bool (sx.bad))] : Chunk) b → ¬ M b) (Qd : eB cZ w0 (fun b => M b ∨ Chunk.own' (.blk sb [zC, (.bool (sx.bad))] : Chunk) b) zC sx.l) (a : Int) (r : List Val × ib) (hs : kv N sx a = some r) :
    Calls Tryz.prog 43 #[(.pointer (some ⟨sb, 0, none⟩)), (.int .i64 (a))] w0 (fun e w' => aQ (Chunk.own' (.blk sb [zC, (.bool (sx.bad))] : Chunk)) w0 w' ∧ ∃ u0, ∃ EM, e = .returned (u0) ∧ Chunk.holds w' M (Chunk.own' (.blk sb [EM, .bool r.2.bad] : Chunk)) (.blk sb [EM, .bool r.2.bad] : Chunk) ∧ (∀ b, Chunk.own' (.blk sb [EM, .bool r.2.bad] : Chunk) b → b < w0.heap.size → Chunk.own' (.blk sb [zC, (.bool (sx.bad))] : Chunk) b) ∧ eB bE w' (fun b => M b ∨ Chunk.own' (.blk sb [EM, .bool r.2.bad] : Chunk) b) u0 r.1 ∧ eB cZ w' (fun b => M b ∨ Chunk.own' (.blk sb [EM, .bool r.2.bad] : Chunk) b) EM r.2.l) := by
 refine aK (args := [(.pointer (some ⟨sb, 0, none⟩)), (.int .i64 (a))]) Tryz.func43 rfl Tryz.ntmps43 (Nat.le_of_ble_eq_true rfl) ?_
 have h := SH.DK hM hC hap
 replace h := h.BP 2 Qd yt
 generalize Ii : (.blk sb [zC, (.bool (sx.bad))] : Chunk).own' = K0 at h
 refine ai (ag (ae (aj (v := (.slice none 0 0)) rfl) (ah (aa (ai (ag (ae (aj (v := (.slice none 0 0)) rfl) (ah (aa (ai (ai (ag (ae (ak (v := (.int .i64 (a))) rfl) (ae (ak (v := (.int .i64 (0))) rfl) (ah (aa (aL ?_)))))))))))))))))
 replace h := h.vG (R := bE) (E := 51) 9
 replace h := h.vg 2 10 rfl
 refine fq (σ := Nat × Value × List Val × Int × Value × List Int × Bool) (inl [5, 6, 8, 9, 10, 11, 12, 13, 14, 15, 16, 17, 18, 19]) (fun ⟨Uw, v19, x20, wH, v22, y23, y24⟩ => [(5, v19), (8, (.int .i64 (wH)))]) (fun ⟨Uw, v19, x20, wH, v22, y23, y24⟩ w => SH w0 M K0 w (hset [(1, .blk sb [v22, (.bool (y24))]), (9, .own bE 51 v19 x20), (10, .rd cZ v22 y23)]) ∧ again (fI a) Uw (x20, wH, y23, y24) = some r) (fun ⟨Uw, v19, x20, wH, v22, y23, y24⟩ => Uw) ⟨N, (.slice none 0 0), [], 0, zC, sx.l, sx.bad⟩ ⟨rfl, rfl, trivial⟩ ?_ ?_
 exact ⟨h.cn _, hs⟩
 rintro ⟨Uw, v19, x20, wH, v22, y23, y24⟩ w dm ⟨h, hs⟩
 obtain ⟨Xx, m28e, m28h⟩ := nk hs
 subst m28e
 replace hs := m28h
 generalize Xy : again (fI a) Xx = Xw at hs
 refine ai (ag (ae (dA rfl rfl) (ah (aa (ai (aJ hs rfl (fun c32 hs => ?_) (fun c32 hs => ?_)))))))
 refine aD (aa (ai (aL (ai (ag (ae (ak (v := (.pointer (some ⟨sb, 0, none⟩))) rfl) ?_))))))
 obtain ⟨l33a, l33b, l33c⟩ := h.l7 1 (C := (.blk sb [v22, (.bool (y24))] : Chunk)) rfl trivial
 obtain ⟨y34, e35, hs⟩ := aM hs
 refine aO yT rfl rfl (gF _ _ l33c sb (⟨y23, y24⟩ : ib) v22 l33a l33b (h.EY 1 10 rfl rfl) _ e35) ?_
 rintro _ w ⟨Rc, u36, rfl, h39, h40, g37⟩
 refine ⟨_, rfl, ?_⟩
 replace h := h.back 1 (C := (.blk sb [v22, (.bool (y24))] : Chunk)) (C' := (.blk sb [u36, (.bool (y34.2.bad))] : Chunk)) rfl trivial h39 Rc h40
 replace h := h.bG 11 (iU g37)
 refine ae (aj (v := (.int .i64 (y34.1))) rfl) (ah (aa (ag (ae (ak (v := v19) rfl) (ae (ak (v := (.int .i64 (y34.1))) rfl) (ae (ak (v := (.pointer (some ⟨sb, 0, none⟩))) rfl) ?_))))))
 obtain ⟨l41a, l41b, l41c⟩ := h.l7 1 (C := (.blk sb [u36, (.bool (y34.2.bad))] : Chunk)) rfl trivial
 obtain ⟨nA, e43, hs⟩ := aM hs
 refine aO yT rfl rfl (gF _ _ l41c sb y34.2 u36 l41a l41b (h.EY 1 11 rfl rfl) _ e43) ?_
 rintro _ w ⟨YM, u44, rfl, h47, h48, g45⟩
 refine ⟨_, rfl, ?_⟩
 replace h := h.back 1 (C := (.blk sb [u36, (.bool (y34.2.bad))] : Chunk)) (C' := (.blk sb [u44, (.bool (nA.2.bad))] : Chunk)) rfl trivial h47 YM h48
 replace h := h.bG 12 (iU g45)
 refine ae (eD (pv := [(0, (.int .i64 (y34.1))), (1, (.int .i64 (nA.1)))]) (out := [(.int .i64 (y34.1)), (.int .i64 (nA.1))]) Oz rfl ⟨0, 1, [(.int .i64 (y34.1))], rfl, rfl, rfl, Nat.le_of_ble_eq_true rfl, ⟨1, 1, [(.int .i64 (nA.1))], rfl, rfl, rfl, Nat.le_of_ble_eq_true rfl, rfl⟩⟩) (oV (R := bE) (vs := [(.agg #[(.int .i64 (y34.1)), (.int .i64 (nA.1))])]) (xs := [(⟨y34.1, nA.1⟩ : Val)]) h 13 vV rfl rfl rfl ⟨rfl, trivial⟩ rfl fun w u49 h => ?_)
 obtain ⟨a50, hs⟩ := aZ hs
 refine jg (R := bE) (m := [(⟨y34.1, nA.1⟩ : Val)]) h 9 rfl (h.dJ 13 rfl) vV rfl rfl rfl a50.1 a50.2 fun w u51 h => ae (aj (v := u51) rfl) (ah (az (aa (ag ?_))))
 obtain ⟨a52, hs⟩ := aZ hs
 refine ae (bY rfl rfl a52) (ae (ak (v := (.int .i64 ((wH + 1)))) rfl) (ah (ay ?_)))
 replace h := h.vg 12 10 rfl
 subst Xy
 exact iQ ⟨Xx, u51, (x20 ++ [(⟨y34.1, nA.1⟩ : Val)]), (wH + 1), u44, nA.2.l, nA.2.bad⟩ ⟨h.cn _, hs⟩
 refine bT (aH (aH (aT (aa (ai (ag (ae (ak (v := v19) rfl) (ae (aj (v := v19) rfl) (ah (aa (aI (bI (v := v19) Tryz.results43 rfl ?_))))))))))))
 replace h := h.freeze 9 rfl
 obtain rfl := Option.some.inj hs
 subst Ii
 obtain ⟨o1, o2, o3⟩ := h.zV 1 (C := (.blk sb [v22, (.bool (y24))] : Chunk)) rfl trivial
 exact ⟨o2, v19, v22, rfl, o1, o3, h.xg 1 9 rfl rfl, h.xg 1 10 rfl rfl⟩
def uQ (BF : Int) (JH : (Int × List Int × Bool × List (List Val)) → Option (LX.State × Int)) (K5 : List Int) (y150 : Bool) (y152 : List (List Val)) : Option (LX.State × Int) :=
  gG (jb (BF + 1)) (JH ((BF + 1), K5, y150, y152))
def ky (N : Nat) (mY : Int × ib) (a : List bV) (qZ : List LX.Frame) (y6 : Int × ib) (pJ : Int × ib) (s : Int × List Int × Bool × List (List Val)) (JH : Int × List Int × Bool × List (List Val) → Option (LX.State × Int)) : Option (LX.State × Int) :=
  match s with | (BF, Fz, Ak, xM) => bif decide ((BF : Int) < mY.1) then (iN (⟨Fz, Ak⟩ : ib) 4).bind fun gT => (kv N gT.2 gT.1).bind fun dE => gG (Room 24 xM [dE.1]) (uQ BF JH dE.2.l dE.2.bad (xM ++ [dE.1])) else bif (Ak || decide ((0 : Int) < (Fz.length : Int))) then some ((⟨[], [], 0, 0⟩ : LX.State), 8) else (wJ a (⟨qZ, xM, y6.1, pJ.1⟩ : LX.State)).bind fun y168 => bif decide ((y168 : Int) ≠ 0) then some ((⟨[], [], 0, 0⟩ : LX.State), y168) else (sU N (⟨qZ, xM, y6.1, pJ.1⟩ : LX.State)).bind fun rC => (xK rC (⟨qZ, xM, y6.1, pJ.1⟩ : LX.State)).bind fun Gg => bif (!Gg) then some ((⟨[], [], 0, 0⟩ : LX.State), 4) else some ((⟨qZ, xM, y6.1, pJ.1⟩ : LX.State), 0)
def jf (N : Nat) (y22 : Int × ib) (a : List bV) (y6 : Int × ib) (pJ : Int × ib) (s : Int × List Int × Bool × List LX.Frame) (Xz : Int × List Int × Bool × List LX.Frame → Option (LX.State × Int)) : Option (LX.State × Int) :=
  match s with | (Qe, zP, p9, qZ) => bif decide ((Qe : Int) < y22.1) then (eT (⟨zP, p9⟩ : ib)).bind fun JI => (eT JI.2).bind fun JX => (eT JX.2).bind fun K6 => (iN K6.2 40).bind fun Sw => (kv N Sw.2 Sw.1).bind fun y95 => gG (Room 48 qZ [(⟨JI.1, JX.1, y95.1, K6.1⟩ : LX.Frame)]) (gG (jb (Qe + 1)) (Xz ((Qe + 1), y95.2.l, y95.2.bad, (qZ ++ [(⟨JI.1, JX.1, y95.1, K6.1⟩ : LX.Frame)])))) else (iN (⟨zP, p9⟩ : ib) 24).bind fun mY => again (ky N mY a qZ y6 pJ) N (0, mY.2.l, mY.2.bad, [])
def oo (N : Nat) (a : List bV) (b : List Int) : Option (LX.State × Int) :=
  bif decide ((1200 : Int) < (b.length : Int)) then some ((⟨[], [], 0, 0⟩ : LX.State), 2) else (eT (⟨b, false⟩ : ib)).bind fun y6 => (eT y6.2).bind fun pJ => (iN pJ.2 10).bind fun y22 => again (jf N y22 a y6 pJ) N (0, y22.2.l, y22.2.bad, [])
theorem rR (N : Nat) (w0 : World) (M : BS) (hM : ∀ b, M b → b < w0.heap.size) (va : Value) (a : List bV) (ha : eZ lC w0 BE M va a) (vb : Value) (b : List Int) (hb : eB cZ w0 M vb b) (r : LX.State × Int) (hs : oo N a b = some r) :
    Calls Tryz.prog 15 #[va, vb] w0 (fun e w' => Grow w0 w' ∧ ∃ wI, ∃ Af, e = .returned (.tuple #[.agg #[wI, Af, .int .i64 r.1.status, .int .i64 r.1.bQ], .int .i64 r.2]) ∧ eB eH w' M wI r.1.frames ∧ eB (ou bE) w' M Af r.1.cells) := by
 refine aK (args := [va, vb]) Tryz.func15 rfl Tryz.ntmps15 (Nat.le_of_ble_eq_true rfl) ?_
 have h := SH.init hM
 replace h := h.dU 1 ha aW
 replace h := h.Vs 2 hb (bD aW)
 have tC := ha.bL
 have Fe := hb.bL
 refine ai (ag (bP h 3 di fun w b1 h => ae (aj (v := (.int .i64 (0))) rfl) (ah (aa (ai (ai (ag (ae (ak (v := vb) rfl) (ae (bF bS rfl (h.mU 2 rfl)) (ae (iR rfl rfl) (ah (aa (aJ hs rfl (fun c2 hs => ?_) (fun c2 hs => ?_))))))))))))))
 refine ai (ag (ae (eD (pv := []) (out := [(.slice none 0 0), (.slice none 0 0), (.int .i64 (0)), (.int .i64 (0))]) uN rfl rfl) (dV (vs := [(.slice none 0 0), (.slice none 0 0), (.int .i64 (0)), (.int .i64 (0))]) h 3 [(.slice none 0 0), (.slice none 0 0), (.int .i64 (0)), (.int .i64 (0))] rfl di rfl rfl rfl rfl rfl (ax rfl (ax rfl (ax rfl (ax rfl bA)))) fun w h => ae (aj (v := (.int .i64 (2))) rfl) (ah (aa (aI (aB (zU (vs := [(.slice none 0 0), (.slice none 0 0), (.int .i64 (0)), (.int .i64 (0))]) (v2 := (.int .i64 (2))) Tryz.results15 rfl rfl h 3 rfl di rfl ?_))))))))
 obtain rfl := Option.some.inj hs
 exact ⟨h.grown, _, _, rfl, eZ.nil, eZ.nil⟩
 refine aD (aa (ai (ag (ae (ak (v := vb) rfl) (ae (eD (pv := [(0, vb)]) (out := [vb, (.bool (false))]) Qc rfl ⟨0, 1, [vb], rfl, (ni (h.fu 2 rfl).one), rfl, Nat.le_of_ble_eq_true rfl, rfl⟩) (pX (cs := [vb, (.bool (false))]) h 4 rfl rfl fun w b3 h => ae (aj (v := (.pointer (some ⟨b3, 0, none⟩))) rfl) (ah (aa (ai (ag (ae (eD (pv := []) (out := [(.slice none 0 0), (.slice none 0 0), (.int .i64 (0)), (.int .i64 (0))]) uN rfl rfl) (bP h 5 di fun w b4 h => dV (vs := [(.slice none 0 0), (.slice none 0 0), (.int .i64 (0)), (.int .i64 (0))]) h 5 [(.slice none 0 0), (.slice none 0 0), (.int .i64 (0)), (.int .i64 (0))] rfl di rfl rfl rfl rfl rfl (ax rfl (ax rfl (ax rfl (ax rfl bA)))) fun w h => ah (aa (ai (ag (ae (ak (v := (.pointer (some ⟨b3, 0, none⟩))) rfl) ?_))))))))))))))))
 obtain ⟨l5a, l5b, l5c⟩ := h.l7 4 (C := (.blk b3 [vb, (.bool (false))] : Chunk)) rfl trivial
 obtain ⟨y6, e7, hs⟩ := aM hs
 refine aO yT rfl rfl (gF _ _ l5c b3 (⟨b, false⟩ : ib) vb l5a l5b (h.EY 4 2 rfl rfl) _ e7) ?_
 rintro _ w ⟨k10, u8, rfl, h11, h12, g9⟩
 refine ⟨_, rfl, ?_⟩
 replace h := h.back 4 (C := (.blk b3 [vb, (.bool (false))] : Chunk)) (C' := (.blk b3 [u8, (.bool (y6.2.bad))] : Chunk)) rfl trivial h11 k10 h12
 replace h := h.bG 6 (iU g9)
 refine ae (au vz rfl) (dX h 5 [(.slice none 0 0), (.slice none 0 0), (.int .i64 (y6.1)), (.int .i64 (0))] rfl aV rfl rfl rfl rfl rfl fun w h => ah (aa (ai (ag (ae (ak (v := (.pointer (some ⟨b3, 0, none⟩))) rfl) ?_)))))
 obtain ⟨l13a, l13b, l13c⟩ := h.l7 4 (C := (.blk b3 [u8, (.bool (y6.2.bad))] : Chunk)) rfl trivial
 obtain ⟨pJ, e15, hs⟩ := aM hs
 refine aO yT rfl rfl (gF _ _ l13c b3 y6.2 u8 l13a l13b (h.EY 4 6 rfl rfl) _ e15) ?_
 rintro _ w ⟨k18, u16, rfl, h19, h20, g17⟩
 refine ⟨_, rfl, ?_⟩
 replace h := h.back 4 (C := (.blk b3 [u8, (.bool (y6.2.bad))] : Chunk)) (C' := (.blk b3 [u16, (.bool (pJ.2.bad))] : Chunk)) rfl trivial h19 k18 h20
 replace h := h.bG 7 (iU g17)
 refine ae (au xm rfl) (dX h 5 [(.slice none 0 0), (.slice none 0 0), (.int .i64 (y6.1)), (.int .i64 (pJ.1))] rfl aV rfl rfl rfl rfl rfl fun w h => ah (aa (ai (ai (ag (ae (ak (v := (.pointer (some ⟨b3, 0, none⟩))) rfl) ?_))))))
 obtain ⟨l21a, l21b, l21c⟩ := h.l7 4 (C := (.blk b3 [u16, (.bool (pJ.2.bad))] : Chunk)) rfl trivial
 obtain ⟨y22, e23, hs⟩ := aM hs
 refine aO EL rfl rfl (ku _ _ l21c b3 pJ.2 u16 l21a l21b (h.EY 4 7 rfl rfl) 10 _ e23) ?_
 rintro _ w ⟨k26, u24, rfl, h27, h28, TN⟩
 refine ⟨_, rfl, ?_⟩
 replace h := h.back 4 (C := (.blk b3 [u16, (.bool (pJ.2.bad))] : Chunk)) (C' := (.blk b3 [u24, (.bool (y22.2.bad))] : Chunk)) rfl trivial h27 k26 h28
 replace h := h.bG 8 (iU TN)
 refine ae (ak (v := (.int .i64 (0))) rfl) (ah (aa (aL ?_)))
 replace h := h.vg 8 15 rfl
 replace h := h.vG (R := eH) (E := 49) 16
 refine fq (σ := Nat × Int × Value × List Int × Bool × Value × List LX.Frame) (inl [8, 26, 27, 28, 29, 30, 31, 32, 33, 34, 35, 36, 37, 38, 39, 40, 41, 42, 43, 44, 45, 46, 47, 48, 49]) (fun ⟨XA, Qe, v48, zP, p9, v51, qZ⟩ => [(26, (.int .i64 (Qe)))]) (fun ⟨XA, Qe, v48, zP, p9, v51, qZ⟩ w => SH w0 M BE w (hset [(1, .sr lC va a), (3, .blk b1 [(.slice none 0 0), (.slice none 0 0), (.int .i64 (0)), (.int .i64 (0))]), (4, .blk b3 [v48, (.bool (p9))]), (5, .blk b4 [v51, (.slice none 0 0), (.int .i64 (y6.1)), (.int .i64 (pJ.1))]), (15, .rd cZ v48 zP), (16, .own eH 49 v51 qZ)]) ∧ again (jf N y22 a y6 pJ) XA (Qe, zP, p9, qZ) = some r) (fun ⟨XA, Qe, v48, zP, p9, v51, qZ⟩ => XA) ⟨N, 0, u24, y22.2.l, y22.2.bad, (.slice none 0 0), []⟩ ⟨rfl, trivial⟩ ?_ ?_
 exact ⟨h.cn _, hs⟩
 rintro ⟨XA, Qe, v48, zP, p9, v51, qZ⟩ w dm ⟨h, hs⟩
 obtain ⟨XB, m56e, m56h⟩ := nk hs
 subst m56e
 replace hs := m56h
 generalize XC : again (jf N y22 a y6 pJ) XB = Xz at hs
 refine ai (ag (ae (dA rfl rfl) (ah (aa (ai (aJ hs rfl (fun KE hs => ?_) (fun KE hs => ?_)))))))
 refine aD (aa (ai (aL (ai (ag (ae (eD (pv := []) (out := [(.int .i64 (0)), (.int .i64 (0)), (.slice none 0 0), (.int .i64 (0))]) IV rfl rfl) (bP h 17 iW fun w b61 h => dV (vs := [(.int .i64 (0)), (.int .i64 (0)), (.slice none 0 0), (.int .i64 (0))]) h 17 [(.int .i64 (0)), (.int .i64 (0)), (.slice none 0 0), (.int .i64 (0))] rfl iW rfl rfl rfl rfl rfl (ax rfl (ax rfl (ax rfl (ax rfl bA)))) fun w h => ah (aa (ai (ag (ae (ak (v := (.pointer (some ⟨b3, 0, none⟩))) rfl) ?_)))))))))))
 obtain ⟨l62a, l62b, l62c⟩ := h.l7 4 (C := (.blk b3 [v48, (.bool (p9))] : Chunk)) rfl trivial
 obtain ⟨JI, e64, hs⟩ := aM hs
 refine aO yT rfl rfl (gF _ _ l62c b3 (⟨zP, p9⟩ : ib) v48 l62a l62b (h.EY 4 15 rfl rfl) _ e64) ?_
 rintro _ w ⟨k67, X4, rfl, h68, h69, g66⟩
 refine ⟨_, rfl, ?_⟩
 replace h := h.back 4 (C := (.blk b3 [v48, (.bool (p9))] : Chunk)) (C' := (.blk b3 [X4, (.bool (JI.2.bad))] : Chunk)) rfl trivial h68 k67 h69
 replace h := h.bG 18 (iU g66)
 refine ae (au xn rfl) (dX h 17 [(.int .i64 (JI.1)), (.int .i64 (0)), (.slice none 0 0), (.int .i64 (0))] rfl aV rfl rfl rfl rfl rfl fun w h => ah (aa (ai (ag (ae (ak (v := (.pointer (some ⟨b3, 0, none⟩))) rfl) ?_)))))
 obtain ⟨l70a, l70b, l70c⟩ := h.l7 4 (C := (.blk b3 [X4, (.bool (JI.2.bad))] : Chunk)) rfl trivial
 obtain ⟨JX, Xv, hs⟩ := aM hs
 refine aO yT rfl rfl (gF _ _ l70c b3 JI.2 X4 l70a l70b (h.EY 4 18 rfl rfl) _ Xv) ?_
 rintro _ w ⟨k75, u73, rfl, h76, h77, g74⟩
 refine ⟨_, rfl, ?_⟩
 replace h := h.back 4 (C := (.blk b3 [X4, (.bool (JI.2.bad))] : Chunk)) (C' := (.blk b3 [u73, (.bool (JX.2.bad))] : Chunk)) rfl trivial h76 k75 h77
 replace h := h.bG 19 (iU g74)
 refine ae (au zf rfl) (dX h 17 [(.int .i64 (JI.1)), (.int .i64 (JX.1)), (.slice none 0 0), (.int .i64 (0))] rfl aV rfl rfl rfl rfl rfl fun w h => ah (aa (ai (ag (ae (ak (v := (.pointer (some ⟨b3, 0, none⟩))) rfl) ?_)))))
 obtain ⟨l78a, l78b, l78c⟩ := h.l7 4 (C := (.blk b3 [u73, (.bool (JX.2.bad))] : Chunk)) rfl trivial
 obtain ⟨K6, WJ, hs⟩ := aM hs
 refine aO yT rfl rfl (gF _ _ l78c b3 JX.2 u73 l78a l78b (h.EY 4 19 rfl rfl) _ WJ) ?_
 rintro _ w ⟨Y6, X5, rfl, h84, h85, g82⟩
 refine ⟨_, rfl, ?_⟩
 replace h := h.back 4 (C := (.blk b3 [u73, (.bool (JX.2.bad))] : Chunk)) (C' := (.blk b3 [X5, (.bool (K6.2.bad))] : Chunk)) rfl trivial h84 Y6 h85
 replace h := h.bG 20 (iU g82)
 refine ae (au xq rfl) (dX h 17 [(.int .i64 (JI.1)), (.int .i64 (JX.1)), (.slice none 0 0), (.int .i64 (K6.1))] rfl aV rfl rfl rfl rfl rfl fun w h => ah (aa (ai (ag (ae (ak (v := (.pointer (some ⟨b3, 0, none⟩))) rfl) (ae (ak (v := (.pointer (some ⟨b3, 0, none⟩))) rfl) ?_))))))
 obtain ⟨l86a, l86b, l86c⟩ := h.l7 4 (C := (.blk b3 [X5, (.bool (K6.2.bad))] : Chunk)) rfl trivial
 obtain ⟨Sw, XX, hs⟩ := aM hs
 refine aO EL rfl rfl (ku _ _ l86c b3 K6.2 X5 l86a l86b (h.EY 4 20 rfl rfl) 40 _ XX) ?_
 rintro _ w ⟨k91, WZ, rfl, Zv, h93, g90⟩
 refine ⟨_, rfl, ?_⟩
 replace h := h.back 4 (C := (.blk b3 [X5, (.bool (K6.2.bad))] : Chunk)) (C' := (.blk b3 [WZ, (.bool (Sw.2.bad))] : Chunk)) rfl trivial Zv k91 h93
 replace h := h.bG 21 (iU g90)
 obtain ⟨l94a, l94b, Ug⟩ := h.l7 4 (C := (.blk b3 [WZ, (.bool (Sw.2.bad))] : Chunk)) rfl trivial
 obtain ⟨y95, Zw, hs⟩ := aM hs
 refine aO Ia rfl rfl (lh N _ _ Ug b3 Sw.2 WZ l94a l94b (h.EY 4 21 rfl rfl) Sw.1 _ Zw) ?_
 rintro _ w ⟨k101, Vg, u99, rfl, h102, h103, Zz, g100⟩
 refine ⟨_, rfl, ?_⟩
 replace h := h.back 4 (C := (.blk b3 [WZ, (.bool (Sw.2.bad))] : Chunk)) (C' := (.blk b3 [u99, (.bool (y95.2.bad))] : Chunk)) rfl trivial h102 k101 h103
 replace h := h.bG 22 (iU Zz)
 replace h := h.bG 23 (iU g100).up
 refine ae (au pI rfl) (dX h 17 [(.int .i64 (JI.1)), (.int .i64 (JX.1)), Vg, (.int .i64 (K6.1))] rfl oW rfl rfl rfl rfl (h.fu 22 rfl).one fun w h => ah (aa (ag (ae (au kD rfl) (ae (aF h 5 rfl qw rfl rfl) (ae (fA (vs := [(.int .i64 (JI.1)), (.int .i64 (JX.1)), Vg, (.int .i64 (K6.1))]) h 17 rfl iW rfl rfl rfl) (oV (R := eH) (vs := [(.agg #[(.int .i64 (JI.1)), (.int .i64 (JX.1)), Vg, (.int .i64 (K6.1))])]) (xs := [(⟨JI.1, JX.1, y95.1, K6.1⟩ : LX.Frame)]) h 24 yw rfl rfl rfl ⟨⟨_, rfl, (h.fu 22 rfl)⟩, trivial⟩ rfl fun w u104 h => ?_)))))))
 obtain ⟨a105, hs⟩ := aZ hs
 refine jg (R := eH) (m := [(⟨JI.1, JX.1, y95.1, K6.1⟩ : LX.Frame)]) h 16 rfl (h.dJ 24 rfl) yw rfl rfl rfl a105.1 a105.2 fun w Jd h => ae (au kD rfl) (dX h 5 [Jd, (.slice none 0 0), (.int .i64 (y6.1)), (.int .i64 (pJ.1))] rfl qw rfl rfl rfl rfl (h.fF 16 rfl).one fun w h => ah (az (aa (ag ?_))))
 obtain ⟨a107, hs⟩ := aZ hs
 refine ae (bY rfl rfl a107) (ae (ak (v := (.int .i64 ((Qe + 1)))) rfl) (ah (ay ?_)))
 replace h := h.vg 23 15 rfl
 subst XC
 exact iQ ⟨XB, (Qe + 1), u99, y95.2.l, y95.2.bad, Jd, (qZ ++ [(⟨JI.1, JX.1, y95.1, K6.1⟩ : LX.Frame)])⟩ ⟨h.cn _, hs⟩
 refine bT (aH (aH (aT (aa (ai (ai (ag (ae (ak (v := (.pointer (some ⟨b3, 0, none⟩))) rfl) ?_))))))))
 obtain ⟨XD, XE, XF⟩ := h.l7 4 (C := (.blk b3 [v48, (.bool (p9))] : Chunk)) rfl trivial
 obtain ⟨mY, e110, hs⟩ := aM hs
 refine aO EL rfl rfl (ku _ _ XF b3 (⟨zP, p9⟩ : ib) v48 XD XE (h.EY 4 15 rfl rfl) 24 _ e110) ?_
 rintro _ w ⟨k113, XG, rfl, h114, h115, g112⟩
 refine ⟨_, rfl, ?_⟩
 replace h := h.back 4 (C := (.blk b3 [v48, (.bool (p9))] : Chunk)) (C' := (.blk b3 [XG, (.bool (mY.2.bad))] : Chunk)) rfl trivial h114 k113 h115
 replace h := h.bG 25 (iU g112)
 refine ae (ak (v := (.int .i64 (0))) rfl) (ah (aa (aL ?_)))
 replace h := h.vg 25 32 rfl
 replace h := h.vG (R := (ou bE)) (E := 47) 33
 refine fq (σ := Nat × Int × Value × List Int × Bool × Value × List (List Val)) (inl [52, 53, 54, 55, 56, 57, 58, 59, 60, 61, 62, 63]) (fun ⟨Qf, BF, EO, Fz, Ak, v138, xM⟩ => [(52, (.int .i64 (BF)))]) (fun ⟨Qf, BF, EO, Fz, Ak, v138, xM⟩ w => SH w0 M BE w (hset [(1, .sr lC va a), (3, .blk b1 [(.slice none 0 0), (.slice none 0 0), (.int .i64 (0)), (.int .i64 (0))]), (4, .blk b3 [EO, (.bool (Ak))]), (5, .blk b4 [v51, v138, (.int .i64 (y6.1)), (.int .i64 (pJ.1))]), (16, .own eH 49 v51 qZ), (32, .rd cZ EO Fz), (33, .own (ou bE) 47 v138 xM)]) ∧ again (ky N mY a qZ y6 pJ) Qf (BF, Fz, Ak, xM) = some r) (fun ⟨Qf, BF, EO, Fz, Ak, v138, xM⟩ => Qf) ⟨N, 0, XG, mY.2.l, mY.2.bad, (.slice none 0 0), []⟩ ⟨rfl, trivial⟩ ?_ ?_
 exact ⟨h.cn _, hs⟩
 rintro ⟨Qf, BF, EO, Fz, Ak, v138, xM⟩ w dm ⟨h, hs⟩
 obtain ⟨Sy, XH, XI⟩ := nk hs
 subst XH
 replace hs := XI
 generalize UR : again (ky N mY a qZ y6 pJ) Sy = JH at hs
 refine ai (ag (ae (dA rfl rfl) (ah (aa (ai (aJ hs rfl (fun c147 hs => ?_) (fun c147 hs => ?_)))))))
 refine aD (aa (bU (σ := Value × List Int × Bool × Value × List (List Val)) (inl [54, 55, 56, 57, 58, 59, 60, 61, 62]) (fun ⟨v148, K5, y150, Qg, y152⟩ => []) (fun ⟨v148, K5, y150, Qg, y152⟩ w => SH w0 M BE w (hset [(1, .sr lC va a), (3, .blk b1 [(.slice none 0 0), (.slice none 0 0), (.int .i64 (0)), (.int .i64 (0))]), (4, .blk b3 [v148, (.bool (y150))]), (5, .blk b4 [v51, Qg, (.int .i64 (y6.1)), (.int .i64 (pJ.1))]), (16, .own eH 49 v51 qZ), (33, .own (ou bE) 47 Qg y152), (95, .rd cZ v148 K5)]) ∧ uQ BF JH K5 y150 y152 = some r) ?_ ?_))
 rintro ⟨v148, K5, y150, Qg, y152⟩ w dm ⟨h, hs⟩
 refine ag ?_
 obtain ⟨a153, hs⟩ := aZ hs
 refine ae (bY rfl rfl a153) (ae (ak (v := (.int .i64 ((BF + 1)))) rfl) (ah (ay ?_)))
 replace h := h.vg 95 32 rfl
 subst UR
 exact iQ ⟨Sy, (BF + 1), v148, K5, y150, Qg, y152⟩ ⟨h.cn _, hs⟩
 refine aL (rW (L := (fun b => b = b3 ∨ ob v138 b ∨ b = b4)) mixed h fun w h => bJ 0 (aQ.refl _ _) rfl aA (by kernel_rfl) (by kernel_rfl) (by kernel_rfl) (fun w hk => au kE rfl) (bJ 2 (aQ.refl _ _) rfl aA (by kernel_rfl) (by kernel_rfl) (by kernel_rfl) (fun w hk => ak (v := (.pointer (some ⟨b3, 0, none⟩))) rfl) (bJ 3 (aQ.refl _ _) rfl aA (by kernel_rfl) (by kernel_rfl) (by kernel_rfl) (fun w hk => ak (v := (.pointer (some ⟨b3, 0, none⟩))) rfl) ?_)))
 obtain ⟨gT, Gh, hs⟩ := aM hs
 obtain ⟨dE, Cx, hs⟩ := aM hs
 obtain ⟨qh, hs⟩ := aZ hs
 obtain ⟨BG, Qh⟩ : ∃ x, x = w := ⟨_, rfl⟩
 have dz : aQ (fun b => b = b3 ∨ ob v138 b ∨ b = b4) BG w := Qh ▸ aQ.refl (fun b => b = b3 ∨ ob v138 b ∨ b = b4) w
 refine yj Qh.symm (uJ 1 4 (by kernel_rfl) rfl aA rfl aA ?_ ?_)
 refine ae (aF h 5 rfl nO rfl rfl) (ah (aY dz (bW 4 (by kernel_rfl) rfl aA ?_)))
 obtain ⟨Al, Am, Ao⟩ := h.l7 4 (C := (.blk b3 [EO, (.bool (Ak))] : Chunk)) rfl trivial
 refine aO EL rfl rfl (ku _ _ Ao b3 (⟨Fz, Ak⟩ : ib) EO Al Am (h.EY 4 32 rfl rfl) 4 _ Gh) ?_
 rintro _ w ⟨wO, kV, rfl, Cy, Cz, CB⟩
 refine ⟨_, rfl, ?_⟩
 replace h := h.back 4 (C := (.blk b3 [EO, (.bool (Ak))] : Chunk)) (C' := (.blk b3 [kV, (.bool (gT.2.bad))] : Chunk)) rfl trivial Cy wO Cz
 replace h := h.bG 144 (iU CB)
 replace dz := aQ.step dz wO (fun _ hx _ => .inl (hx))
 refine ah (aY dz (bW 5 (by kernel_rfl) rfl aA ?_))
 obtain ⟨uR, uS, uT⟩ := h.l7 4 (C := (.blk b3 [kV, (.bool (gT.2.bad))] : Chunk)) rfl trivial
 refine aO Ia rfl rfl (lh N _ _ uT b3 gT.2 kV uR uS (h.EY 4 144 rfl rfl) gT.1 _ Cx) ?_
 rintro _ w ⟨qi, uH, oK, rfl, wP, uU, wQ, wR⟩
 refine ⟨_, rfl, ?_⟩
 replace h := h.back 4 (C := (.blk b3 [kV, (.bool (gT.2.bad))] : Chunk)) (C' := (.blk b3 [oK, (.bool (dE.2.bad))] : Chunk)) rfl trivial wP qi uU
 replace h := h.bG 156 (iU wQ)
 replace h := h.bG 157 (iU wR).up
 replace dz := aQ.step dz qi (fun _ hx _ => .inl (hx))
 refine ah (aY dz (bW 6 (by kernel_rfl) rfl aA (zM (R := (ou bE)) (vs := [uH]) (xs := [dE.1]) h 168 mW rfl rfl rfl ⟨(h.fu 156 rfl).U4, trivial⟩ rfl fun w rD h pR pU => ?_)))
 have Ap : ∀ b, ob rD b → BG.heap.size ≤ b := fun b hb => Nat.le_trans dz.size (pU b hb)
 replace dz := dz.grow pR
 refine ah (aY dz (bW 7 (by kernel_rfl) rfl aA ?_))
 have Aq := dz.size
 refine pF (R := (ou bE)) (m := [dE.1]) h 33 rfl (h.dJ 168 rfl) mW rfl rfl rfl qh.1 qh.2 fun w iO h pV pW => ?_
 have Ar : ∀ b, ob iO b → b < BG.heap.size → ob v138 b := fun b hb hl => pW b hb (Nat.lt_of_lt_of_le hl (dz).size)
 replace dz := aQ.step dz pV (fun _ hx _ => .inr (.inl (hx)))
 refine ah (aY dz (bJ 8 dz rfl aA (by kernel_rfl) (by kernel_rfl) (by kernel_rfl) (fun w hk => au kE rfl) (bW 9 (by kernel_rfl) rfl aA (tq h 5 [v51, iO, (.int .i64 (y6.1)), (.int .i64 (pJ.1))] rfl nO rfl rfl rfl rfl (h.fF 33 rfl).one fun w h rE => ?_))))
 replace dz := aQ.step dz rE (fun _ hx _ => .inr (.inr (hx)))
 refine ah (aY dz (jE (by kernel_rfl) (az (ay ?_))))
 replace h := h.vg 157 95 rfl
 exact bR (oK, dE.2.l, dE.2.bad, iO, (xM ++ [dE.1])) ⟨h.cn _, hs⟩
 obtain ⟨Al, Am, Ao⟩ := h.l7 4 (C := (.blk b3 [EO, (.bool (Ak))] : Chunk)) rfl trivial
 refine aO EL rfl rfl (ku _ _ Ao b3 (⟨Fz, Ak⟩ : ib) EO Al Am (h.EY 4 32 rfl rfl) 4 _ Gh) ?_
 rintro _ w ⟨wO, kV, rfl, Cy, Cz, CB⟩
 refine ⟨_, rfl, ?_⟩
 replace h := h.back 4 (C := (.blk b3 [EO, (.bool (Ak))] : Chunk)) (C' := (.blk b3 [kV, (.bool (gT.2.bad))] : Chunk)) rfl trivial Cy wO Cz
 replace h := h.bG 144 (iU CB)
 replace dz := aQ.step dz wO (fun _ hx _ => .inl (hx))
 refine ah (aY dz (uJ 1 5 (by kernel_rfl) rfl aA rfl aA ?_ ?_))
 refine ae (aF h 5 rfl nO rfl rfl) (ah (aY dz (bW 5 (by kernel_rfl) rfl aA ?_)))
 obtain ⟨uR, uS, uT⟩ := h.l7 4 (C := (.blk b3 [kV, (.bool (gT.2.bad))] : Chunk)) rfl trivial
 refine aO Ia rfl rfl (lh N _ _ uT b3 gT.2 kV uR uS (h.EY 4 144 rfl rfl) gT.1 _ Cx) ?_
 rintro _ w ⟨qi, uH, oK, rfl, wP, uU, wQ, wR⟩
 refine ⟨_, rfl, ?_⟩
 replace h := h.back 4 (C := (.blk b3 [kV, (.bool (gT.2.bad))] : Chunk)) (C' := (.blk b3 [oK, (.bool (dE.2.bad))] : Chunk)) rfl trivial wP qi uU
 replace h := h.bG 156 (iU wQ)
 replace h := h.bG 157 (iU wR).up
 replace dz := aQ.step dz qi (fun _ hx _ => .inl (hx))
 refine ah (aY dz (bW 6 (by kernel_rfl) rfl aA (zM (R := (ou bE)) (vs := [uH]) (xs := [dE.1]) h 168 mW rfl rfl rfl ⟨(h.fu 156 rfl).U4, trivial⟩ rfl fun w rD h pR pU => ?_)))
 have Ap : ∀ b, ob rD b → BG.heap.size ≤ b := fun b hb => Nat.le_trans dz.size (pU b hb)
 replace dz := dz.grow pR
 refine ah (aY dz (bW 7 (by kernel_rfl) rfl aA ?_))
 have Aq := dz.size
 refine pF (R := (ou bE)) (m := [dE.1]) h 33 rfl (h.dJ 168 rfl) mW rfl rfl rfl qh.1 qh.2 fun w iO h pV pW => ?_
 have Ar : ∀ b, ob iO b → b < BG.heap.size → ob v138 b := fun b hb hl => pW b hb (Nat.lt_of_lt_of_le hl (dz).size)
 replace dz := aQ.step dz pV (fun _ hx _ => .inr (.inl (hx)))
 refine ah (aY dz (bJ 8 dz rfl aA (by kernel_rfl) (by kernel_rfl) (by kernel_rfl) (fun w hk => au kE rfl) (bW 9 (by kernel_rfl) rfl aA (tq h 5 [v51, iO, (.int .i64 (y6.1)), (.int .i64 (pJ.1))] rfl nO rfl rfl rfl rfl (h.fF 33 rfl).one fun w h rE => ?_))))
 replace dz := aQ.step dz rE (fun _ hx _ => .inr (.inr (hx)))
 refine ah (aY dz (jE (by kernel_rfl) (az (ay ?_))))
 replace h := h.vg 157 95 rfl
 exact bR (oK, dE.2.l, dE.2.bad, iO, (xM ++ [dE.1])) ⟨h.cn _, hs⟩
 obtain ⟨uR, uS, uT⟩ := h.l7 4 (C := (.blk b3 [kV, (.bool (gT.2.bad))] : Chunk)) rfl trivial
 refine aO Ia rfl rfl (lh N _ _ uT b3 gT.2 kV uR uS (h.EY 4 144 rfl rfl) gT.1 _ Cx) ?_
 rintro _ w ⟨qi, uH, oK, rfl, wP, uU, wQ, wR⟩
 refine ⟨_, rfl, ?_⟩
 replace h := h.back 4 (C := (.blk b3 [kV, (.bool (gT.2.bad))] : Chunk)) (C' := (.blk b3 [oK, (.bool (dE.2.bad))] : Chunk)) rfl trivial wP qi uU
 replace h := h.bG 156 (iU wQ)
 replace h := h.bG 157 (iU wR).up
 replace dz := aQ.step dz qi (fun _ hx _ => .inl (hx))
 refine ah (aY dz (uJ 1 6 (by kernel_rfl) rfl aA rfl aA ?_ ?_))
 refine ae (aF h 5 rfl nO rfl rfl) (ah (aY dz (bW 6 (by kernel_rfl) rfl aA (zM (R := (ou bE)) (vs := [uH]) (xs := [dE.1]) h 168 mW rfl rfl rfl ⟨(h.fu 156 rfl).U4, trivial⟩ rfl fun w rD h pR pU => ?_))))
 have Ap : ∀ b, ob rD b → BG.heap.size ≤ b := fun b hb => Nat.le_trans dz.size (pU b hb)
 replace dz := dz.grow pR
 refine ah (aY dz (bW 7 (by kernel_rfl) rfl aA ?_))
 have Aq := dz.size
 refine pF (R := (ou bE)) (m := [dE.1]) h 33 rfl (h.dJ 168 rfl) mW rfl rfl rfl qh.1 qh.2 fun w iO h pV pW => ?_
 have Ar : ∀ b, ob iO b → b < BG.heap.size → ob v138 b := fun b hb hl => pW b hb (Nat.lt_of_lt_of_le hl (dz).size)
 replace dz := aQ.step dz pV (fun _ hx _ => .inr (.inl (hx)))
 refine ah (aY dz (bJ 8 dz rfl aA (by kernel_rfl) (by kernel_rfl) (by kernel_rfl) (fun w hk => au kE rfl) (bW 9 (by kernel_rfl) rfl aA (tq h 5 [v51, iO, (.int .i64 (y6.1)), (.int .i64 (pJ.1))] rfl nO rfl rfl rfl rfl (h.fF 33 rfl).one fun w h rE => ?_))))
 replace dz := aQ.step dz rE (fun _ hx _ => .inr (.inr (hx)))
 refine ah (aY dz (jE (by kernel_rfl) (az (ay ?_))))
 replace h := h.vg 157 95 rfl
 exact bR (oK, dE.2.l, dE.2.bad, iO, (xM ++ [dE.1])) ⟨h.cn _, hs⟩
 refine zM (R := (ou bE)) (vs := [uH]) (xs := [dE.1]) h 168 mW rfl rfl rfl ⟨(h.fu 156 rfl).U4, trivial⟩ rfl fun w rD h pR pU => ?_
 have Ap : ∀ b, ob rD b → BG.heap.size ≤ b := fun b hb => Nat.le_trans dz.size (pU b hb)
 replace dz := dz.grow pR
 refine ah (aY dz (bW 1 (by kernel_rfl) rfl aA (ae (aF h 5 rfl nO rfl rfl) (ah (aY dz (bW 7 (by kernel_rfl) rfl aA ?_))))))
 have Aq := dz.size
 refine pF (R := (ou bE)) (m := [dE.1]) h 33 rfl (h.dJ 168 rfl) mW rfl rfl rfl qh.1 qh.2 fun w iO h pV pW => ?_
 have Ar : ∀ b, ob iO b → b < BG.heap.size → ob v138 b := fun b hb hl => pW b hb (Nat.lt_of_lt_of_le hl (dz).size)
 replace dz := aQ.step dz pV (fun _ hx _ => .inr (.inl (hx)))
 refine ah (aY dz (bJ 8 dz rfl aA (by kernel_rfl) (by kernel_rfl) (by kernel_rfl) (fun w hk => au kE rfl) (bW 9 (by kernel_rfl) rfl aA (tq h 5 [v51, iO, (.int .i64 (y6.1)), (.int .i64 (pJ.1))] rfl nO rfl rfl rfl rfl (h.fF 33 rfl).one fun w h rE => ?_))))
 replace dz := aQ.step dz rE (fun _ hx _ => .inr (.inr (hx)))
 refine ah (aY dz (jE (by kernel_rfl) (az (ay ?_))))
 replace h := h.vg 157 95 rfl
 exact bR (oK, dE.2.l, dE.2.bad, iO, (xM ++ [dE.1])) ⟨h.cn _, hs⟩
 refine bT (aH (aH (aT (aa (ai (ai (ag (ae (ak (v := (.pointer (some ⟨b3, 0, none⟩))) rfl) (ae (nL rfl) (ae (au H8 rfl) (ae (aF h 4 rfl vI rfl rfl) (ae (ak (v := (.bool (Ak))) rfl) (aC rfl rfl (fun q => ak (v := (.pointer (some ⟨b3, 0, none⟩))) rfl) (aC rfl rfl (fun q => nL (cO q)) (aC rfl rfl (fun q => au BD (cO q)) (aC rfl rfl (fun q => aF h 4 rfl qx (cO q) rfl) (aC rfl rfl (fun q => bF bS (cO q) (h.mU 32 rfl)) (aC rfl rfl (fun q => iR (cO q) rfl) (ae (gM rfl rfl mR) (ah (aa (aJ hs rfl (fun c167 hs => ?_) (fun c167 hs => ?_)))))))))))))))))))))))
 refine ai (ag (ae (eD (pv := []) (out := [(.slice none 0 0), (.slice none 0 0), (.int .i64 (0)), (.int .i64 (0))]) uN rfl rfl) (dV (vs := [(.slice none 0 0), (.slice none 0 0), (.int .i64 (0)), (.int .i64 (0))]) h 3 [(.slice none 0 0), (.slice none 0 0), (.int .i64 (0)), (.int .i64 (0))] rfl di rfl rfl rfl rfl rfl (ax rfl (ax rfl (ax rfl (ax rfl bA)))) fun w h => ae (aj (v := (.int .i64 (8))) rfl) (ah (aa (aI (aB (zU (vs := [(.slice none 0 0), (.slice none 0 0), (.int .i64 (0)), (.int .i64 (0))]) (v2 := (.int .i64 (8))) Tryz.results15 rfl rfl h 3 rfl di rfl ?_))))))))
 obtain rfl := Option.some.inj hs
 exact ⟨h.grown, _, _, rfl, eZ.nil, eZ.nil⟩
 refine aD (aa (ai (ai (ag (ae (ak (v := va) rfl) (ae (fA (vs := [v51, v138, (.int .i64 (y6.1)), (.int .i64 (pJ.1))]) h 5 rfl di rfl rfl rfl) ?_))))))
 obtain ⟨y168, e169, hs⟩ := aM hs
 refine aO Oq rfl rfl (Ej _ _ h.lt va a (h.fV 1 rfl) (⟨qZ, xM, y6.1, pJ.1⟩ : LX.State) v51 v138 (h.dJ 16 rfl) (h.dJ 33 rfl) _ e169) ?_
 rintro _ w ⟨k170, rfl⟩
 refine ⟨_, rfl, ?_⟩
 replace h := h.grow k170
 refine ae (aj (v := (.int .i64 (y168))) rfl) (ah (aa (ai (ag (ae (ak (v := (.int .i64 (y168))) rfl) (ae (iH rfl rfl) (ah (aa (aJ hs rfl (fun c171 hs => ?_) (fun c171 hs => ?_))))))))))
 refine ai (ag (ae (eD (pv := []) (out := [(.slice none 0 0), (.slice none 0 0), (.int .i64 (0)), (.int .i64 (0))]) uN rfl rfl) (ae (ak (v := (.int .i64 (y168))) rfl) (dV (vs := [(.slice none 0 0), (.slice none 0 0), (.int .i64 (0)), (.int .i64 (0))]) h 3 [(.slice none 0 0), (.slice none 0 0), (.int .i64 (0)), (.int .i64 (0))] rfl di rfl rfl rfl rfl rfl (ax rfl (ax rfl (ax rfl (ax rfl bA)))) fun w h => ae (aj (v := (.int .i64 (y168))) rfl) (ah (aa (aI (aB (zU (vs := [(.slice none 0 0), (.slice none 0 0), (.int .i64 (0)), (.int .i64 (0))]) (v2 := (.int .i64 (y168))) Tryz.results15 rfl rfl h 3 rfl di rfl ?_)))))))))
 obtain rfl := Option.some.inj hs
 exact ⟨h.grown, _, _, rfl, eZ.nil, eZ.nil⟩
 refine aD (aa (ai (ai (Dm mixed h fun w h => jA 0 (aQ.refl BE _) rfl aA (by kernel_rfl) (by kernel_rfl) (by kernel_rfl) (fun w hk => have h := h.grow hk; fA (vs := [v51, v138, (.int .i64 (y6.1)), (.int .i64 (pJ.1))]) h 5 rfl di rfl rfl rfl) (jA 2 (aQ.refl BE _) rfl aA (by kernel_rfl) (by kernel_rfl) (by kernel_rfl) (fun w hk => have h := h.grow hk; fA (vs := [v51, v138, (.int .i64 (y6.1)), (.int .i64 (pJ.1))]) h 5 rfl di rfl rfl rfl) ?_)))))
 obtain ⟨XJ, Qi⟩ : ∃ x, x = w := ⟨_, rfl⟩
 have EP : Grow XJ w := Qi ▸ aQ.refl BE w
 refine Ll Qi.symm (w9 1 (by kernel_rfl) rfl aA ?_)
 obtain ⟨rC, Ng, hs⟩ := aM hs
 refine aO G6 rfl rfl (xI N _ _ h.lt (⟨qZ, xM, y6.1, pJ.1⟩ : LX.State) v51 v138 (h.dJ 16 rfl) (h.dJ 33 rfl) _ Ng) ?_
 rintro _ w ⟨Gi, Gj, Gl, ER, ES, rfl, Nh, Ni⟩
 refine ⟨_, rfl, ?_⟩
 replace h := h.IK 240 (C := (.two (.two (.two (.own dn.raw 49 Gj (List.zip rC.frames ER)) (.fU (cu bE 51 hn ER (List.map dn.sub rC.frames)))) (.own (fo Val).raw 47 Gl (List.zip rC.cells ES))) (.fU (cu bE 51 hn ES (List.map (fo Val).sub rC.cells))) : Chunk)) Gi ⟨⟨⟨trivial, trivial⟩, trivial⟩, trivial⟩ Nh Ni
 replace h := h.iT 240 243 (by decide) rfl rfl
 replace h := h.iT 240 242 (by decide) rfl rfl
 replace h := h.iT 240 241 (by decide) rfl rfl
 replace EP := EP.trans Gi
 refine ah (uj EP (w9 3 (by kernel_rfl) rfl aA ?_))
 obtain ⟨Gg, Nj, hs⟩ := aM hs
 refine aO Kb rfl rfl (Cq _ BE (fun _ h => h.elim) rC Gj Gl (h.BV (N := dn) (R' := eH) 240 241 rfl rfl (by decide) rfl BQ) (h.BV (N := (fo Val)) (R' := (ou bE)) 242 243 rfl rfl (by decide) rfl GL) (⟨qZ, xM, y6.1, pJ.1⟩ : LX.State) v51 v138 (eZ.Tw (h.dJ 16 rfl)) (eZ.Tw (h.dJ 33 rfl)) _ Nj) ?_
 rintro _ w ⟨Gm, rfl⟩
 refine ⟨_, rfl, ?_⟩
 replace h := h.grow Gm
 replace EP := EP.trans Gm
 refine ah (uj EP (jA 4 EP rfl aA (by kernel_rfl) (by kernel_rfl) (by kernel_rfl) (fun w hk => fZ rfl) (AR (by kernel_rfl) (aa (aJ hs rfl (fun c175 hs => ?_) (fun c175 hs => ?_))))))
 refine ai (ag (ae (eD (pv := []) (out := [(.slice none 0 0), (.slice none 0 0), (.int .i64 (0)), (.int .i64 (0))]) uN rfl rfl) (dV (vs := [(.slice none 0 0), (.slice none 0 0), (.int .i64 (0)), (.int .i64 (0))]) h 3 [(.slice none 0 0), (.slice none 0 0), (.int .i64 (0)), (.int .i64 (0))] rfl di rfl rfl rfl rfl rfl (ax rfl (ax rfl (ax rfl (ax rfl bA)))) fun w h => ae (aj (v := (.int .i64 (4))) rfl) (ah (aa (aI (aB (zU (vs := [(.slice none 0 0), (.slice none 0 0), (.int .i64 (0)), (.int .i64 (0))]) (v2 := (.int .i64 (4))) Tryz.results15 rfl rfl h 3 rfl di rfl ?_))))))))
 obtain rfl := Option.some.inj hs
 exact ⟨h.grown, _, _, rfl, eZ.nil, eZ.nil⟩
 refine aD (aa (ai (ag (ae (fA (vs := [v51, v138, (.int .i64 (y6.1)), (.int .i64 (pJ.1))]) h 5 rfl di rfl rfl rfl) (dV (vs := [v51, v138, (.int .i64 (y6.1)), (.int .i64 (pJ.1))]) h 3 [v51, v138, (.int .i64 (y6.1)), (.int .i64 (pJ.1))] rfl di rfl rfl rfl rfl rfl (ax (h.fF 16 rfl).one (ax (h.fF 33 rfl).one (ax rfl (ax rfl bA)))) fun w h => ae (aj (v := (.int .i64 (0))) rfl) (ah (aa (aI (zU (vs := [v51, v138, (.int .i64 (y6.1)), (.int .i64 (pJ.1))]) (v2 := (.int .i64 (0))) Tryz.results15 rfl rfl h 3 rfl di rfl ?_)))))))))
 replace h := h.freeze 16 rfl
 replace h := h.freeze 33 rfl
 obtain rfl := Option.some.inj hs
 exact ⟨h.grown, _, _, rfl, h.NM 16 rfl, h.NM 33 rfl⟩
def kz (N : Nat) : Option Bool :=
  (ji N).bind fun y1 => (vB N y1).bind fun y7 => (Po y7).bind fun y13 => (uG N y7 y13.1).bind fun y21 => (oo N y7 y21.1).bind fun y27 => gG (jb ((y21.1.length : Int) - 1)) ((sub? y21.1 0 (max 0 ((y21.1.length : Int) - 1))).bind fun pQ => (oo N y7 pQ).bind fun Az => bif (((decide ((y13.2 : Int) = 0) && decide ((y21.2 : Int) = 0)) && decide ((y27.2 : Int) = 0)) && decide ((Az.2 : Int) = 8)) then (xK y13.1 y27.1).bind fun p9 => some p9 else some false)
theorem sW (N : Nat) (w0 : World) (M : BS) (hM : ∀ b, M b → b < w0.heap.size) (hT : rY Tryz.prog 4 w0)  (r : Bool) (hs : kz N = some r) :
    Calls Tryz.prog 14 #[] w0 (fun e w' => Grow w0 w' ∧ e = .returned (.bool r)) := by
 refine aK (args := []) Tryz.func14 rfl Tryz.ntmps14 (Nat.le_of_ble_eq_true rfl) ?_
 have h := SH.init hM
 refine ai (ag (ae (aj (v := (.bool (false))) rfl) (ah (aa (ai (ag ?_))))))
 obtain ⟨y1, e2, hs⟩ := aM hs
 refine aO TB rfl rfl (xV N _ _ h.lt (hT.go h.keep)  _ e2) ?_
 rintro _ w ⟨k6, u3, rfl, g4, g5⟩
 refine ⟨_, rfl, ?_⟩
 replace h := h.jm 1 k6 g4 g5
 obtain ⟨y7, e8, hs⟩ := aM hs
 refine aO TA rfl rfl (zH N _ _ h.lt u3 y1 (h.dJ 1 rfl) _ e8) ?_
 rintro _ w ⟨k12, u9, rfl, g10, g11⟩
 refine ⟨_, rfl, ?_⟩
 replace h := h.jm 2 k12 g10 g11
 refine ae (aj (v := u9) rfl) (ah (aa (ai (ag (ae (ak (v := u9) rfl) ?_)))))
 obtain ⟨y13, e14, hs⟩ := aM hs
 refine aO Tz rfl rfl (Pp _ _ h.lt u9 y7 (h.dJ 2 rfl) _ e14) ?_
 rintro _ w ⟨k19, Ay, Df, rfl, g16, g18⟩
 refine ⟨_, rfl, ?_⟩
 replace h := h.AJ 3 k19 g16
 replace h := h.bG 4 g18.up
 refine ae (ak (v := (.tuple #[(.agg #[Ay, Df, (.int .i64 (y13.1.status)), (.int .i64 (y13.1.bQ))]), (.int .i64 (y13.2))])) rfl) (ae (bC rfl rfl) (ae (bC rfl rfl) (bP h 5 di fun w b20 h => dV (vs := [Ay, Df, (.int .i64 (y13.1.status)), (.int .i64 (y13.1.bQ))]) h 5 [Ay, Df, (.int .i64 (y13.1.status)), (.int .i64 (y13.1.bQ))] rfl di rfl rfl rfl rfl rfl (ax (h.fu 3 rfl).one (ax (h.fu 4 rfl).one (ax rfl (ax rfl bA)))) fun w h => ae (aj (v := (.int .i64 (y13.2))) rfl) (ah (aa (ai (ag (ae (ak (v := u9) rfl) (ae (fA (vs := [Ay, Df, (.int .i64 (y13.1.status)), (.int .i64 (y13.1.bQ))]) h 5 rfl di rfl rfl rfl) ?_)))))))))
 obtain ⟨y21, e22, hs⟩ := aM hs
 refine aO KU rfl rfl (yU N _ _ h.lt u9 y7 (h.dJ 2 rfl) y13.1 Ay Df (h.mU 3 rfl) (h.mU 4 rfl) _ e22) ?_
 rintro _ w ⟨k26, u23, rfl, g24, TN⟩
 refine ⟨_, rfl, ?_⟩
 replace h := h.jm 6 k26 g24 TN
 refine ae (ak (v := (.tuple #[u23, (.int .i64 (y21.2))])) rfl) (ae (bC rfl rfl) (ae (bC rfl rfl) (ae (aj (v := u23) rfl) (ae (aj (v := (.int .i64 (y21.2))) rfl) (ah (aa (ai (ag (ae (ak (v := u9) rfl) (ae (ak (v := u23) rfl) ?_))))))))))
 replace h := h.freeze 6 rfl
 obtain ⟨y27, e28, hs⟩ := aM hs
 refine aO H9 rfl rfl (rR N _ _ h.lt u9 y7 (h.dJ 2 rfl) u23 y21.1 (h.fu 6 rfl) _ e28) ?_
 rintro _ w ⟨Nv, u29, u31, rfl, g30, Uq⟩
 refine ⟨_, rfl, ?_⟩
 replace h := h.AJ 7 Nv g30
 replace h := h.bG 8 Uq.up
 refine ae (ak (v := (.tuple #[(.agg #[u29, u31, (.int .i64 (y27.1.status)), (.int .i64 (y27.1.bQ))]), (.int .i64 (y27.2))])) rfl) (ae (bC rfl rfl) (ae (bC rfl rfl) (bP h 9 di fun w XT h => dV (vs := [u29, u31, (.int .i64 (y27.1.status)), (.int .i64 (y27.1.bQ))]) h 9 [u29, u31, (.int .i64 (y27.1.status)), (.int .i64 (y27.1.bQ))] rfl di rfl rfl rfl rfl rfl (ax (h.fu 7 rfl).one (ax (h.fu 8 rfl).one (ax rfl (ax rfl bA)))) fun w h => ae (aj (v := (.int .i64 (y27.2))) rfl) (ah (aa (ai (ag (ae (ak (v := u9) rfl) (ae (ak (v := u23) rfl) (ae (ak (v := u23) rfl) (ae (bF bS rfl (h.mU 6 rfl)) ?_)))))))))))
 obtain ⟨a35, hs⟩ := aZ hs
 refine ae (rT rfl rfl a35) (ae (RU rfl rfl) ?_)
 obtain ⟨pQ, e37, hs⟩ := aM hs
 obtain ⟨e40, Pk, Pm, e40c⟩ := Io e37
 obtain ⟨u38, h, i39⟩ := h.X6 6 10 rfl bS rfl Pk Pm e40c
 rw [← e40] at h
 refine ae (i39 _ _ _ _ _ _ _ _ _ _ rfl (.inl ⟨rfl, rfl⟩) (.inr (congrArg some rfl))) ?_
 obtain ⟨Az, e42, hs⟩ := aM hs
 refine aO H9 rfl rfl (rR N _ _ h.lt u9 y7 (h.dJ 2 rfl) u38 pQ (h.fu 10 rfl) _ e42) ?_
 rintro _ w ⟨k47, u43, u45, rfl, g44, g46⟩
 refine ⟨_, rfl, ?_⟩
 replace h := h.AJ 11 k47 g44
 replace h := h.bG 12 g46.up
 refine ae (ak (v := (.tuple #[(.agg #[u43, u45, (.int .i64 (Az.1.status)), (.int .i64 (Az.1.bQ))]), (.int .i64 (Az.2))])) rfl) (ae (bC rfl rfl) (ae (bC rfl rfl) (bP h 13 di fun w ZP h => dV (vs := [u43, u45, (.int .i64 (Az.1.status)), (.int .i64 (Az.1.bQ))]) h 13 [u43, u45, (.int .i64 (Az.1.status)), (.int .i64 (Az.1.bQ))] rfl di rfl rfl rfl rfl rfl (ax (h.fu 11 rfl).one (ax (h.fu 12 rfl).one (ax rfl (ax rfl bA)))) fun w h => ae (aj (v := (.int .i64 (Az.2))) rfl) (ah (aa (ai (ag (ae (ak (v := (.int .i64 (y13.2))) rfl) (ae (bM rfl rfl) (ae (ak (v := (.bool (decide ((y13.2 : Int) = 0)))) rfl) (aC rfl rfl (fun q => ak (v := (.int .i64 (y21.2))) rfl) (aC rfl rfl (fun q => bM (cO q) rfl) (ae (gJ rfl rfl mR) (ae (ak (v := (.bool ((decide ((y13.2 : Int) = 0) && decide ((y21.2 : Int) = 0))))) rfl) (aC rfl rfl (fun q => ak (v := (.int .i64 (y27.2))) rfl) (aC rfl rfl (fun q => bM (cO q) rfl) (ae (gJ rfl rfl mR) (ae (ak (v := (.bool (((decide ((y13.2 : Int) = 0) && decide ((y21.2 : Int) = 0)) && decide ((y27.2 : Int) = 0))))) rfl) (aC rfl rfl (fun q => ak (v := (.int .i64 (Az.2))) rfl) (aC rfl rfl (fun q => bM (cO q) rfl) (ae (gJ rfl rfl mR) ?_)))))))))))))))))))))
 refine ae (ak (v := (.bool ((((decide ((y13.2 : Int) = 0) && decide ((y21.2 : Int) = 0)) && decide ((y27.2 : Int) = 0)) && decide ((Az.2 : Int) = 8))))) rfl) (ma (b := (((decide ((y13.2 : Int) = 0) && decide ((y21.2 : Int) = 0)) && decide ((y27.2 : Int) = 0)) && decide ((Az.2 : Int) = 8))) hs (fun c49 hs => ?_) (fun c49 hs => ?_))
 refine dG rfl (congrArg Value.bool c49) (ae (fA (vs := [Ay, Df, (.int .i64 (y13.1.status)), (.int .i64 (y13.1.bQ))]) h 5 rfl di rfl rfl rfl) (dG rfl (congrArg Value.bool c49) (ae (fA (vs := [u29, u31, (.int .i64 (y27.1.status)), (.int .i64 (y27.1.bQ))]) h 9 rfl di rfl rfl rfl) (dG rfl (congrArg Value.bool c49) ?_))))
 obtain ⟨p9, e51, hs⟩ := aM hs
 refine aO Kb rfl rfl (Cq _ _ h.lt y13.1 Ay Df (h.mU 3 rfl) (h.mU 4 rfl) y27.1 u29 u31 (h.mU 7 rfl) (h.mU 8 rfl) _ e51) ?_
 rintro _ w ⟨Yp, rfl⟩
 refine ⟨_, rfl, ?_⟩
 replace h := h.grow Yp
 refine ae (fw (b := true) (v := (.bool (p9))) (congrArg Value.bool c49) rfl) (ae (aj (v := (.bool (p9))) rfl) (ah (aa (aI (bI (v := (.bool (p9))) Tryz.results14 rfl ?_)))))
 obtain rfl := Option.some.inj hs
 exact ⟨h.grown, rfl⟩
 refine bH (b' := false) rfl (congrArg Value.bool c49) rfl (bH (b' := false) rfl (congrArg Value.bool c49) rfl (bH (b' := false) rfl (congrArg Value.bool c49) rfl (ae (fw (b := false) (v := (.bool (false))) (congrArg Value.bool c49) rfl) (ae (aj (v := (.bool (false))) rfl) (ah (aa (aI (bI (v := (.bool (false))) Tryz.results14 rfl ?_))))))))
 obtain rfl := Option.some.inj hs
 exact ⟨h.grown, rfl⟩
theorem Au (w0 : World) (M : BS) (hM : ∀ b, M b → b < w0.heap.size) (va : Value) (a : List Int) (ha : eZ cZ w0 BE M va a) (r : List Int) (hs : clone 8 a = some r) :
    Calls Tryz.prog 17 #[va] w0 (fun e w' => Grow w0 w' ∧ ∃ u0, e = .returned u0 ∧ dH cZ 3 w' M u0 r ∧ (∀ b, ob u0 b → w0.heap.size ≤ b)) := by
  obtain ⟨hr, hs⟩ := aZ hs
  cases hs
  refine aK (args := [va]) Tryz.func17 rfl Tryz.ntmps17 (Nat.le_of_ble_eq_true rfl) ?_
  have h := (SH.init hM).dU 1 ha aW
  refine ai (ag (ae (aj rfl) (ah (aa ?_))))
  refine ai (ai (ag (ae (ak rfl) (ae (Dl bS rfl (h.fV 1 rfl) rfl) (ah (aa ?_))))))
  refine gH rfl (fun c => ?_) (fun c => ?_)
  · obtain ⟨c1, c2⟩ := ug (h.fV 1 rfl) c
    refine ai (ag (ae (aj rfl) (ah (aa (aI (aB ?_))))))
    refine bI (v := .slice none 0 0) Tryz.results17 rfl ?_
    rw [c2]
    exact ⟨h.grown, _, rfl, dH.nil, kU⟩
  · refine aD (aa ?_)
    refine ai (ag ?_)
    refine oV (R := cZ) (vs := []) (xs := []) h 2 fP rfl rfl rfl trivial rfl fun w u h => ?_
    refine ae (ak rfl) ?_
    refine jg (R := cZ) (m := a) h 2 rfl (h.fV 1 rfl) fP rfl rfl rfl hr.1 hr.2 fun w u h => ?_
    refine ae (aj rfl) (ah (aa (aI ?_)))
    refine bI (v := u) Tryz.results17 rfl ?_
    exact ⟨h.grown, _, rfl, (h.kJ 2 rfl).1, (h.kJ 2 rfl).2⟩
def oq (N : Nat) (a : List bV) (b : LX.State) (c : LX.State) (d : Int) (e : Int) : Option Bool :=
  (uG N a b).bind fun y3 => (kz N).bind fun y9 => bif ((!y9) || decide ((y3.2 : Int) ≠ 0)) then (kz N).bind fun y13 => some y13 else (qQ d (y3.1.length : Int)).bind fun y16 => (sub? y3.1 0 y16).bind fun yf => (oo N a yf).bind fun y24 => bif decide ((y24.2 : Int) = 0) then some false else (clone 8 y3.1).bind fun Fs => gG (Room 8 Fs [e]) ((oo N a (Fs ++ [e])).bind fun nA => bif decide ((nA.2 : Int) = 0) then some false else (uG N a c).bind fun Ry => bif decide ((Ry.2 : Int) ≠ 0) then some true else (slices_Equal_int y3.1 Ry.1).bind fun yV => (sU N b).bind fun uV => (sU N c).bind fun uW => (xK uV uW).bind fun wS => some (yV == wS))
theorem xN (N : Nat) (w0 : World) (M : BS) (hM : ∀ b, M b → b < w0.heap.size) (hT : rY Tryz.prog 4 w0) (va : Value) (a : List bV) (ha : eZ lC w0 BE M va a) (b : LX.State) (vb0 vb1 : Value) (hb0 : eZ eH w0 BE M vb0 b.frames) (hb1 : eZ (ou bE) w0 BE M vb1 b.cells) (c : LX.State) (Sz SA : Value) (hc0 : eZ eH w0 BE M Sz c.frames) (hc1 : eZ (ou bE) w0 BE M SA c.cells) (d : Int) (e : Int) (r : Bool) (hs : oq N a b c d e = some r) :
    Calls Tryz.prog 3 #[va, (.agg #[vb0, vb1, (.int .i64 (b.status)), (.int .i64 (b.bQ))]), (.agg #[Sz, SA, (.int .i64 (c.status)), (.int .i64 (c.bQ))]), (.int .i64 (d)), (.int .i64 (e))] w0 (fun e w' => Grow w0 w' ∧ e = .returned (.bool r)) := by
 refine aK (args := [va, (.agg #[vb0, vb1, (.int .i64 (b.status)), (.int .i64 (b.bQ))]), (.agg #[Sz, SA, (.int .i64 (c.status)), (.int .i64 (c.bQ))]), (.int .i64 (d)), (.int .i64 (e))]) Tryz.func3 rfl Tryz.ntmps3 (Nat.le_of_ble_eq_true rfl) ?_
 have h := SH.init hM
 replace h := h.dU 1 ha aW
 replace h := h.dU 2 hb0 (bD aW)
 replace h := h.dU 3 hb1 (bD (bD aW))
 replace h := h.dU 4 hc0 (bD (bD (bD aW)))
 replace h := h.dU 5 hc1 (bD (bD (bD (bD aW))))
 have tC := ha.bL
 refine ai (ag (pX (cs := [vb0, vb1, (.int .i64 (b.status)), (.int .i64 (b.bQ))]) h 6 rfl rfl fun w b1 h => pX (cs := [Sz, SA, (.int .i64 (c.status)), (.int .i64 (c.bQ))]) h 7 rfl rfl fun w b2 h => ae (aj (v := (.bool (false))) rfl) (ah (aa (ai (ag (ae (ak (v := va) rfl) (ae (fA (vs := [vb0, vb1, (.int .i64 (b.status)), (.int .i64 (b.bQ))]) h 6 rfl di rfl rfl rfl) ?_))))))))
 obtain ⟨y3, e4, hs⟩ := aM hs
 refine aO KU rfl rfl (yU N _ _ h.lt va a (h.fV 1 rfl) b vb0 vb1 (h.fV 2 rfl) (h.fV 3 rfl) _ e4) ?_
 rintro _ w ⟨k8, u5, rfl, g6, g7⟩
 refine ⟨_, rfl, ?_⟩
 replace h := h.jm 8 k8 g6 g7
 refine ae (ak (v := (.tuple #[u5, (.int .i64 (y3.2))])) rfl) (ae (bC rfl rfl) (ae (bC rfl rfl) (ae (aj (v := u5) rfl) (ae (aj (v := (.int .i64 (y3.2))) rfl) (ah (aa (ai (ai (ag ?_)))))))))
 obtain ⟨y9, e10, hs⟩ := aM hs
 refine aO Qa rfl rfl (sW N _ _ h.lt (hT.go h.keep)  _ e10) ?_
 rintro _ w ⟨k11, rfl⟩
 refine ⟨_, rfl, ?_⟩
 replace h := h.grow k11
 refine ae (fZ rfl) (ae (ak (v := (.bool ((!y9)))) rfl) (aC rfl rfl (fun q => ak (v := (.int .i64 (y3.2))) rfl) (aC rfl rfl (fun q => iH (cO q) rfl) (ae (gM rfl rfl mR) (ah (aa (aJ hs rfl (fun c12 hs => ?_) (fun c12 hs => ?_))))))))
 refine ai (ag ?_)
 obtain ⟨y13, e14, hs⟩ := aM hs
 refine aO Qa rfl rfl (sW N _ _ h.lt (hT.go h.keep)  _ e14) ?_
 rintro _ w ⟨k15, rfl⟩
 refine ⟨_, rfl, ?_⟩
 replace h := h.grow k15
 refine ae (aj (v := (.bool (y13))) rfl) (ah (aa (aI (aB (bI (v := (.bool (y13))) Tryz.results3 rfl ?_)))))
 obtain rfl := Option.some.inj hs
 exact ⟨h.grown, rfl⟩
 refine aD (aa (ai (ai (ag (ae (ak (v := va) rfl) (ae (ak (v := u5) rfl) (ae (ak (v := (.int .i64 (d))) rfl) (ae (ak (v := u5) rfl) (ae (bF bS rfl (h.dJ 8 rfl)) ?_)))))))))
 obtain ⟨y16, e17, hs⟩ := aM hs
 refine aO Tx rfl rfl (Cr _ _ h.lt d (y3.1.length : Int) _ e17) ?_
 rintro _ w ⟨k18, rfl⟩
 refine ⟨_, rfl, ?_⟩
 replace h := h.grow k18
 obtain ⟨yf, e20, hs⟩ := aM hs
 obtain ⟨e23, Us, Ut, e23c⟩ := Io e20
 replace h := h.freeze 8 rfl
 obtain ⟨u21, h, i22⟩ := h.X6 8 9 rfl bS rfl Us Ut e23c
 rw [← e23] at h
 refine ae (i22 _ _ _ _ _ _ _ _ _ _ rfl (.inl ⟨rfl, rfl⟩) (.inr (congrArg some rfl))) ?_
 obtain ⟨y24, e25, hs⟩ := aM hs
 refine aO H9 rfl rfl (rR N _ _ h.lt va a (h.fV 1 rfl) u21 yf (h.fu 9 rfl) _ e25) ?_
 rintro _ w ⟨VR, u26, u28, rfl, g27, g29⟩
 refine ⟨_, rfl, ?_⟩
 replace h := h.AJ 10 VR g27
 replace h := h.bG 11 g29.up
 refine ae (ak (v := (.tuple #[(.agg #[u26, u28, (.int .i64 (y24.1.status)), (.int .i64 (y24.1.bQ))]), (.int .i64 (y24.2))])) rfl) (ae (bC rfl rfl) (ae (bC rfl rfl) (bP h 12 di fun w b31 h => dV (vs := [u26, u28, (.int .i64 (y24.1.status)), (.int .i64 (y24.1.bQ))]) h 12 [u26, u28, (.int .i64 (y24.1.status)), (.int .i64 (y24.1.bQ))] rfl di rfl rfl rfl rfl rfl (ax (h.fu 10 rfl).one (ax (h.fu 11 rfl).one (ax rfl (ax rfl bA)))) fun w h => ae (aj (v := (.int .i64 (y24.2))) rfl) (ah (aa (ai (ag (ae (ak (v := (.int .i64 (y24.2))) rfl) (ae (bM rfl rfl) (ah (aa (aJ hs rfl (fun c32 hs => ?_) (fun c32 hs => ?_)))))))))))))
 refine ai (ag (ae (aj (v := (.bool (false))) rfl) (ah (aa (aI (aB (bI (v := (.bool (false))) Tryz.results3 rfl ?_)))))))
 obtain rfl := Option.some.inj hs
 exact ⟨h.grown, rfl⟩
 refine aD (aa (ai (ai (ag (ae (ak (v := va) rfl) (ae (ak (v := u5) rfl) ?_))))))
 obtain ⟨Fs, e34, hs⟩ := aM hs
 refine aO UK rfl rfl (Au _ _ h.lt u5 y3.1 (h.mU 8 rfl) _ e34) ?_
 rintro _ w ⟨Rc, u35, rfl, g36, g37⟩
 refine ⟨_, rfl, ?_⟩
 replace h := h.jm 13 Rc g36 g37
 refine ae (ak (v := (.int .i64 (e))) rfl) (oV (R := cZ) (vs := [(.int .i64 (e))]) (xs := [e]) h 14 fP rfl rfl rfl ⟨rfl, trivial⟩ rfl fun w Qx h => ?_)
 obtain ⟨a40, hs⟩ := aZ hs
 refine jg (R := cZ) (m := [e]) h 13 rfl (h.dJ 14 rfl) fP rfl rfl rfl a40.1 a40.2 fun w XU h => ?_
 replace h := h.freeze 13 rfl
 obtain ⟨nA, e43, hs⟩ := aM hs
 refine aO H9 rfl rfl (rR N _ _ h.lt va a (h.fV 1 rfl) XU (Fs ++ [e]) (h.fu 13 rfl) _ e43) ?_
 rintro _ w ⟨k48, u44, u46, rfl, g45, g47⟩
 refine ⟨_, rfl, ?_⟩
 replace h := h.AJ 15 k48 g45
 replace h := h.bG 16 g47.up
 refine ae (ak (v := (.tuple #[(.agg #[u44, u46, (.int .i64 (nA.1.status)), (.int .i64 (nA.1.bQ))]), (.int .i64 (nA.2))])) rfl) (ae (bC rfl rfl) (ae (bC rfl rfl) (bP h 17 di fun w b49 h => dV (vs := [u44, u46, (.int .i64 (nA.1.status)), (.int .i64 (nA.1.bQ))]) h 17 [u44, u46, (.int .i64 (nA.1.status)), (.int .i64 (nA.1.bQ))] rfl di rfl rfl rfl rfl rfl (ax (h.fu 15 rfl).one (ax (h.fu 16 rfl).one (ax rfl (ax rfl bA)))) fun w h => ae (aj (v := (.int .i64 (nA.2))) rfl) (ah (aa (ai (ag (ae (ak (v := (.int .i64 (nA.2))) rfl) (ae (bM rfl rfl) (ah (aa (aJ hs rfl (fun c50 hs => ?_) (fun c50 hs => ?_)))))))))))))
 refine ai (ag (ae (aj (v := (.bool (false))) rfl) (ah (aa (aI (aB (bI (v := (.bool (false))) Tryz.results3 rfl ?_)))))))
 obtain rfl := Option.some.inj hs
 exact ⟨h.grown, rfl⟩
 refine aD (aa (ai (ag (ae (ak (v := va) rfl) (ae (fA (vs := [Sz, SA, (.int .i64 (c.status)), (.int .i64 (c.bQ))]) h 7 rfl di rfl rfl rfl) ?_)))))
 obtain ⟨Ry, e52, hs⟩ := aM hs
 refine aO KU rfl rfl (yU N _ _ h.lt va a (h.fV 1 rfl) c Sz SA (h.fV 4 rfl) (h.fV 5 rfl) _ e52) ?_
 rintro _ w ⟨ZQ, u53, rfl, g54, g55⟩
 refine ⟨_, rfl, ?_⟩
 replace h := h.jm 18 ZQ g54 g55
 refine ae (ak (v := (.tuple #[u53, (.int .i64 (Ry.2))])) rfl) (ae (bC rfl rfl) (ae (bC rfl rfl) (ae (aj (v := u53) rfl) (ae (aj (v := (.int .i64 (Ry.2))) rfl) (ah (aa (ai (Dm mixed h fun w h => jA 0 (aQ.refl BE _) rfl aA (by kernel_rfl) (by kernel_rfl) (by kernel_rfl) (fun w hk => ak (v := (.int .i64 (Ry.2))) rfl) (jA 1 (aQ.refl BE _) rfl aA (by kernel_rfl) (by kernel_rfl) (by kernel_rfl) (fun w hk => iH rfl rfl) (jA 2 (aQ.refl BE _) rfl aA (by kernel_rfl) (by kernel_rfl) (by kernel_rfl) (fun w hk => ak (v := (.bool (decide ((Ry.2 : Int) ≠ 0)))) rfl) (ma (b := decide ((Ry.2 : Int) ≠ 0)) hs (fun D8 hs => ?_) (fun D8 hs => ?_))))))))))))
 refine ui 3 (aQ.refl BE _) rfl (qo (b' := true) rfl (congrArg Value.bool D8) rfl) (by kernel_rfl) (by kernel_rfl) (by kernel_rfl) (ui 4 (aQ.refl BE _) rfl (qo (b' := true) rfl (congrArg Value.bool D8) rfl) (by kernel_rfl) (by kernel_rfl) (by kernel_rfl) (ui 5 (aQ.refl BE _) rfl (qo (b' := true) rfl (congrArg Value.bool D8) rfl) (by kernel_rfl) (by kernel_rfl) (by kernel_rfl) (ui 6 (aQ.refl BE _) rfl (qo (b' := true) rfl (congrArg Value.bool D8) rfl) (by kernel_rfl) (by kernel_rfl) (by kernel_rfl) (ui 7 (aQ.refl BE _) rfl (qo (b' := true) rfl (congrArg Value.bool D8) rfl) (by kernel_rfl) (by kernel_rfl) (by kernel_rfl) (ui 8 (aQ.refl BE _) rfl (qo (b' := true) rfl (congrArg Value.bool D8) rfl) (by kernel_rfl) (by kernel_rfl) (by kernel_rfl) (ui 9 (aQ.refl BE _) rfl (qo (b' := true) rfl (congrArg Value.bool D8) rfl) (by kernel_rfl) (by kernel_rfl) (by kernel_rfl) (ui 10 (aQ.refl BE _) rfl (qo (b' := true) rfl (congrArg Value.bool D8) rfl) (by kernel_rfl) (by kernel_rfl) (by kernel_rfl) (ui 11 (aQ.refl BE _) rfl (qo (b' := true) rfl (congrArg Value.bool D8) rfl) (by kernel_rfl) (by kernel_rfl) (by kernel_rfl) (jA 12 (aQ.refl BE _) rfl aA (by kernel_rfl) (by kernel_rfl) (by kernel_rfl) (fun w hk => fw (b := true) (v := (.bool (true))) (congrArg Value.bool D8) rfl) (jA 13 (aQ.refl BE _) rfl aA (by kernel_rfl) (by kernel_rfl) (by kernel_rfl) (fun w hk => aj (v := (.bool (true))) rfl) (AR (by kernel_rfl) (aa (aI (bI (v := (.bool (true))) Tryz.results3 rfl ?_))))))))))))))
 obtain rfl := Option.some.inj hs
 exact ⟨h.grown, rfl⟩
 refine jA 3 (aQ.refl BE _) rfl (uh rfl (congrArg Value.bool D8)) (by kernel_rfl) (by kernel_rfl) (by kernel_rfl) (fun w hk => ak (v := u5) rfl) (jA 4 (aQ.refl BE _) rfl (uh rfl (congrArg Value.bool D8)) (by kernel_rfl) (by kernel_rfl) (by kernel_rfl) (fun w hk => ak (v := u53) rfl) (jA 6 (aQ.refl BE _) rfl (uh rfl (congrArg Value.bool D8)) (by kernel_rfl) (by kernel_rfl) (by kernel_rfl) (fun w hk => have h := h.grow hk; fA (vs := [vb0, vb1, (.int .i64 (b.status)), (.int .i64 (b.bQ))]) h 6 rfl di rfl rfl rfl) (jA 8 (aQ.refl BE _) rfl (uh rfl (congrArg Value.bool D8)) (by kernel_rfl) (by kernel_rfl) (by kernel_rfl) (fun w hk => have h := h.grow hk; fA (vs := [Sz, SA, (.int .i64 (c.status)), (.int .i64 (c.bQ))]) h 7 rfl di rfl rfl rfl) ?_)))
 obtain ⟨ws59, SB⟩ : ∃ x, x = w := ⟨_, rfl⟩
 have Av : Grow ws59 w := SB ▸ aQ.refl BE w
 refine Ll SB.symm (w9 5 (by kernel_rfl) rfl (uh rfl (congrArg Value.bool D8)) ?_)
 obtain ⟨yV, Qj, hs⟩ := aM hs
 refine aO Ty rfl rfl (Ah _ _ h.lt u5 y3.1 (h.mU 8 rfl) u53 Ry.1 (h.dJ 18 rfl) _ Qj) ?_
 rintro _ w ⟨JJ, rfl⟩
 refine ⟨_, rfl, ?_⟩
 replace h := h.grow JJ
 replace Av := Av.trans JJ
 refine ah (uj Av (w9 7 (by kernel_rfl) rfl (uh rfl (congrArg Value.bool D8)) ?_))
 obtain ⟨uV, Qk, hs⟩ := aM hs
 refine aO G6 rfl rfl (xI N _ _ h.lt b vb0 vb1 (h.fV 2 rfl) (h.fV 3 rfl) _ Qk) ?_
 rintro _ w ⟨JK, JM, JN, Gn, Gp, rfl, Ql, Qm⟩
 refine ⟨_, rfl, ?_⟩
 replace h := h.IK 103 (C := (.two (.two (.two (.own dn.raw 49 JM (List.zip uV.frames Gn)) (.fU (cu bE 51 hn Gn (List.map dn.sub uV.frames)))) (.own (fo Val).raw 47 JN (List.zip uV.cells Gp))) (.fU (cu bE 51 hn Gp (List.map (fo Val).sub uV.cells))) : Chunk)) JK ⟨⟨⟨trivial, trivial⟩, trivial⟩, trivial⟩ Ql Qm
 replace h := h.iT 103 106 (by decide) rfl rfl
 replace h := h.iT 103 105 (by decide) rfl rfl
 replace h := h.iT 103 104 (by decide) rfl rfl
 replace Av := Av.trans JK
 refine ah (uj Av (w9 9 (by kernel_rfl) rfl (uh rfl (congrArg Value.bool D8)) ?_))
 obtain ⟨uW, Qn, hs⟩ := aM hs
 refine aO G6 rfl rfl (xI N _ _ h.lt c Sz SA (h.fV 4 rfl) (h.fV 5 rfl) _ Qn) ?_
 rintro _ w ⟨JO, JQ, JR, Gq, Gr, rfl, Qo, Qp⟩
 refine ⟨_, rfl, ?_⟩
 replace h := h.IK 127 (C := (.two (.two (.two (.own dn.raw 49 JQ (List.zip uW.frames Gq)) (.fU (cu bE 51 hn Gq (List.map dn.sub uW.frames)))) (.own (fo Val).raw 47 JR (List.zip uW.cells Gr))) (.fU (cu bE 51 hn Gr (List.map (fo Val).sub uW.cells))) : Chunk)) JO ⟨⟨⟨trivial, trivial⟩, trivial⟩, trivial⟩ Qo Qp
 replace h := h.iT 127 130 (by decide) rfl rfl
 replace h := h.iT 127 129 (by decide) rfl rfl
 replace h := h.iT 127 128 (by decide) rfl rfl
 replace Av := Av.trans JO
 refine ah (uj Av (w9 10 (by kernel_rfl) rfl (uh rfl (congrArg Value.bool D8)) ?_))
 obtain ⟨wS, Nk, hs⟩ := aM hs
 refine aO Kb rfl rfl (Cq _ BE (fun _ h => h.elim) uV JM JN (h.BV (N := dn) (R' := eH) 103 104 rfl rfl (by decide) rfl BQ) (h.BV (N := (fo Val)) (R' := (ou bE)) 105 106 rfl rfl (by decide) rfl GL) uW JQ JR (h.BV (N := dn) (R' := eH) 127 128 rfl rfl (by decide) rfl BQ) (h.BV (N := (fo Val)) (R' := (ou bE)) 129 130 rfl rfl (by decide) rfl GL) _ Nk) ?_
 rintro _ w ⟨Gs, rfl⟩
 refine ⟨_, rfl, ?_⟩
 replace h := h.grow Gs
 replace Av := Av.trans Gs
 refine ah (uj Av (jA 11 Av rfl (uh rfl (congrArg Value.bool D8)) (by kernel_rfl) (by kernel_rfl) (by kernel_rfl) (fun w hk => SG Tryz.underlying4 rfl rfl) (jA 12 Av rfl aA (by kernel_rfl) (by kernel_rfl) (by kernel_rfl) (fun w hk => fw (b := false) (v := (.bool ((yV == wS)))) (congrArg Value.bool D8) rfl) (jA 13 Av rfl aA (by kernel_rfl) (by kernel_rfl) (by kernel_rfl) (fun w hk => aj (v := (.bool ((yV == wS)))) rfl) (AR (by kernel_rfl) (aa (aI (bI (v := (.bool ((yV == wS)))) Tryz.results3 rfl ?_))))))))
 obtain rfl := Option.some.inj hs
 exact ⟨h.grown, rfl⟩
end
end Go.Proofs.YtfclkapelkhlpaaGreatDoor
namespace Go.Proofs.YtfclkapelkhlpaaGreatDoor
open Go Go.Proofs Go.LX
theorem Nl : kz NN = some true := by
  unfold kz
  rw [M5]
  kernel_rfl
end Go.Proofs.YtfclkapelkhlpaaGreatDoor
namespace Go.Proofs.YtfclkapelkhlpaaGreatDoor
open Go Go.Proofs Go.LX
def Gt (l : List Val) : List Int := l.flatMap fun v => [v.kind, v.n]
def rowP (l : List Val) : List Int := (l.length : Int) :: Gt l
def Nn (f : LX.Frame) : List Int := f.proc :: f.at_ :: f.kI :: rowP f.regs
def tZ (s : LX.State) : List Int := s.status :: s.bQ :: (s.frames.length : Int) :: (s.frames.flatMap Nn ++ (s.cells.length : Int) :: s.cells.flatMap rowP)
def FB (α : Type) := List Int → Option (α × List Int)
structure Reads {α : Type} (R : FB α) : Prop where
  out : ∀ l x r, R l = some (x, r) → ∃ u, l = u ++ r ∧ (∀ t, R (u ++ t) = some (x, t)) ∧ ∀ v w, v ++ w = u → w ≠ [] → R v = none
def xS {α : Type} (x : α) : FB α := fun l => some (x, l)
def jC {α β : Type} (R : FB α) (f : α → FB β) : FB β := fun l => (R l).bind fun q => f q.1 q.2
def Ib : FB Int := fun l => match l with
  | [] => none
  | x :: r => some (x, r)
def uX (m : Int) : FB Nat := fun l => match l with
  | [] => none
  | x :: r => if 0 ≤ x ∧ x ≤ m then some (x.toNat, r) else none
def lX {α : Type} (R : FB α) : Nat → FB (List α)
  | 0 => xS []
  | n + 1 => jC R fun x => jC (lX R n) fun l => xS (x :: l)
theorem Reads.pure {α : Type} (x : α) : Reads (xS x) := ⟨fun l y r h => by
  cases h
  exact ⟨[], rfl, fun t => rfl, fun v w h hw => absurd (List.append_eq_nil_iff.1 h).2 hw⟩⟩
theorem Reads.num : Reads Ib := ⟨fun l y r h => by
  cases l with
  | nil => cases h
  | cons a l => cases h; exact ⟨[y], rfl, fun t => rfl, fun v w h hw => by
      cases v with
      | nil => rfl
      | cons b v => simp at h; exact absurd h.2.2 hw⟩⟩
theorem Reads.many (m : Int) : Reads (uX m) := ⟨fun l y r h => by
  cases l with
  | nil => cases h
  | cons a l =>
    unfold uX at h
    simp only at h
    by_cases hm : 0 ≤ a ∧ a ≤ m
    · rw [if_pos hm] at h
      cases h
      exact ⟨[a], rfl, fun t => by show (if 0 ≤ a ∧ a ≤ m then some (a.toNat, t) else none) = _; rw [if_pos hm], fun v w h hw => by
        cases v with
        | nil => rfl
        | cons b v => simp at h; exact absurd h.2.2 hw⟩
    · rw [if_neg hm] at h; cases h⟩
theorem Reads.bind {α β : Type} {R : FB α} {f : α → FB β} (hR : Reads R) (hf : ∀ x, Reads (f x)) : Reads (jC R f) := ⟨fun l y r h => by
  unfold jC at h
  cases e : R l with
  | none => rw [e] at h; cases h
  | some q =>
    obtain ⟨x, l2⟩ := q
    rw [e, Option.bind_some] at h
    obtain ⟨u, rfl, hu, hn⟩ := hR.out l x l2 e
    obtain ⟨v, rfl, hv, hm⟩ := (hf x).out l2 y r h
    refine ⟨u ++ v, by simp, fun t => ?_, fun p q hp hq => ?_⟩
    · show (R (u ++ v ++ t)).bind _ = _
      rw [List.append_assoc, hu, Option.bind_some, hv]
    · show (R p).bind _ = _
      rcases List.append_eq_append_iff.1 hp with ⟨a, rfl, rfl⟩ | ⟨a, rfl, rfl⟩
      · by_cases ha : a = []
        · subst ha
          rw [List.append_nil] at hu
          have h0 := hu []
          rw [List.append_nil] at h0
          have : R p = some (x, []) := by simpa using h0
          rw [this, Option.bind_some]
          exact hm [] v rfl (by simpa using hq)
        · rw [hn p a rfl ha]; rfl
      · rw [hu, Option.bind_some]
        exact hm a q rfl hq⟩
theorem Reads.times {α : Type} {R : FB α} (hR : Reads R) : ∀ n, Reads (lX R n)
  | 0 => Reads.pure []
  | n + 1 => Reads.bind hR fun x => Reads.bind (Reads.times hR n) fun l => Reads.pure _
def bE : FB Val := jC Ib fun k => jC Ib fun n => xS ⟨k, n⟩
def ET (m : Int) : FB (List Val) := jC (uX m) fun n => lX bE n
def UT : FB LX.Frame := jC Ib fun p => jC Ib fun a => jC Ib fun t => jC (ET 40) fun r => xS ⟨p, a, r, t⟩
def SC : FB LX.State := jC Ib fun s => jC Ib fun w => jC (uX 10) fun n => jC (lX UT n) fun f => jC (uX 24) fun k => jC (lX (ET 4) k) fun c => xS ⟨f, c, s, w⟩
theorem Rz : Reads bE := Reads.num.bind fun _ => Reads.num.bind fun _ => Reads.pure _
theorem L6 (m : Int) : Reads (ET m) := (Reads.many m).bind fun n => Rz.times n
theorem UU : Reads UT := Reads.num.bind fun _ => Reads.num.bind fun _ => Reads.num.bind fun _ => (L6 40).bind fun _ => Reads.pure _
theorem UW : Reads SC := Reads.num.bind fun _ => Reads.num.bind fun _ => (Reads.many 10).bind fun n => (UU.times n).bind fun _ => (Reads.many 24).bind fun k => ((L6 4).times k).bind fun _ => Reads.pure _
theorem xO {α : Type} {R : FB α} {g : α → List Int} : ∀ (l : List α) (t : List Int), (∀ x ∈ l, ∀ t, R (g x ++ t) = some (x, t)) → lX R l.length (l.flatMap g ++ t) = some (l, t)
  | [], t, _ => rfl
  | x :: l, t, h => by
    show (R (g x ++ l.flatMap g ++ t)).bind _ = _
    rw [List.append_assoc, h x (by simp), Option.bind_some]
    show (lX R l.length (l.flatMap g ++ t)).bind _ = _
    rw [xO l t (fun y hy => h y (List.mem_cons_of_mem _ hy)), Option.bind_some]
    rfl
theorem JS {m : Nat} (l : List Val) (h : l.length ≤ m) (t : List Int) : ET m (rowP l ++ t) = some (l, t) := by
  unfold ET jC rowP uX
  simp only [List.cons_append]
  rw [if_pos (by omega), Option.bind_some, Int.toNat_natCast]
  exact xO l t (fun v _ t => rfl)
theorem UX (f : LX.Frame) (h : f.regs.length ≤ 40) (t : List Int) : UT (Nn f ++ t) = some (f, t) := by
  show ((ET (40 : Nat) (rowP f.regs ++ t)).bind fun q => xS (⟨f.proc, f.at_, q.1, f.kI⟩ : LX.Frame) q.2) = _
  rw [JS f.regs h]; rfl
theorem EU {s : LX.State} (h : Small s) (t : List Int) : SC (tZ s ++ t) = some (s, t) := by
  have h1 := h.frames
  have h2 := h.cells
  show ((uX 10 ((s.frames.length : Int) :: ((s.frames.flatMap Nn ++ (s.cells.length : Int) :: s.cells.flatMap rowP) ++ t))).bind fun q => (lX UT q.1 q.2).bind fun q2 => (uX 24 q2.2).bind fun q3 => (lX (ET 4) q3.1 q3.2).bind fun q4 => xS (⟨q2.1, q4.1, s.status, s.bQ⟩ : LX.State) q4.2) = _
  rw [show uX 10 ((s.frames.length : Int) :: ((s.frames.flatMap Nn ++ (s.cells.length : Int) :: s.cells.flatMap rowP) ++ t)) = some (s.frames.length, (s.frames.flatMap Nn ++ (s.cells.length : Int) :: s.cells.flatMap rowP) ++ t) by
    show (if _ then _ else _) = _
    rw [if_pos (by omega), Int.toNat_natCast], Option.bind_some]
  simp only
  rw [List.append_assoc, xO s.frames _ (fun f hf t => UX f (h.regs f hf) t), Option.bind_some]
  simp only [List.cons_append]
  rw [show uX 24 ((s.cells.length : Int) :: (s.cells.flatMap rowP ++ t)) = some (s.cells.length, s.cells.flatMap rowP ++ t) by
    show (if _ then _ else _) = _
    rw [if_pos (by omega), Int.toNat_natCast], Option.bind_some]
  simp only
  rw [xO (R := ET 4) (g := rowP) s.cells _ (fun c hc t => JS (m := 4) c (h.fields c hc) t), Option.bind_some]
  rfl
theorem pack_inj {s t : LX.State} (hs : Small s) (ht : Small t) (h : tZ s = tZ t) : s = t := by
  have h1 := EU hs []
  rw [h, EU ht []] at h1
  cases h1; rfl
theorem CE (l : List Val) : (Gt l).length = 2 * l.length := by
  induction l with
  | nil => rfl
  | cons v l ih => show ([v.kind, v.n] ++ Gt l).length = _; simp [ih]; omega
theorem JU (m : Nat) : ∀ l : List (List Val), (∀ c ∈ l, c.length ≤ m) → (l.flatMap rowP).length ≤ (2 * m + 1) * l.length
  | [], _ => by simp
  | c :: l, h => by
    have h1 := h c (by simp)
    have h2 := JU m l (fun d hd => h d (List.mem_cons_of_mem _ hd))
    rw [List.flatMap_cons, List.length_append]
    unfold rowP
    rw [List.length_cons, CE, List.length_cons, Nat.mul_succ]
    unfold rowP at h2
    omega
theorem Ic : ∀ l : List LX.Frame, (∀ f ∈ l, f.regs.length ≤ 40) → (l.flatMap Nn).length ≤ 84 * l.length
  | [], _ => by simp
  | f :: l, h => by
    have h1 := h f (by simp)
    have h2 := Ic l (fun d hd => h d (List.mem_cons_of_mem _ hd))
    rw [List.flatMap_cons, List.length_append]
    unfold Nn rowP
    simp only [List.length_cons, CE]
    unfold Nn rowP at h2
    omega
theorem JV {s : LX.State} (h : Small s) : (tZ s).length ≤ 1060 := by
  have h1 := JU 4 s.cells h.fields
  have h2 := Ic s.frames h.regs
  have h3 := h.frames
  have h4 := h.cells
  unfold tZ
  simp only [List.length_cons, List.length_append]
  omega
end Go.Proofs.YtfclkapelkhlpaaGreatDoor
namespace Go.Proofs.YtfclkapelkhlpaaGreatDoor
open Go Go.Proofs Go.LX
theorem JW {α ρ : Type} {body : Int → List Int → (List Int → Option ρ) → Option ρ} {K : List Int → Option ρ} {g : α → List Int} {l : List α} {m B : Nat} (hg : ∀ x ∈ l, (g x).length ≤ m)
    (hb : ∀ (i : Nat) (h : i < l.length) acc nx, acc.length ≤ B + m * i → body (i : Int) acc nx = nx (acc ++ g l[i])) :
    ∀ (k i : Nat) (acc : List Int), i + k = l.length → acc.length ≤ B + m * i → upto body K (i : Int) k acc = K (acc ++ (l.drop i).flatMap g)
  | 0, i, acc, h, _ => by rw [List.drop_eq_nil_of_le (by omega)]; simp [upto]
  | k + 1, i, acc, h, hl => by
    have hi : i < l.length := by omega
    rw [Ct, hb i hi acc _ hl, show ((i : Int) + 1) = ((i + 1 : Nat) : Int) by omega, JW hg hb k (i + 1) _ (by omega) (by
      have := hg _ (List.getElem_mem hi)
      rw [List.length_append, Nat.mul_add]; omega), List.drop_eq_getElem_cons hi, List.flatMap_cons, List.append_assoc]
theorem Gu {α ρ : Type} {body : Int → List Int → (List Int → Option ρ) → Option ρ} {K : List Int → Option ρ} {g : α → List Int} {l : List α} (m B : Nat) (hg : ∀ x ∈ l, (g x).length ≤ m)
    (hb : ∀ (i : Nat) (h : i < l.length) acc nx, acc.length ≤ B + m * i → body (i : Int) acc nx = nx (acc ++ g l[i])) (acc : List Int) (ha : acc.length ≤ B) : upto body K 0 l.length acc = K (acc ++ l.flatMap g) := by
  have := JW (K := K) hg hb l.length 0 acc (by omega) (by omega)
  rw [List.drop_zero] at this
  exact this
theorem values_eq : ∀ (l : List Val) (acc : List Int), acc.length + 2 * l.length ≤ 50000 → qg acc l = some (acc ++ Gt l)
  | [], acc, _ => by simp [qg, fB, om, Gt]
  | v :: l, acc, h => by
    simp only [List.length_cons] at h
    have ih := values_eq l (acc ++ [v.kind, v.n]) (by simp [-List.length_flatMap]; omega)
    unfold qg at ih ⊢
    rw [df]
    generalize each oh om l = K at ih ⊢
    unfold oh
    rw [rX (room_le (by simp [-List.length_flatMap]; omega) (by decide)), ih]
    simp [Gt]
theorem L8 {c : List Val} {m : Nat} (h : c.length ≤ m) : (rowP c).length ≤ 2 * m + 1 := by
  unfold rowP; rw [List.length_cons, CE]; omega
theorem UY {f : LX.Frame} (h : f.regs.length ≤ 40) : (Nn f).length ≤ 84 := by
  unfold Nn
  have := L8 h
  simp only [List.length_cons]; omega
theorem yX {a : List bV} (ha : yO a) {s : LX.State} (h : Fw a s) : Small (lv s) := (PZ ha h).small ha
theorem Np {s : LX.State} (h : Small s) : upto (qV s) (qW s) 0 ((s.frames.length : Int)).toNat [s.status, s.bQ, (s.frames.length : Int)] = some (tZ s, 0) := by
  have hF := h.frames
  have hC := h.cells
  have hl := Ic s.frames h.regs
  rw [Int.toNat_natCast, Gu (g := Nn) (l := s.frames) 84 3 (fun f hf => UY (h.regs f hf)) (fun i hi acc nx hacc => by
    have hr := h.regs _ (List.getElem_mem hi)
    unfold qV
    rw [xe hi, bnd, rX (room_le (by simp [-List.length_flatMap]; omega) (by decide)), values_eq _ _ (by simp [-List.length_flatMap]; omega), bnd]
    unfold Nn rowP
    simp) _ (by simp)]
  unfold qW
  rw [rX (room_le (by simp [-List.length_flatMap]; omega) (by decide)), Int.toNat_natCast, Gu (g := rowP) (l := s.cells) 9 1000 (fun c hc => L8 (h.fields c hc)) (fun i hi acc nx hacc => by
    have hr := h.fields _ (List.getElem_mem hi)
    unfold uD
    rw [xe hi, bnd, rX (room_le (by simp [-List.length_flatMap]; omega) (by decide)), values_eq _ _ (by simp [-List.length_flatMap]; omega), bnd]
    unfold rowP
    simp) _ (by simp [-List.length_flatMap]; omega)]
  unfold uE
  have hp := JV h
  have e : ([s.status, s.bQ, (s.frames.length : Int)] ++ s.frames.flatMap Nn ++ [(s.cells.length : Int)] ++ s.cells.flatMap rowP) = tZ s := by
    unfold tZ; simp
  rw [e, dF (by omega), cond_false]
theorem BH (a : List bV) (s : LX.State) {N : Nat} (hN : 100 ≤ N) : uG N a s = some (if M8 a ≠ 0 then ([], M8 a) else if M9 a s ≠ 0 then ([], M9 a s) else (tZ (lv s), 0)) := by
  unfold uG
  rw [CW, bnd]
  by_cases h1 : M8 a = 0
  · rw [if_neg (by omega), if_neg (by omega)]
    by_cases h2 : M9 a s = 0
    · have ha := EC h1
      have hs := HZ.1 h2
      rw [dF (by omega), cond_false, BB hN (hs.sw ha), bnd, if_neg (by omega)]
      exact Np (yX ha hs)
    · rw [dT h2, cond_true, if_pos h2]
  · rw [if_pos h1, dT h1, cond_true, if_pos h1]
end Go.Proofs.YtfclkapelkhlpaaGreatDoor
namespace Go.Proofs.YtfclkapelkhlpaaGreatDoor
open Go Go.Proofs Go.LX
structure Rel {α : Type} (o : Option (α × List Int)) (b : Bool) (x' : α) (l' : List Int) (b' : Bool) : Prop where
  stay : b = true → b' = true
  ok : b = false → match o with
    | some (x, r) => x' = x ∧ l' = r ∧ b' = false
    | none => b' = true
theorem Rel.pure {α : Type} (x : α) (l : List Int) (b : Bool) : Rel (xS x l) b x l b := ⟨id, fun h => ⟨rfl, rfl, h⟩⟩
theorem Rel.bind {α β : Type} {R : FB α} {f : α → FB β} {l l' l'' : List Int} {b b' b'' : Bool} {x' : α} {y' : β} (h1 : Rel (R l) b x' l' b') (h2 : Rel (f x' l') b' y' l'' b'') : Rel (jC R f l) b y' l'' b'' := by
  refine ⟨fun h => h2.stay (h1.stay h), fun h => ?_⟩
  have := h1.ok h
  unfold jC
  cases e : R l with
  | none => rw [e] at this; exact h2.stay this
  | some q =>
    obtain ⟨x, r⟩ := q
    rw [e] at this
    obtain ⟨rfl, rfl, hb⟩ := this
    exact h2.ok hb
theorem sZ (l : List Int) (b : Bool) : ∃ x l' b', eT ⟨l, b⟩ = some (x, ⟨l', b'⟩) ∧ Rel (Ib l) b x l' b' := by
  unfold eT
  cases l with
  | nil => exact ⟨0, [], true, rfl, fun _ => rfl, fun _ => rfl⟩
  | cons x l =>
    simp only
    rw [dF (by simp; omega), cond_false, show idx (x :: l) 0 = some x from UG x l, bnd, show sub? (x :: l) 1 ((x :: l).length : Int) = some l by
      have := RY (l := x :: l) (a := 1) (b := (x :: l).length) (by simp) (Nat.le_refl _)
      rw [List.take_length] at this
      exact this, bnd]
    exact ⟨x, l, b, rfl, id, fun h => ⟨rfl, rfl, h⟩⟩
theorem BI (m : Nat) (l : List Int) (b : Bool) : ∃ (x : Nat) (l' : List Int) (b' : Bool), iN ⟨l, b⟩ m = some ((x : Int), ⟨l', b'⟩) ∧ x ≤ m ∧ Rel (uX m l) b x l' b' := by
  unfold iN
  obtain ⟨x, l', b', h, hr⟩ := sZ l b
  rw [h, bnd]
  simp only
  by_cases hx : 0 ≤ x ∧ x ≤ (m : Int)
  · rw [dF (by omega), dF (by omega), Bool.or_self, cond_false]
    refine ⟨x.toNat, l', b', by rw [Int.toNat_of_nonneg hx.1], by omega, hr.stay, fun hb => ?_⟩
    have := hr.ok hb
    cases l with
    | nil => exact this
    | cons y l =>
      obtain ⟨rfl, rfl, hb'⟩ := this
      rw [show uX (m : Int) (x :: l') = some (x.toNat, l') from if_pos hx]; exact ⟨rfl, rfl, hb'⟩
  · rw [show (decide (x < 0) || decide ((m : Int) < x)) = true by
      rw [Bool.or_eq_true, decide_eq_true_eq, decide_eq_true_eq]; omega, cond_true]
    refine ⟨0, l', true, rfl, by omega, fun _ => rfl, fun hb => ?_⟩
    have := hr.ok hb
    cases l with
    | nil => rfl
    | cons y l =>
      obtain ⟨rfl, rfl, hb'⟩ := this
      rw [show uX (m : Int) (x :: l') = none from if_neg hx]
theorem zS (n : Nat) (hn : n ≤ 100) : ∀ (m M i : Nat) (acc : List Val) (l : List Int) (b : Bool), i + m = n → acc.length = i → m < M →
    ∃ vs l' b', again (fI n) M (acc, (i : Int), l, b) = some (acc ++ vs, ⟨l', b'⟩) ∧ vs.length = m ∧ Rel (lX bE m l) b vs l' b'
  | m, 0, i, acc, l, b, _, _, hM => by omega
  | 0, M + 1, i, acc, l, b, hi, _, _ => by
    rw [xL]
    unfold fI
    simp only
    rw [dF (by omega), cond_false]
    exact ⟨[], l, b, by simp, rfl, Rel.pure [] l b⟩
  | m + 1, M + 1, i, acc, l, b, hi, ha, hM => by
    rw [xL]
    have ih := zS n hn m M (i + 1)
    generalize again (fI n) M = K at ih ⊢
    unfold fI
    simp only
    rw [dT (by omega), cond_true]
    obtain ⟨x, l1, b1, e1, r1⟩ := sZ l b
    rw [e1, bnd]
    simp only
    obtain ⟨y, l2, b2, e2, r2⟩ := sZ l1 b1
    rw [e2, bnd]
    simp only
    rw [rX (room_le (by simp; omega) (by decide)), gI (by omega) (by omega)]
    obtain ⟨vs, l3, b3, e3, hl, r3⟩ := ih (acc ++ [⟨x, y⟩]) l2 b2 (by omega) (by simp; omega) (by omega)
    refine ⟨⟨x, y⟩ :: vs, l3, b3, ?_, by simp [hl], ?_⟩
    · rw [show ((i : Int) + 1) = ((i + 1 : Nat) : Int) by omega, e3]; simp
    · exact Rel.bind (Rel.bind r1 (Rel.bind r2 (Rel.pure _ _ _))) (Rel.bind r3 (Rel.pure _ _ _))
theorem EW {N n : Nat} (hn : n ≤ 100) (hN : 200 ≤ N) (l : List Int) (b : Bool) : ∃ vs l' b', kv N ⟨l, b⟩ n = some (vs, ⟨l', b'⟩) ∧ vs.length = n ∧ Rel (lX bE n l) b vs l' b' := by
  unfold kv
  obtain ⟨vs, l', b', e, hl, hr⟩ := zS n hn n N 0 [] l b (by omega) rfl (by omega)
  exact ⟨vs, l', b', by simpa using e, hl, hr⟩
def none0 : LX.State := ⟨[], [], 0, 0⟩
def Nq (a : List bV) (s : LX.State) : LX.State × Int :=
  if M8 a ≠ 0 then (none0, M8 a) else if M9 a s ≠ 0 then (none0, M9 a s) else if lv s = s then (s, 0) else (none0, 4)
def vE (a : List bV) (l : List Int) : LX.State × Int :=
  if 1200 < l.length then (none0, 2) else match SC l with
    | some (s, []) => Nq a s
    | _ => (none0, 8)
theorem UZ (a : List bV) (s : LX.State) {N : Nat} (hN : 100 ≤ N) : ((wJ a s).bind fun y168 => bif decide ((y168 : Int) ≠ 0) then some (none0, y168) else (sU N s).bind fun x => (xK x s).bind fun y => bif (!y) then some (none0, 4) else some (s, 0)) = some (Nq a s) := by
  rw [CW, bnd]
  unfold Nq
  by_cases h1 : M8 a = 0
  · rw [if_neg (by omega), if_neg (by omega)]
    by_cases h2 : M9 a s = 0
    · have ha := EC h1
      rw [dF (by omega), cond_false, BB hN ((HZ.1 h2).sw ha), bnd, LV, bnd, if_neg (by omega)]
      by_cases h3 : lv s = s
      · rw [dT h3, if_pos h3]; rfl
      · rw [dF h3, if_neg h3]; rfl
    · rw [dT h2, cond_true, if_pos h2]
  · rw [if_pos h1, dT h1, cond_true, if_pos h1]
theorem Gv {N : Nat} (hN : 200 ≤ N) (mY : Int × ib) (a : List bV) (fr : List LX.Frame) (y6 pJ : Int × ib) (n : Nat) (hy : mY.1 = n) (hn : n ≤ 24) :
    ∀ (m M i : Nat) (acc : List (List Val)) (l : List Int) (b : Bool), i + m = n → acc.length = i → m < M →
    ∃ cs l' b', again (ky N mY a fr y6 pJ) M ((i : Int), l, b, acc) = (bif (b' || decide ((0 : Int) < (l'.length : Int))) then some (none0, 8) else some (Nq a ⟨fr, acc ++ cs, y6.1, pJ.1⟩)) ∧ Rel (lX (ET 4) m l) b cs l' b'
  | m, 0, i, acc, l, b, _, _, hM => by omega
  | 0, M + 1, i, acc, l, b, hi, _, _ => by
    rw [xL]
    unfold ky
    simp only
    rw [dF (by omega), cond_false]
    refine ⟨[], l, b, ?_, Rel.pure [] l b⟩
    rw [List.append_nil, ← UZ a ⟨fr, acc, y6.1, pJ.1⟩ (N := N) (by omega)]
    rfl
  | m + 1, M + 1, i, acc, l, b, hi, ha, hM => by
    rw [xL]
    have ih := Gv hN mY a fr y6 pJ n hy hn m M (i + 1)
    generalize again (ky N mY a fr y6 pJ) M = K at ih ⊢
    unfold ky
    simp only
    rw [dT (by omega), cond_true]
    obtain ⟨x, l1, b1, e1, hx, r1⟩ := BI 4 l b
    rw [show ((4 : Nat) : Int) = 4 from rfl] at e1
    rw [e1, bnd]
    simp only
    obtain ⟨vs, l2, b2, e2, hv, r2⟩ := EW (N := N) (n := x) (by omega) hN l1 b1
    rw [e2, bnd]
    simp only
    rw [rX (room_le (by simp; omega) (by decide))]
    unfold uQ
    rw [gI (by omega) (by omega)]
    obtain ⟨cs, l3, b3, e3, r3⟩ := ih (acc ++ [vs]) l2 b2 (by omega) (by simp; omega) (by omega)
    refine ⟨vs :: cs, l3, b3, ?_, ?_⟩
    · rw [show ((i : Int) + 1) = ((i + 1 : Nat) : Int) by omega, e3]; simp
    · exact Rel.bind (Rel.bind r1 r2) (Rel.bind r3 (Rel.pure _ _ _))
theorem K7 {α β : Type} {R : FB α} {m : Nat} {G : List α → FB β} {l : List Int} : jC (lX R (m + 1)) G l = jC R (fun x => jC (lX R m) fun fs => G (x :: fs)) l := by
  show ((jC R (fun x => jC (lX R m) fun l => xS (x :: l)) l).bind _) = _
  unfold jC
  cases R l with
  | none => rfl
  | some q =>
    rw [Option.bind_some, Option.bind_some]
    simp only
    cases lX R m q.2 with
    | none => rfl
    | some q2 => rfl
theorem EX {N : Nat} (hN : 200 ≤ N) (y22 : Int × ib) (a : List bV) (y6 pJ : Int × ib) (n : Nat) (hy : y22.1 = n) (hn : n ≤ 10) :
    ∀ (m M i : Nat) (acc : List LX.Frame) (l : List Int) (b : Bool), i + m = n → acc.length = i → m < M →
    ∃ (s : LX.State) (l' : List Int) (b' : Bool), again (jf N y22 a y6 pJ) M ((i : Int), l, b, acc) = (bif (b' || decide ((0 : Int) < (l'.length : Int))) then some (none0, 8) else some (Nq a s)) ∧
      Rel (jC (lX UT m) (fun f => jC (uX 24) fun k => jC (lX (ET 4) k) fun c => xS (⟨acc ++ f, c, y6.1, pJ.1⟩ : LX.State)) l) b s l' b'
  | m, 0, i, acc, l, b, _, _, hM => by omega
  | 0, M + 1, i, acc, l, b, hi, _, _ => by
    rw [xL]
    unfold jf
    simp only
    rw [dF (by omega), cond_false]
    obtain ⟨x, l1, b1, e1, hx, r1⟩ := BI 24 l b
    rw [show ((24 : Nat) : Int) = 24 from rfl] at e1
    rw [e1, bnd]
    simp only
    obtain ⟨cs, l2, b2, e2, r2⟩ := Gv hN ((x : Int), ⟨l1, b1⟩) a acc y6 pJ x rfl hx x N 0 [] l1 b1 (by omega) rfl (by omega)
    refine ⟨⟨acc ++ [], [] ++ cs, y6.1, pJ.1⟩, l2, b2, ?_, ?_⟩
    · rw [List.append_nil]; exact e2
    · exact Rel.bind (Rel.pure [] l b) (Rel.bind r1 (Rel.bind r2 (Rel.pure _ _ _)))
  | m + 1, M + 1, i, acc, l, b, hi, ha, hM => by
    rw [xL]
    have ih := EX hN y22 a y6 pJ n hy hn m M (i + 1)
    generalize again (jf N y22 a y6 pJ) M = K at ih ⊢
    unfold jf
    simp only
    rw [dT (by omega), cond_true]
    obtain ⟨p, l1, b1, e1, r1⟩ := sZ l b
    rw [e1, bnd]
    simp only
    obtain ⟨q, l2, b2, e2, r2⟩ := sZ l1 b1
    rw [e2, bnd]
    simp only
    obtain ⟨t, l3, b3, e3, r3⟩ := sZ l2 b2
    rw [e3, bnd]
    simp only
    obtain ⟨x, l4, b4, e4, hx, r4⟩ := BI 40 l3 b3
    rw [show ((40 : Nat) : Int) = 40 from rfl] at e4
    rw [e4, bnd]
    simp only
    obtain ⟨vs, l5, b5, e5, hv, r5⟩ := EW (N := N) (n := x) (by omega) hN l4 b4
    rw [e5, bnd]
    simp only
    rw [rX (room_le (by simp; omega) (by decide)), gI (by omega) (by omega)]
    obtain ⟨s, l6, b6, e6, r6⟩ := ih (acc ++ [⟨p, q, vs, t⟩]) l5 b5 (by omega) (by simp; omega) (by omega)
    refine ⟨s, l6, b6, ?_, ?_⟩
    · rw [show ((i : Int) + 1) = ((i + 1 : Nat) : Int) by omega, e6]
    · have hfr : Rel (UT l) b ⟨p, q, vs, t⟩ l5 b5 := Rel.bind r1 (Rel.bind r2 (Rel.bind r3 (Rel.bind (Rel.bind r4 r5) (Rel.pure _ _ _))))
      simp only [List.append_assoc, List.cons_append, List.nil_append] at r6
      rw [K7]
      exact Rel.bind (f := fun x => jC (lX UT m) fun fs => jC (uX 24) fun k => jC (lX (ET 4) k) fun c => xS (⟨acc ++ x :: fs, c, y6.1, pJ.1⟩ : LX.State)) hfr r6
theorem RA {a : List bV} {l l' : List Int} {b' : Bool} {s : LX.State} {y : Option (LX.State × Int)} (hl : ¬ 1200 < l.length) (hr : Rel (SC l) false s l' b') (h : y = (bif (b' || decide ((0 : Int) < (l'.length : Int))) then some (none0, 8) else some (Nq a s))) : y = some (vE a l) := by
  rw [h]
  unfold vE
  rw [if_neg hl]
  have := hr.ok rfl
  cases e : SC l with
  | none => rw [e] at this; simp only at this; subst this; rfl
  | some q =>
    obtain ⟨s2, r⟩ := q
    rw [e] at this
    obtain ⟨rfl, rfl, rfl⟩ := this
    cases l' with
    | nil => rfl
    | cons x l' => rw [Bool.false_or, dT (by simp), cond_true]
theorem yY (a : List bV) (l : List Int) {N : Nat} (hN : 200 ≤ N) : oo N a l = some (vE a l) := by
  unfold oo
  by_cases hl : 1200 < l.length
  · rw [dT (by omega), cond_true]
    unfold vE
    rw [if_pos hl]; rfl
  · rw [dF (by omega), cond_false]
    obtain ⟨st, l1, b1, e1, r1⟩ := sZ l false
    rw [e1, bnd]
    simp only
    obtain ⟨wh, l2, b2, e2, r2⟩ := sZ l1 b1
    rw [e2, bnd]
    simp only
    obtain ⟨x, l3, b3, e3, hx, r3⟩ := BI 10 l2 b2
    rw [show ((10 : Nat) : Int) = 10 from rfl] at e3
    rw [e3, bnd]
    simp only
    obtain ⟨s, l4, b4, e4, r4⟩ := EX hN ((x : Int), ⟨l3, b3⟩) a (st, ⟨l1, b1⟩) (wh, ⟨l2, b2⟩) x rfl hx x N 0 [] l3 b3 (by omega) rfl (by omega)
    exact RA hl (Rel.bind r1 (Rel.bind r2 (Rel.bind r3 r4))) e4
end Go.Proofs.YtfclkapelkhlpaaGreatDoor
namespace Go.Proofs.YtfclkapelkhlpaaGreatDoor
open Go Go.Proofs Go.LX
section
variable {I : List Int} (hI : I.length ≤ 1200)
include hI
omit hI in
end
end Go.Proofs.YtfclkapelkhlpaaGreatDoor
namespace Go.Proofs.YtfclkapelkhlpaaGreatDoor
open Go Go.Proofs Go.LX
theorem L9 : 200 ≤ NN := by decide
theorem Ie : 100 ≤ NN := by decide
theorem Qq {s : LX.State} (h : Small s) : SC (tZ s) = some (s, []) := by
  have := EU h []
  rw [List.append_nil] at this
  exact this
theorem CY {a : List bV} {l : List Int} (h : ∀ s, SC l ≠ some (s, [])) : (vE a l).2 ≠ 0 := by
  unfold vE
  by_cases hl : 1200 < l.length
  · rw [if_pos hl]; simp
  · rw [if_neg hl]
    cases e : SC l with
    | none => simp
    | some q =>
      obtain ⟨s, r⟩ := q
      cases r with
      | nil => exact absurd e (h s)
      | cons x r => simp
theorem snapTorn (a : List bV) (b c : LX.State) (d e : Int) : ∃ N, oq N a b c d e = some true := by
  refine ⟨NN, ?_⟩
  unfold oq
  rw [BH a b Ie, bnd, Nl, bnd, Bool.not_true, Bool.false_or]
  by_cases h1 : M8 a = 0
  · rw [if_neg (by omega)]
    by_cases h2 : M9 a b = 0
    · have ha := EC h1
      have hb := HZ.1 h2
      have hs := yX ha hb
      have hlen := JV hs
      have hread := Qq hs
      have hpos : 0 < (tZ (lv b)).length := by unfold tZ; simp
      rw [if_neg (by omega), dF (by simp), cond_false]
      obtain ⟨r, r1, r2, r3⟩ := at_eq d (n := ((tZ (lv b)).length : Int)) (by omega) (by omega)
      obtain ⟨k, rfl⟩ : ∃ k : Nat, r = k := ⟨r.toNat, by omega⟩
      simp only
      have hsub := RY (l := tZ (lv b)) (a := 0) (b := k) (by omega) (by omega)
      rw [show ((0 : Nat) : Int) = 0 from rfl, List.drop_zero] at hsub
      rw [r1, bnd, hsub, bnd, yY a _ L9, bnd]
      obtain ⟨u, hu1, hu2, hu3⟩ := UW.out _ _ _ hread
      rw [List.append_nil] at hu1
      subst hu1
      have t1 : (vE a ((tZ (lv b)).take k)).2 ≠ 0 := CY (fun s hs => by
        rw [hu3 _ _ (List.take_append_drop k _) (by
          intro h0
          have := congrArg List.length h0
          rw [List.length_drop, List.length_nil] at this; omega)] at hs
        cases hs)
      rw [dF t1, cond_false, QD (by omega) (by omega), bnd, rX (room_le (by simp; omega) (by decide)), yY a _ L9, bnd]
      have t2 : (vE a (tZ (lv b) ++ [e])).2 ≠ 0 := CY (fun s hs => by
        rw [hu2] at hs; cases hs)
      rw [dF t2, cond_false, BH a c Ie, bnd, if_neg (by omega)]
      by_cases h3 : M9 a c = 0
      · have hc := HZ.1 h3
        rw [if_neg (by omega), dF (by simp), cond_false, Xj, bnd, BB Ie (hb.sw ha), bnd, BB Ie (hc.sw ha), bnd, LV, bnd]
        by_cases h4 : lv b = lv c
        · rw [dT h4, dT (by rw [h4])]; rfl
        · rw [dF h4, dF (fun h => h4 (pack_inj hs (yX ha hc) h))]; rfl
      · rw [if_pos h3, dT h3, cond_true]
    · rw [if_pos h2, dT h2, cond_true, bnd]
  · rw [if_pos h1, dT h1, cond_true, bnd]
end Go.Proofs.YtfclkapelkhlpaaGreatDoor
