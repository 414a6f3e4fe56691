/-
  What the law SnapSays needs of our own library and of the walks, no more.
-/
import Derived.Test.YtfclkapelkhlpaaGreatDoorProg
import Derived.Test.YtfclkapelkhlpaaGreatDoorSnapSaysTf
set_option linter.unusedSimpArgs false
set_option linter.unusedVariables false
set_option maxRecDepth 10000
namespace Go.Proofs.YtfclkapelkhlpaaGreatDoor
open Go Go.Proofs Go.LX
noncomputable section
theorem Fy : iy Tryz.prog 80 0 0 := ⟨_, _, 0, Tryz.underlying80, rfl, rfl, by kernel_rfl⟩
theorem Mq : iy Tryz.prog 80 1 1 := ⟨_, _, 0, Tryz.underlying80, rfl, rfl, by kernel_rfl⟩
theorem VS : gu Tryz.prog 13 := ⟨_, Tryz.func13, by kernel_rfl, rfl⟩
theorem fnOk14 : gu Tryz.prog 14 := ⟨_, Tryz.func14, by kernel_rfl, rfl⟩
theorem PO : gu Tryz.prog 15 := ⟨_, Tryz.func15, by kernel_rfl, rfl⟩
theorem fnOk23 : gu Tryz.prog 23 := ⟨_, Tryz.func23, by kernel_rfl, rfl⟩
theorem fnOk25 : gu Tryz.prog 25 := ⟨_, Tryz.func25, by kernel_rfl, rfl⟩
theorem VT : gu Tryz.prog 38 := ⟨_, Tryz.func38, by kernel_rfl, rfl⟩
theorem CY : gu Tryz.prog 41 := ⟨_, Tryz.func41, by kernel_rfl, rfl⟩
theorem Jq : gu Tryz.prog 42 := ⟨_, Tryz.func42, by kernel_rfl, rfl⟩
theorem Mr : gu Tryz.prog 43 := ⟨_, Tryz.func43, by kernel_rfl, rfl⟩
theorem VU : gu Tryz.prog 57 := ⟨_, Tryz.func57, by kernel_rfl, rfl⟩
theorem Ms : gu Tryz.prog 60 := ⟨_, Tryz.func60, by kernel_rfl, rfl⟩
theorem zU : gu Tryz.prog 61 := ⟨_, Tryz.func61, by kernel_rfl, rfl⟩
theorem PQ : gu Tryz.prog 62 := ⟨_, Tryz.func62, by kernel_rfl, rfl⟩
theorem BV : One Tryz.prog 82 .nilFunc := ⟨⟨_, Tryz.underlying82, trivial⟩, by kernel_rfl, rfl⟩
theorem VV : Struct Tryz.prog 80 [(.slice none 0 0), (.bool (false))] [(0, 1), (1, 1)] := ⟨by kernel_rfl, _, Tryz.underlying80, by kernel_rfl⟩
def sO (eH : Val) (x8 : List Int) (l8 : List Int → Option (List Int)) : Option (List Int) :=
  iA (Room 8 x8 [eH.kind, eH.n]) (l8 (x8 ++ [eH.kind, eH.n]))
def sP (x8 : List Int) : Option (List Int) :=
  some x8
def uU (sx : List Int) (a : List Val) : Option (List Int) :=
  each sO sP a sx
theorem DW (w0 : World) (M : BS) (hM : ∀ b, M b → b < w0.heap.size) (sv : Value) (sx : List Int) (hC : Chunk.holds w0 M (Chunk.own' (.own dw 3 sv sx : Chunk)) (.own dw 3 sv sx : Chunk)) (hap : ∀ b, Chunk.own' (.own dw 3 sv sx : Chunk) b → ¬ M b) (va : Value) (a : List Val) (ha : gF aY w0 (fun b => M b ∨ (.own dw 3 sv sx : Chunk).own' b) va a) (r : List Int) (hs : uU sx a = some r) :
    Calls Tryz.prog 38 #[sv, va] w0 (fun e w' => aQ (Chunk.own' (.own dw 3 sv sx : Chunk)) w0 w' ∧ ∃ Jr, e = .returned (Jr) ∧ Chunk.holds w' M (Chunk.own' (.own dw 3 Jr r : Chunk)) (.own dw 3 Jr r : Chunk) ∧ (∀ b, Chunk.own' (.own dw 3 Jr r : Chunk) b → b < w0.heap.size → Chunk.own' (.own dw 3 sv sx : Chunk) b)) := by
 refine aL (args := [sv, va]) Tryz.func38 rfl Tryz.ntmps38 (bH rfl) ?_
 have h := SH.EO hM hC hap
 replace h := h.Cq 2 ha zh
 generalize Hy : (.own dw 3 sv sx : Chunk).own' = K0 at h
 have tQ := ha.bD
 refine nG (aa (ae (v := (.slice none 0 0)) rfl) (nK (aa (ag (v := va) rfl) (aa (aX di rfl (h.lF 2 rfl)) (aa (ag (v := (I6 0)) rfl) (nN (aH (eF (σ := Nat × Int × Value × List Int) (inl ([0, 6] ++ rg 9 12)) (fun ⟨k9, i10, v7, x8⟩ => [(0, v7), (9, (I6 i10))]) (fun ⟨k9, i10, v7, x8⟩ w => SH w0 M K0 w (hset [(1, .own dw 3 v7 x8), (2, .rd aY va a)]) ∧ i10 = (k9 : Int) ∧ each sO sP (a.drop k9) x8 = some r) (fun ⟨k9, i10, v7, x8⟩ => a.length - k9) ⟨0, 0, sv, sx⟩ ⟨rfl, rfl, trivial⟩ ?_ ?_))))))))
 exact ⟨h.cn _, rfl, hs⟩
 rintro ⟨k9, i10, v7, x8⟩ w dC ⟨h, hik, hs⟩
 refine nG ?_
 refine aa (dK rfl rfl) (nN ?_)
 refine aJ (fD rfl (fun e14 => ?_) (fun e14 => ?_))
 refine aG (aj ?_)
 obtain ⟨eH, IB, IC⟩ := eU (hik ▸ e14)
 rw [IC, df] at hs
 generalize Cw : each sO sP (a.drop (k9 + 1)) = l8 at hs
 have IE := eZ ((h.lF 2 rfl)).bD hik e14
 refine aJ (aH (nG ?_))
 obtain ⟨b17, o18, UA, h, Rs, i16⟩ := h.FH 2 3 rfl di rfl (gB hik) (eY hik IB)
 obtain rfl := Rs
 refine aa (i16 _ _ _ _ _ _ _ _ _ rfl rfl) (aa (iD (k := 0) (vs := [(I6 eH.kind), (I6 eH.n)]) h 3 rfl dR rfl rfl rfl (bH rfl)) (bu h 4 dR fun w Iy h => dN (vs := [(I6 eH.kind), (I6 eH.n)]) h 4 [(I6 eH.kind), (I6 eH.n)] rfl dR rfl rfl rfl rfl rfl (ai rfl (ai rfl aS)) fun w h => nN (ay (aa (ag (v := v7) rfl) (aa (ah rV rfl) (aa (aB h 4 rfl aP rfl rfl) (aa (ah jF rfl) (aa (aB h 4 rfl aP rfl rfl) (mX (R := dw) (vs := [(I6 eH.kind), (I6 eH.n)]) (xs := [eH.kind, eH.n]) h 5 fq rfl rfl rfl ⟨rfl, ⟨rfl, trivial⟩⟩ rfl fun w u22 h => ?_)))))))))
 obtain ⟨a23, hs⟩ := bE hs
 refine jb (R := dw) (m := [eH.kind, eH.n]) h 1 rfl (h.dJ 5 rfl) fq rfl rfl rfl a23.1 a23.2 fun w u24 h => aa (ae (v := u24) rfl) (aC (au (aj (ay (aa (dz rfl rfl IE) (aa (ag (v := (I6 ((i10 + 1)))) rfl) (aC (ak ?_))))))))
 subst Cw
 exact iw ⟨k9 + 1, i10 + 1, u24, (x8 ++ [eH.kind, eH.n])⟩ ⟨h.cn _, by omega, hs⟩ (by have := kQ e14; dsimp only; omega)
 rw [eX (hik ▸ e14), dZ] at hs
 refine nE (aa (ag (v := v7) rfl) (aa (ae (v := v7) rfl) (nR (bI (v := v7) Tryz.results38 rfl ?_))))
 obtain rfl := gK hs
 subst Hy
 obtain ⟨o1, o2, o3⟩ := h.zI 1 (C := (.own dw 3 v7 x8 : Chunk)) rfl trivial
 exact ⟨o2, v7, rfl, o1, o3⟩
def yB (y6 : LX.State) (i60 : Int) (wV : List Int) (nx63 : List Int → Option (List Int × Int)) : Option (List Int × Int) :=
  (idx y6.cells i60).bind fun x66 => iA (Room 8 wV [(x66.length : Int)]) ((uU (wV ++ [(x66.length : Int)]) x66).bind fun y80 => nx63 y80)
def yC (wV : List Int) : Option (List Int × Int) :=
  bif decide ((1200 : Int) < (wV.length : Int)) then some ([], 2) else some (wV, 0)
def wB (y6 : LX.State) (i25 : Int) (mZ : List Int) (nx28 : List Int → Option (List Int × Int)) : Option (List Int × Int) :=
  (idx y6.frames i25).bind fun x31 => iA (Room 8 mZ [x31.proc, x31.at_, x31.ja, (x31.regs.length : Int)]) ((uU (mZ ++ [x31.proc, x31.at_, x31.ja, (x31.regs.length : Int)]) x31.regs).bind fun Du => nx28 Du)
def wC (y6 : LX.State) (mZ : List Int) : Option (List Int × Int) :=
  iA (Room 8 mZ [(y6.cells.length : Int)]) (upto (yB y6) yC 0 ((y6.cells.length : Int)).toNat (mZ ++ [(y6.cells.length : Int)]))
def AP (N : Nat) (a : List cz) (b : LX.State) : Option (List Int × Int) :=
  (Aq a b).bind fun y2 => bif decide ((y2 : Int) ≠ 0) then some ([], y2) else (Av N b).bind fun y6 => upto (wB y6) (wC y6) 0 ((y6.frames.length : Int)).toNat [y6.status, y6.bB, (y6.frames.length : Int)]
theorem GN (N : Nat) (w0 : World) (M : BS) (hM : ∀ b, M b → b < w0.heap.size) (va : Value) (a : List cz) (ha : fK jE w0 BE M va a) (b : LX.State) (vb0 vb1 : Value) (hb0 : fK dM w0 BE M vb0 b.frames) (hb1 : fK (kW aY) w0 BE M vb1 b.cells) (r : List Int × Int) (hs : AP N a b = some r) :
    Calls Tryz.prog 13 #[va, (.agg #[vb0, vb1, (I6 b.status), (I6 b.bB)])] w0 (fun e w' => Grow w0 w' ∧ ∃ u0, e = .returned (.tuple #[u0, .int .i64 r.2]) ∧ fI dw 3 w' M u0 r.1 ∧ (∀ b, ob u0 b → w0.heap.size ≤ b)) := by
 refine aL (args := [va, (.agg #[vb0, vb1, (I6 b.status), (I6 b.bB)])]) Tryz.func13 rfl Tryz.ntmps13 (bH rfl) ?_
 have h := SH.init hM
 replace h := h.eu 1 ha aT
 replace h := h.eu 2 hb0 (aW aT)
 replace h := h.eu 3 hb1 (aW (aW aT))
 have tQ := ha.bD
 refine nG (l7 (cs := [vb0, vb1, (I6 b.status), (I6 b.bB)]) h 4 rfl rfl fun w b1 h => aa (ae (v := (.slice none 0 0)) rfl) (aa (ae (v := (I6 0)) rfl) (nK (aa (ag (v := va) rfl) (aa (eB (vs := [vb0, vb1, (I6 b.status), (I6 b.bB)]) h 4 rfl bM rfl rfl rfl) ?_)))))
 obtain ⟨y2, e3, hs⟩ := aM hs
 refine aO TR rfl rfl (IU _ _ h.lt va a (h.fQ 1 rfl) b vb0 vb1 (h.fQ 2 rfl) (h.fQ 3 rfl) _ e3) ?_
 rintro _ w ⟨k4, rfl⟩
 refine ⟨_, rfl, ?_⟩
 replace h := h.grow k4
 refine aa (ae (v := (I6 y2)) rfl) (nJ (aa (ag (v := (I6 y2)) rfl) (aa (gV rfl rfl) (nN (aK hs rfl (fun c5 hs => ?_) (fun c5 hs => ?_))))))
 refine nG (aa (ag (v := (I6 y2)) rfl) (aa (ae (v := (.slice none 0 0)) rfl) (aa (ae (v := (I6 y2)) rfl) (nR (ax (Dz (v1 := (.slice none 0 0)) (v2 := (I6 y2)) Tryz.results13 rfl rfl ?_))))))
 obtain rfl := gK hs
 exact ⟨h.grown, _, rfl, fI.nil, qa⟩
 refine nS (aa (eB (vs := [vb0, vb1, (I6 b.status), (I6 b.bB)]) h 4 rfl bM rfl rfl rfl) ?_)
 obtain ⟨y6, e7, hs⟩ := aM hs
 refine aO TP rfl rfl (IY N _ _ h.lt b vb0 vb1 (h.fQ 2 rfl) (h.fQ 3 rfl) _ e7) ?_
 rintro _ w ⟨k14, u8, MI, us9, Ei, rfl, h12, h13⟩
 refine ⟨_, rfl, ?_⟩
 replace h := h.Lu 5 (C := (cU u8 MI y6.frames us9 y6.cells Ei)) k14 ⟨⟨⟨trivial, trivial⟩, trivial⟩, trivial⟩ h12 h13
 replace h := h.gJ 5 8 (by decide) rfl rfl
 replace h := h.gJ 5 7 (by decide) rfl rfl
 replace h := h.gJ 5 6 (by decide) rfl rfl
 refine dN (vs := [u8, MI, (I6 y6.status), (I6 y6.bB)]) h 4 [u8, MI, (I6 y6.status), (I6 y6.bB)] rfl bM rfl rfl rfl rfl rfl (ai (h.eD 5 rfl).one (ai (h.eD 7 rfl).one (ai rfl (ai rfl aS)))) fun w h => nJ (aa (ah qI rfl) (aa (aB h 4 rfl aP rfl rfl) (aa (ah sZ rfl) (aa (aB h 4 rfl aP rfl rfl) (aa (ah gQ rfl) (aa (aB h 4 rfl lJ rfl rfl) (aa (wL (N := fo) dI rfl (h.dJ 5 rfl) (h.lq 6 rfl)) (mX (R := dw) (vs := [(I6 y6.status), (I6 y6.bB), (I6 ((y6.frames.length : Int)))]) (xs := [y6.status, y6.bB, (y6.frames.length : Int)]) h 9 fq rfl rfl rfl ⟨rfl, ⟨rfl, ⟨rfl, trivial⟩⟩⟩ rfl fun w Dk h => aa (ae (v := Dk) rfl) (nK (aa (ah gQ rfl) (aa (aB h 4 rfl lJ rfl rfl) (aa (wL (N := fo) dI rfl (h.dJ 5 rfl) (h.lq 6 rfl)) (aa (ag (v := (I6 0)) rfl) (aC ?_))))))))))))))
 refine aj (aH ?_)
 have hli25 := Ct (h.dJ 5 rfl) (h.lq 6 rfl)
 refine eF (σ := Nat × Int × Value × List Int) (inl ([7, 9] ++ rg 31 20)) (fun ⟨k24, i25, v22, mZ⟩ => [(7, v22), (31, (I6 i25))]) (fun ⟨k24, i25, v22, mZ⟩ w => SH w0 M BE w (hset [(4, .blk b1 [u8, MI, (I6 y6.status), (I6 y6.bB)]), (5, .own fo.raw 49 u8 (List.zip y6.frames us9)), (6, .jv (fw aY 51 hn us9 (List.map fo.sub y6.frames))), (7, .own (gW Val).raw 47 MI (List.zip y6.cells Ei)), (8, .jv (fw aY 51 hn Ei (List.map (gW Val).sub y6.cells))), (9, .own dw 3 v22 mZ)]) ∧ i25 = (k24 : Int) ∧ upto (wB y6) (wC y6) i25 (((y6.frames.length : Int)).toNat - k24) mZ = some r) (fun ⟨k24, i25, v22, mZ⟩ => ((y6.frames.length : Int)).toNat - k24) ⟨0, 0, Dk, [y6.status, y6.bB, (y6.frames.length : Int)]⟩ ⟨rfl, rfl, trivial⟩ ?_ ?_
 exact ⟨h.cn _, rfl, hs⟩
 rintro ⟨k24, i25, v22, mZ⟩ w dC ⟨h, hik, hs⟩
 refine nG ?_
 refine aa (dK rfl rfl) (nN ?_)
 refine aJ (fD rfl (fun e29 => ?_) (fun e29 => ?_))
 refine aG (aj ?_)
 rw [lv (by have := kQ e29; omega)] at hs
 generalize hnx28 : upto (wB y6) (wC y6) (i25 + 1) (((y6.frames.length : Int)).toNat - (k24 + 1)) = nx28 at hs
 have e30r : jN (i25 + 1) := (by have := kQ e29; have := hli25; exact jN.mk (by omega) (by omega))
 refine aJ (aH (nG ?_))
 obtain ⟨x31, e32, hs⟩ := aM hs
 obtain ⟨u36, e37, h⟩ := h.Bn 6 10 x31.regs rfl rfl (by decide) (aR e32).2 rfl
 obtain ⟨MG, q35, i33⟩ := h.FL 5 rfl dI rfl (aR e32).1 (kX (aR e32).2 e37)
 refine aa (i33 _ _ _ _ _ _ _ _ _ rfl rfl) ?_
 obtain ⟨cs38, Z4, r40⟩ := h.JU 5 rfl q35 (kX (aR e32).2 e37)
 obtain ⟨rfl, -⟩ := r40
 refine aa (zF (k := 0) (vs := [(I6 x31.proc), (I6 x31.at_), u36, (I6 x31.ja)]) Z4 fF rfl rfl rfl (bH rfl)) (bu h 11 fF fun w b41 h => dN (vs := [(I6 x31.proc), (I6 x31.at_), u36, (I6 x31.ja)]) h 11 [(I6 x31.proc), (I6 x31.at_), u36, (I6 x31.ja)] rfl fF rfl rfl rfl rfl rfl (ai rfl (ai rfl (ai (h.eD 10 rfl).one (ai rfl aS)))) fun w h => nN (uf (L := (ob v22)) mixed h fun w h => dW 0 (aQ.refl _ _) rfl aA (by kernel_rfl) (by kernel_rfl) (by kernel_rfl) (fun w hk => ag (v := v22) rfl) (dW 1 (aQ.refl _ _) rfl aA (by kernel_rfl) (by kernel_rfl) (by kernel_rfl) (fun w hk => ah tq rfl) (dW 2 (aQ.refl _ _) rfl aA (by kernel_rfl) (by kernel_rfl) (by kernel_rfl) (fun w hk => have h := h.vB 9 rfl hk; aB h 11 rfl aP rfl rfl) (dW 3 (aQ.refl _ _) rfl aA (by kernel_rfl) (by kernel_rfl) (by kernel_rfl) (fun w hk => ah vD rfl) (dW 4 (aQ.refl _ _) rfl aA (by kernel_rfl) (by kernel_rfl) (by kernel_rfl) (fun w hk => have h := h.vB 9 rfl hk; aB h 11 rfl aP rfl rfl) (dW 5 (aQ.refl _ _) rfl aA (by kernel_rfl) (by kernel_rfl) (by kernel_rfl) (fun w hk => ah uw rfl) (dW 6 (aQ.refl _ _) rfl aA (by kernel_rfl) (by kernel_rfl) (by kernel_rfl) (fun w hk => have h := h.vB 9 rfl hk; aB h 11 rfl aP rfl rfl) (dW 7 (aQ.refl _ _) rfl aA (by kernel_rfl) (by kernel_rfl) (by kernel_rfl) (fun w hk => ah ko rfl) (dW 8 (aQ.refl _ _) rfl aA (by kernel_rfl) (by kernel_rfl) (by kernel_rfl) (fun w hk => have h := h.vB 9 rfl hk; aB h 11 rfl kr rfl rfl) (dW 9 (aQ.refl _ _) rfl aA (by kernel_rfl) (by kernel_rfl) (by kernel_rfl) (fun w hk => aX di rfl (h.dJ 10 rfl)) (dW 12 (aQ.refl _ _) rfl aA (by kernel_rfl) (by kernel_rfl) (by kernel_rfl) (fun w hk => ah ko rfl) (dW 13 (aQ.refl _ _) rfl aA (by kernel_rfl) (by kernel_rfl) (by kernel_rfl) (fun w hk => have h := h.vB 9 rfl hk; aB h 11 rfl kr rfl rfl) ?_)))))))))))))
 obtain ⟨XK, YC⟩ : ∃ x, x = w := ⟨_, rfl⟩
 have Ep : aQ (ob v22) XK w := YC ▸ aQ.refl (ob v22) w
 refine zG YC.symm (dB 10 (by kernel_rfl) rfl aA (zZ (R := dw) (vs := [(I6 x31.proc), (I6 x31.at_), (I6 x31.ja), (I6 ((x31.regs.length : Int)))]) (xs := [x31.proc, x31.at_, x31.ja, (x31.regs.length : Int)]) h 132 fq rfl rfl rfl ⟨rfl, ⟨rfl, ⟨rfl, ⟨rfl, trivial⟩⟩⟩⟩ rfl fun w Sa h PR PS => ?_))
 have uq45x10_1q : ∀ b, ob Sa b → XK.heap.size ≤ b := fun b hb => Nat.le_trans Ep.size (PS b hb)
 replace Ep := Ep.grow PR
 refine aC (aV Ep (dB 11 (by kernel_rfl) rfl aA ?_))
 obtain ⟨KQ, hs⟩ := bE hs
 have uq45x11_2z := Ep.size
 refine qH (R := dw) (m := [x31.proc, x31.at_, x31.ja, (x31.regs.length : Int)]) h 9 rfl (h.dJ 132 rfl) fq rfl rfl rfl KQ.1 KQ.2 fun w Dv h PT PU => ?_
 have Js : ∀ b, ob Dv b → b < XK.heap.size → ob v22 b := fun b hb hl => PU b hb (Nat.lt_of_lt_of_le hl (Ep).size)
 replace Ep := Ep.same PT
 refine aC (aV Ep (dB 14 (by kernel_rfl) rfl aA ?_))
 obtain ⟨PV, lq45x14_1b, lq45x14_1c⟩ := h.j5 9 (C := (.own dw 3 Dv (mZ ++ [x31.proc, x31.at_, x31.ja, (x31.regs.length : Int)]) : Chunk)) rfl trivial
 obtain ⟨Du, Sb, hs⟩ := aM hs
 have zq45x14_4 := Ep.size
 refine aO VT rfl rfl (DW _ BE (fun _ h => h.elim) Dv (mZ ++ [x31.proc, x31.at_, x31.ja, (x31.regs.length : Int)]) (Chunk.flatten (fun _ _ _ _ _ h => h) PV) Yb u36 x31.regs (h.TL 9 10 (by decide) rfl rfl) _ Sb) ?_
 rintro _ w ⟨KR, Dw, rfl, Sc, KS⟩
 refine ⟨_, rfl, ?_⟩
 replace h := h.back 9 (C := (.own dw 3 Dv (mZ ++ [x31.proc, x31.at_, x31.ja, (x31.regs.length : Int)]) : Chunk)) (C' := (.own dw 3 Dw Du : Chunk)) rfl trivial (Chunk.flatten (fun _ _ _ _ _ h => h) Sc) KR KS
 have PW := KR
 have PX := KS
 have uq45x14_8q : ∀ b, ob Dw b → b < XK.heap.size → ob v22 b := fun b hb hl => Js b (PX b hb (Nat.lt_of_lt_of_le hl (Ep).size)) hl
 replace Ep := aQ.step Ep PW (fun x hx hl => Js x hx hl)
 refine aC (aV Ep (iQ 15 Ep rfl (by kernel_rfl) (fun w hk => ae (v := Dw) rfl) (j3 (by kernel_rfl) (au (aj (ay (aa (dz rfl rfl e30r) (aa (ag (v := (I6 ((i25 + 1)))) rfl) (aC ?_)))))))))
 replace h := h.EP 6 10 rfl rfl (by decide) (aR e32).2 e37 rfl
 refine ak ?_
 subst hnx28
 exact iw ⟨k24 + 1, i25 + 1, Dw, Du⟩ ⟨h.cn _, by omega, hs⟩ (by have := kQ e29; dsimp only; omega)
 rw [lC (by have := of_decide_eq_false e29; omega)] at hs
 refine nE (aa (ag (v := v22) rfl) (aa (ah gL rfl) (aa (aB h 4 rfl jL rfl rfl) (aa (wL (N := (gW Val)) dO rfl (h.dJ 7 rfl) (h.lq 8 rfl)) (mX (R := dw) (vs := [(I6 ((y6.cells.length : Int)))]) (xs := [(y6.cells.length : Int)]) h 216 fq rfl rfl rfl ⟨rfl, trivial⟩ rfl fun w u48 h => ?_)))))
 obtain ⟨a49, hs⟩ := bE hs
 refine jb (R := dw) (m := [(y6.cells.length : Int)]) h 9 rfl (h.dJ 216 rfl) fq rfl rfl rfl a49.1 a49.2 fun w Vn h => aa (ae (v := Vn) rfl) (nK (aa (ah gL rfl) (aa (aB h 4 rfl jL rfl rfl) (aa (wL (N := (gW Val)) dO rfl (h.dJ 7 rfl) (h.lq 8 rfl)) (aa (ag (v := (I6 0)) rfl) (nN (aH ?_)))))))
 have hli60 := Ct (h.dJ 7 rfl) (h.lq 8 rfl)
 refine eF (σ := Nat × Int × Value × List Int) (inl ([7, 11] ++ rg 60 12)) (fun ⟨YD, i60, v57, wV⟩ => [(7, v57), (60, (I6 i60))]) (fun ⟨YD, i60, v57, wV⟩ w => SH w0 M BE w (hset [(7, .own (gW Val).raw 47 MI (List.zip y6.cells Ei)), (8, .jv (fw aY 51 hn Ei (List.map (gW Val).sub y6.cells))), (9, .own dw 3 v57 wV)]) ∧ i60 = (YD : Int) ∧ upto (yB y6) yC i60 (((y6.cells.length : Int)).toNat - YD) wV = some r) (fun ⟨YD, i60, v57, wV⟩ => ((y6.cells.length : Int)).toNat - YD) ⟨0, 0, Vn, (mZ ++ [(y6.cells.length : Int)])⟩ ⟨rfl, rfl, trivial⟩ ?_ ?_
 exact ⟨h.cn _, rfl, hs⟩
 rintro ⟨YD, i60, v57, wV⟩ w dC ⟨h, hik, hs⟩
 refine nG ?_
 refine aa (dK rfl rfl) (nN ?_)
 refine aJ (fD rfl (fun e64 => ?_) (fun e64 => ?_))
 refine aG (aj ?_)
 rw [lv (by have := kQ e64; omega)] at hs
 generalize hnx63 : upto (yB y6) yC (i60 + 1) (((y6.cells.length : Int)).toNat - (YD + 1)) = nx63 at hs
 have e65r : jN (i60 + 1) := (by have := kQ e64; have := hli60; exact jN.mk (by omega) (by omega))
 refine aJ (aH (nG ?_))
 obtain ⟨x66, e67, hs⟩ := aM hs
 obtain ⟨u71, Xy, h⟩ := h.Bn 8 217 x66 rfl rfl (by decide) (aR e67).2 rfl
 obtain ⟨b69, q70, i68⟩ := h.FL 7 rfl dO rfl (aR e67).1 (kX (aR e67).2 Xy)
 refine aa (i68 _ _ _ _ _ _ _ _ _ rfl rfl) ?_
 obtain ⟨cs73, m74, r75⟩ := h.JU 7 rfl q70 (kX (aR e67).2 Xy)
 obtain ⟨rfl, -⟩ := r75
 refine aa (zX (k := 0) m74 kr rfl rfl) (aa (ae (v := u71) rfl) (nN (ay (aa (ag (v := v57) rfl) (aa (ag (v := u71) rfl) (aa (aX di rfl (h.dJ 217 rfl)) (mX (R := dw) (vs := [(I6 ((x66.length : Int)))]) (xs := [(x66.length : Int)]) h 218 fq rfl rfl rfl ⟨rfl, trivial⟩ rfl fun w u76 h => ?_)))))))
 obtain ⟨a77, hs⟩ := bE hs
 refine jb (R := dw) (m := [(x66.length : Int)]) h 9 rfl (h.dJ 218 rfl) fq rfl rfl rfl a77.1 a77.2 fun w JO h => aa (ag (v := u71) rfl) ?_
 obtain ⟨l79a, l79b, l79c⟩ := h.j5 9 (C := (.own dw 3 JO (wV ++ [(x66.length : Int)]) : Chunk)) rfl trivial
 obtain ⟨y80, e81, hs⟩ := aM hs
 refine aO VT rfl rfl (DW _ BE (fun _ h => h.elim) JO (wV ++ [(x66.length : Int)]) (Chunk.flatten (fun _ _ _ _ _ h => h) l79a) Yb u71 x66 (h.TL 9 217 (by decide) rfl rfl) _ e81) ?_
 rintro _ w ⟨k82, Yg, rfl, h83, h84⟩
 refine ⟨_, rfl, ?_⟩
 replace h := h.back 9 (C := (.own dw 3 JO (wV ++ [(x66.length : Int)]) : Chunk)) (C' := (.own dw 3 Yg y80 : Chunk)) rfl trivial (Chunk.flatten (fun _ _ _ _ _ h => h) h83) k82 h84
 refine aa (ae (v := Yg) rfl) (aC (au (aj (ay (aa (dz rfl rfl e65r) (aa (ag (v := (I6 ((i60 + 1)))) rfl) (aC ?_)))))))
 replace h := h.EP 8 217 rfl rfl (by decide) (aR e67).2 Xy rfl
 refine ak ?_
 subst hnx63
 exact iw ⟨YD + 1, i60 + 1, Yg, y80⟩ ⟨h.cn _, by omega, hs⟩ (by have := kQ e64; dsimp only; omega)
 rw [lC (by have := of_decide_eq_false e64; omega)] at hs
 refine iI (bC (bC (dV (aj (aJ (nG (aa (ag (v := v57) rfl) (aa (aX bN rfl (h.dJ 9 rfl)) (aa (jK rfl rfl) (nN (aK hs rfl (fun c86 hs => ?_) (fun c86 hs => ?_))))))))))))
 refine nG (aa (ae (v := (.slice none 0 0)) rfl) (aa (ae (v := (I6 2)) rfl) (nR (ax (Dz (v1 := (.slice none 0 0)) (v2 := (I6 2)) Tryz.results13 rfl rfl ?_)))))
 obtain rfl := gK hs
 exact ⟨h.grown, _, rfl, fI.nil, qa⟩
 refine nS (aa (ag (v := v57) rfl) (aa (ae (v := v57) rfl) (aa (ae (v := (I6 0)) rfl) (nR (Dz (v1 := v57) (v2 := (I6 0)) Tryz.results13 rfl rfl ?_)))))
 obtain rfl := gK hs
 exact ⟨h.grown, _, rfl, (h.mh 9 rfl).1, (h.mh 9 rfl).2⟩
def iq (sx : kg) : Option (Int × kg) :=
  bif decide (((sx.l.length : Int) : Int) = 0) then some (0, (⟨sx.l, true⟩ : kg)) else (idx sx.l 0).bind fun x2 => (sub? sx.l 1 (sx.l.length : Int)).bind fun x9 => some (x2, (⟨x9, sx.bad⟩ : kg))
theorem jr (w0 : World) (M : BS) (hM : ∀ b, M b → b < w0.heap.size) (sb : Nat) (sx : kg) (Dx : Value) (hC : Chunk.holds w0 M (Chunk.own' (.blk sb [Dx, (.bool (sx.bad))] : Chunk)) (.blk sb [Dx, (.bool (sx.bad))] : Chunk)) (hap : ∀ b, Chunk.own' (.blk sb [Dx, (.bool (sx.bad))] : Chunk) b → ¬ M b) (VW : gF dw w0 (fun b => M b ∨ Chunk.own' (.blk sb [Dx, (.bool (sx.bad))] : Chunk) b) Dx sx.l) (r : Int × kg) (hs : iq sx = some r) :
    Calls Tryz.prog 41 #[(.pointer (some ⟨sb, 0, none⟩))] w0 (fun e w' => aQ (Chunk.own' (.blk sb [Dx, (.bool (sx.bad))] : Chunk)) w0 w' ∧ ∃ Jr, e = .returned (.int .i64 r.1) ∧ Chunk.holds w' M (Chunk.own' (.blk sb [Jr, .bool r.2.bad] : Chunk)) (.blk sb [Jr, .bool r.2.bad] : Chunk) ∧ (∀ b, Chunk.own' (.blk sb [Jr, .bool r.2.bad] : Chunk) b → b < w0.heap.size → Chunk.own' (.blk sb [Dx, (.bool (sx.bad))] : Chunk) b) ∧ gF dw w' (fun b => M b ∨ Chunk.own' (.blk sb [Jr, .bool r.2.bad] : Chunk) b) Jr r.2.l) := by
 refine aL (args := [(.pointer (some ⟨sb, 0, none⟩))]) Tryz.func41 rfl Tryz.ntmps41 (bH rfl) ?_
 have h := SH.EO hM hC hap
 replace h := h.Cq 2 VW zh
 generalize Hy : (.blk sb [Dx, (.bool (sx.bad))] : Chunk).own' = K0 at h
 refine nG (aa (ae (v := (I6 0)) rfl) (nK (aa (ag (v := (.pointer (some ⟨sb, 0, none⟩))) rfl) (aa (rZ rfl) (aa (ah Fy rfl) (aa (aB h 1 rfl jc rfl rfl) (aa (aX bN rfl (h.lF 2 rfl)) (aa (bW rfl rfl) (nN (aK hs rfl (fun c1 hs => ?_) (fun c1 hs => ?_)))))))))))
 refine nG (aa (ag (v := (.pointer (some ⟨sb, 0, none⟩))) rfl) (aa (rZ rfl) (aa (ah Mq rfl) (dS h 1 [Dx, (.bool (true))] rfl vE rfl rfl rfl rfl rfl fun w h => nJ (aa (ae (v := (I6 0)) rfl) (nR (ax (bI (v := (I6 0)) Tryz.results41 rfl ?_))))))))
 obtain rfl := gK hs
 subst Hy
 obtain ⟨o1, o2, o3⟩ := h.zI 1 (C := (.blk sb [Dx, (.bool (true))] : Chunk)) rfl trivial
 exact ⟨o2, Dx, rfl, o1, o3, h.zH 1 2 rfl rfl⟩
 refine nS (aa (ag (v := (.pointer (some ⟨sb, 0, none⟩))) rfl) (aa (rZ rfl) (aa (ah Fy rfl) (aa (aB h 1 rfl jc rfl rfl) ?_))))
 obtain ⟨x2, e3, hs⟩ := aM hs
 obtain ⟨b5, o6, cs7, h, r8, i4⟩ := h.FH 2 3 rfl bN rfl (aR e3).1 (aR e3).2
 obtain rfl := r8
 refine aa (i4 _ _ _ _ _ _ _ _ _ rfl rfl) (aa (eQ (k := 0) h 3 rfl aP rfl rfl) (aa (ae (v := (I6 x2)) rfl) (nJ (aa (ag (v := (.pointer (some ⟨sb, 0, none⟩))) rfl) (aa (ag (v := (.pointer (some ⟨sb, 0, none⟩))) rfl) (aa (rZ rfl) (aa (ah Fy rfl) (aa (aB h 1 rfl jc rfl rfl) ?_))))))))
 obtain ⟨x9, e10, hs⟩ := aM hs
 obtain ⟨e13, aaa, aab, e13c⟩ := Qj e10
 obtain ⟨u11, h, i12⟩ := h.slR 2 4 rfl bN rfl aaa aab e13c
 rw [← e13] at h
 refine aa (i12 _ _ _ _ _ _ _ _ _ _ rfl (.inr (congrArg some rfl)) (.inl ⟨rfl, rfl⟩)) (aa (rZ rfl) (aa (ah Fy rfl) (dS h 1 [u11, (.bool (sx.bad))] rfl jc rfl rfl rfl rfl (h.gy 4 rfl).one fun w h => nJ (aa (ag (v := (I6 x2)) rfl) (aa (ae (v := (I6 x2)) rfl) (nR (bI (v := (I6 x2)) Tryz.results41 rfl ?_)))))))
 obtain rfl := gK hs
 subst Hy
 obtain ⟨o1, o2, o3⟩ := h.zI 1 (C := (.blk sb [u11, (.bool (sx.bad))] : Chunk)) rfl trivial
 exact ⟨o2, u11, rfl, o1, o3, h.zH 1 4 rfl rfl⟩
def lh (sx : kg) (a : Int) : Option (Int × kg) :=
  (iq sx).bind fun y2 => bif (decide ((y2.1 : Int) < 0) || decide ((a : Int) < y2.1)) then some (0, (⟨y2.2.l, true⟩ : kg)) else some (y2.1, y2.2)
theorem oq (w0 : World) (M : BS) (hM : ∀ b, M b → b < w0.heap.size) (sb : Nat) (sx : kg) (Dx : Value) (hC : Chunk.holds w0 M (Chunk.own' (.blk sb [Dx, (.bool (sx.bad))] : Chunk)) (.blk sb [Dx, (.bool (sx.bad))] : Chunk)) (hap : ∀ b, Chunk.own' (.blk sb [Dx, (.bool (sx.bad))] : Chunk) b → ¬ M b) (VW : gF dw w0 (fun b => M b ∨ Chunk.own' (.blk sb [Dx, (.bool (sx.bad))] : Chunk) b) Dx sx.l) (a : Int) (r : Int × kg) (hs : lh sx a = some r) :
    Calls Tryz.prog 42 #[(.pointer (some ⟨sb, 0, none⟩)), (I6 a)] w0 (fun e w' => aQ (Chunk.own' (.blk sb [Dx, (.bool (sx.bad))] : Chunk)) w0 w' ∧ ∃ Jr, e = .returned (.int .i64 r.1) ∧ Chunk.holds w' M (Chunk.own' (.blk sb [Jr, .bool r.2.bad] : Chunk)) (.blk sb [Jr, .bool r.2.bad] : Chunk) ∧ (∀ b, Chunk.own' (.blk sb [Jr, .bool r.2.bad] : Chunk) b → b < w0.heap.size → Chunk.own' (.blk sb [Dx, (.bool (sx.bad))] : Chunk) b) ∧ gF dw w' (fun b => M b ∨ Chunk.own' (.blk sb [Jr, .bool r.2.bad] : Chunk) b) Jr r.2.l) := by
 refine aL (args := [(.pointer (some ⟨sb, 0, none⟩)), (I6 a)]) Tryz.func42 rfl Tryz.ntmps42 (bH rfl) ?_
 have h := SH.EO hM hC hap
 replace h := h.Cq 2 VW zh
 generalize Hy : (.blk sb [Dx, (.bool (sx.bad))] : Chunk).own' = K0 at h
 refine nG (aa (ae (v := (I6 0)) rfl) (nJ (aa (ag (v := (.pointer (some ⟨sb, 0, none⟩))) rfl) ?_)))
 obtain ⟨l1a, l1b, l1c⟩ := h.j5 1 (C := (.blk sb [Dx, (.bool (sx.bad))] : Chunk)) rfl trivial
 obtain ⟨y2, e3, hs⟩ := aM hs
 refine aO CY rfl rfl (jr _ _ l1c sb sx Dx l1a l1b (h.Cr 1 2 rfl rfl) _ e3) ?_
 rintro _ w ⟨k6, u4, rfl, h7, h8, g5⟩
 refine ⟨_, rfl, ?_⟩
 replace h := h.back 1 (C := (.blk sb [Dx, (.bool (sx.bad))] : Chunk)) (C' := (.blk sb [u4, (.bool (y2.2.bad))] : Chunk)) rfl trivial h7 k6 h8
 replace h := h.bK 3 (j6 g5)
 refine aa (ae (v := (I6 y2.1)) rfl) (nK (aa (ag (v := (I6 y2.1)) rfl) (aa (dK rfl rfl) (aa (ag (v := (.bool (decide ((y2.1 : Int) < 0)))) rfl) (az rfl rfl (fun q => ag (v := (I6 y2.1)) rfl) (az rfl rfl (fun q => ag (v := (I6 a)) rfl) (az rfl rfl (fun q => jK (dE q) (dE q)) (aa (iO rfl rfl lW) (nN (aK hs rfl (fun c9 hs => ?_) (fun c9 hs => ?_)))))))))))
 refine nG (aa (ag (v := (.pointer (some ⟨sb, 0, none⟩))) rfl) (aa (rZ rfl) (aa (ah Mq rfl) (dS h 1 [u4, (.bool (true))] rfl vE rfl rfl rfl rfl rfl fun w h => nJ (aa (ae (v := (I6 0)) rfl) (nR (ax (bI (v := (I6 0)) Tryz.results42 rfl ?_))))))))
 obtain rfl := gK hs
 subst Hy
 obtain ⟨o1, o2, o3⟩ := h.zI 1 (C := (.blk sb [u4, (.bool (true))] : Chunk)) rfl trivial
 exact ⟨o2, u4, rfl, o1, o3, h.zH 1 3 rfl rfl⟩
 refine nS (aa (ag (v := (I6 y2.1)) rfl) (aa (ae (v := (I6 y2.1)) rfl) (nR (bI (v := (I6 y2.1)) Tryz.results42 rfl ?_))))
 obtain rfl := gK hs
 subst Hy
 obtain ⟨o1, o2, o3⟩ := h.zI 1 (C := (.blk sb [u4, (.bool (y2.2.bad))] : Chunk)) rfl trivial
 exact ⟨o2, u4, rfl, o1, o3, h.zH 1 3 rfl rfl⟩
def iP (a : Int) (s : List Val × Int × List Int × Bool) (nx29 : List Val × Int × List Int × Bool → Option (List Val × kg)) : Option (List Val × kg) :=
  match s with | (x20, Ap, y23, y24) => bif decide ((Ap : Int) < a) then (iq (⟨y23, y24⟩ : kg)).bind fun y34 => (iq y34.2).bind fun uE => iA (Room 16 x20 [(⟨y34.1, uE.1⟩ : Val)]) (iA (jN (Ap + 1)) (nx29 ((x20 ++ [(⟨y34.1, uE.1⟩ : Val)]), (Ap + 1), uE.2.l, uE.2.bad))) else some (x20, (⟨y23, y24⟩ : kg))
def ou (N : Nat) (sx : kg) (a : Int) : Option (List Val × kg) :=
  again (iP a) N ([], 0, sx.l, sx.bad)
theorem pO (N : Nat) (w0 : World) (M : BS) (hM : ∀ b, M b → b < w0.heap.size) (sb : Nat) (sx : kg) (Dx : Value) (hC : Chunk.holds w0 M (Chunk.own' (.blk sb [Dx, (.bool (sx.bad))] : Chunk)) (.blk sb [Dx, (.bool (sx.bad))] : Chunk)) (hap : ∀ b, Chunk.own' (.blk sb [Dx, (.bool (sx.bad))] : Chunk) b → ¬ M b) (VW : gF dw w0 (fun b => M b ∨ Chunk.own' (.blk sb [Dx, (.bool (sx.bad))] : Chunk) b) Dx sx.l) (a : Int) (r : List Val × kg) (hs : ou N sx a = some r) :
    Calls Tryz.prog 43 #[(.pointer (some ⟨sb, 0, none⟩)), (I6 a)] w0 (fun e w' => aQ (Chunk.own' (.blk sb [Dx, (.bool (sx.bad))] : Chunk)) w0 w' ∧ ∃ u0, ∃ Jr, e = .returned (u0) ∧ Chunk.holds w' M (Chunk.own' (.blk sb [Jr, .bool r.2.bad] : Chunk)) (.blk sb [Jr, .bool r.2.bad] : Chunk) ∧ (∀ b, Chunk.own' (.blk sb [Jr, .bool r.2.bad] : Chunk) b → b < w0.heap.size → Chunk.own' (.blk sb [Dx, (.bool (sx.bad))] : Chunk) b) ∧ gF aY w' (fun b => M b ∨ Chunk.own' (.blk sb [Jr, .bool r.2.bad] : Chunk) b) u0 r.1 ∧ gF dw w' (fun b => M b ∨ Chunk.own' (.blk sb [Jr, .bool r.2.bad] : Chunk) b) Jr r.2.l) := by
 refine aL (args := [(.pointer (some ⟨sb, 0, none⟩)), (I6 a)]) Tryz.func43 rfl Tryz.ntmps43 (bH rfl) ?_
 have h := SH.EO hM hC hap
 replace h := h.Cq 2 VW zh
 generalize Hy : (.blk sb [Dx, (.bool (sx.bad))] : Chunk).own' = K0 at h
 refine nG (aa (ae (v := (.slice none 0 0)) rfl) (nJ (aa (ae (v := (.slice none 0 0)) rfl) (nK (aa (ag (v := (I6 a)) rfl) (aa (ag (v := (I6 0)) rfl) (nN (aH ?_))))))))
 replace h := h.uZ (R := aY) (E := 51) 9
 replace h := h.zm 2 10 rfl
 refine eF (σ := Nat × Value × List Val × Int × Value × List Int × Bool) (inl ([5, 6] ++ rg 8 12)) (fun ⟨m28, v19, x20, Ap, v22, y23, y24⟩ => [(5, v19), (8, (I6 Ap))]) (fun ⟨m28, v19, x20, Ap, v22, y23, y24⟩ w => SH w0 M K0 w (hset [(1, .blk sb [v22, (.bool (y24))]), (9, .own aY 51 v19 x20), (10, .rd dw v22 y23)]) ∧ again (iP a) m28 (x20, Ap, y23, y24) = some r) (fun ⟨m28, v19, x20, Ap, v22, y23, y24⟩ => m28) ⟨N, (.slice none 0 0), [], 0, Dx, sx.l, sx.bad⟩ ⟨rfl, rfl, trivial⟩ ?_ ?_
 exact ⟨h.cn _, hs⟩
 rintro ⟨m28, v19, x20, Ap, v22, y23, y24⟩ w dC ⟨h, hs⟩
 obtain ⟨m281, m28e, m28h⟩ := lQ hs
 subst m28e
 replace hs := m28h
 generalize hnx29 : again (iP a) m281 = nx29 at hs
 refine nG (aa (dK rfl rfl) (nN (aJ (aK hs rfl (fun c32 hs => ?_) (fun c32 hs => ?_)))))
 refine aG (aj (aJ (aH (nG (aa (ag (v := (.pointer (some ⟨sb, 0, none⟩))) rfl) ?_)))))
 obtain ⟨l33a, l33b, l33c⟩ := h.j5 1 (C := (.blk sb [v22, (.bool (y24))] : Chunk)) rfl trivial
 obtain ⟨y34, e35, hs⟩ := aM hs
 refine aO CY rfl rfl (jr _ _ l33c sb (⟨y23, y24⟩ : kg) v22 l33a l33b (h.Cr 1 10 rfl rfl) _ e35) ?_
 rintro _ w ⟨ME, u36, rfl, h39, h40, g37⟩
 refine ⟨_, rfl, ?_⟩
 replace h := h.back 1 (C := (.blk sb [v22, (.bool (y24))] : Chunk)) (C' := (.blk sb [u36, (.bool (y34.2.bad))] : Chunk)) rfl trivial h39 ME h40
 replace h := h.bK 11 (j6 g37)
 refine aa (ae (v := (I6 y34.1)) rfl) (nN (ay (aa (ag (v := v19) rfl) (aa (ag (v := (I6 y34.1)) rfl) (aa (ag (v := (.pointer (some ⟨sb, 0, none⟩))) rfl) ?_)))))
 obtain ⟨l41a, l41b, l41c⟩ := h.j5 1 (C := (.blk sb [u36, (.bool (y34.2.bad))] : Chunk)) rfl trivial
 obtain ⟨uE, e43, hs⟩ := aM hs
 refine aO CY rfl rfl (jr _ _ l41c sb y34.2 u36 l41a l41b (h.Cr 1 11 rfl rfl) _ e43) ?_
 rintro _ w ⟨k46, u44, rfl, h47, h48, g45⟩
 refine ⟨_, rfl, ?_⟩
 replace h := h.back 1 (C := (.blk sb [u36, (.bool (y34.2.bad))] : Chunk)) (C' := (.blk sb [u44, (.bool (uE.2.bad))] : Chunk)) rfl trivial h47 k46 h48
 replace h := h.bK 12 (j6 g45)
 refine aa (fE (pv := [(0, (I6 y34.1)), (1, (I6 uE.1))]) (out := [(I6 y34.1), (I6 uE.1)]) Na rfl ⟨0, 1, [(I6 y34.1)], rfl, rfl, rfl, bH rfl, ⟨1, 1, [(I6 uE.1)], rfl, rfl, rfl, bH rfl, rfl⟩⟩) (mX (R := aY) (vs := [(.agg #[(I6 y34.1), (I6 uE.1)])]) (xs := [(⟨y34.1, uE.1⟩ : Val)]) h 13 nk rfl rfl rfl ⟨rfl, trivial⟩ rfl fun w u49 h => ?_)
 obtain ⟨a50, hs⟩ := bE hs
 refine jb (R := aY) (m := [(⟨y34.1, uE.1⟩ : Val)]) h 9 rfl (h.dJ 13 rfl) nk rfl rfl rfl a50.1 a50.2 fun w u51 h => aa (ae (v := u51) rfl) (aC (au (aj (ay ?_))))
 obtain ⟨a52, hs⟩ := bE hs
 refine aa (dz rfl rfl a52) (aa (ag (v := (I6 ((Ap + 1)))) rfl) (aC (ak ?_)))
 replace h := h.zm 12 10 rfl
 subst hnx29
 exact iw ⟨m281, u51, (x20 ++ [(⟨y34.1, uE.1⟩ : Val)]), (Ap + 1), u44, uE.2.l, uE.2.bad⟩ ⟨h.cn _, hs⟩
 refine nE (aa (ag (v := v19) rfl) (aa (ae (v := v19) rfl) (nR (bI (v := v19) Tryz.results43 rfl ?_))))
 replace h := h.freeze 9 rfl
 obtain rfl := gK hs
 subst Hy
 obtain ⟨o1, o2, o3⟩ := h.zI 1 (C := (.blk sb [v22, (.bool (y24))] : Chunk)) rfl trivial
 exact ⟨o2, v19, v22, rfl, o1, o3, h.zH 1 9 rfl rfl, h.zH 1 10 rfl rfl⟩
def yR (Fz : Int) (Oo : (Int × List Int × Bool × List (List Val)) → Option (LX.State × Int)) (PY : List Int) (y150 : Bool) (y152 : List (List Val)) : Option (LX.State × Int) :=
  iA (jN (Fz + 1)) (Oo ((Fz + 1), PY, y150, y152))
def ow (N : Nat) (kZ : Int × kg) (a : List cz) (sV : List LX.Frame) (y6 : Int × kg) (uz : Int × kg) (s : Int × List Int × Bool × List (List Val)) (Oo : Int × List Int × Bool × List (List Val) → Option (LX.State × Int)) : Option (LX.State × Int) :=
  match s with | (Fz, J7, Er, BK) => bif decide ((Fz : Int) < kZ.1) then (lh (⟨J7, Er⟩ : kg) 4).bind fun jR => (ou N jR.2 jR.1).bind fun fH => iA (Room 24 BK [fH.1]) (yR Fz Oo fH.2.l fH.2.bad (BK ++ [fH.1])) else bif (Er || decide ((0 : Int) < (J7.length : Int))) then some ((⟨[], [], 0, 0⟩ : LX.State), 8) else (Aq a (⟨sV, BK, y6.1, uz.1⟩ : LX.State)).bind fun y168 => bif decide ((y168 : Int) ≠ 0) then some ((⟨[], [], 0, 0⟩ : LX.State), y168) else (Av N (⟨sV, BK, y6.1, uz.1⟩ : LX.State)).bind fun AQ => (BF AQ (⟨sV, BK, y6.1, uz.1⟩ : LX.State)).bind fun KT => bif (!KT) then some ((⟨[], [], 0, 0⟩ : LX.State), 4) else some ((⟨sV, BK, y6.1, uz.1⟩ : LX.State), 0)
def lY (N : Nat) (y22 : Int × kg) (a : List cz) (y6 : Int × kg) (uz : Int × kg) (s : Int × List Int × Bool × List LX.Frame) (VX : Int × List Int × Bool × List LX.Frame → Option (LX.State × Int)) : Option (LX.State × Int) :=
  match s with | (Ch, DR, uO, sV) => bif decide ((Ch : Int) < y22.1) then (iq (⟨DR, uO⟩ : kg)).bind fun Cf => (iq Cf.2).bind fun OD => (iq OD.2).bind fun PZ => (lh PZ.2 40).bind fun Mt => (ou N Mt.2 Mt.1).bind fun y95 => iA (Room 48 sV [(⟨Cf.1, OD.1, y95.1, PZ.1⟩ : LX.Frame)]) (iA (jN (Ch + 1)) (VX ((Ch + 1), y95.2.l, y95.2.bad, (sV ++ [(⟨Cf.1, OD.1, y95.1, PZ.1⟩ : LX.Frame)])))) else (lh (⟨DR, uO⟩ : kg) 24).bind fun kZ => again (ow N kZ a sV y6 uz) N (0, kZ.2.l, kZ.2.bad, [])
def uV (N : Nat) (a : List cz) (b : List Int) : Option (LX.State × Int) :=
  bif decide ((1200 : Int) < (b.length : Int)) then some ((⟨[], [], 0, 0⟩ : LX.State), 2) else (iq (⟨b, false⟩ : kg)).bind fun y6 => (iq y6.2).bind fun uz => (lh uz.2 10).bind fun y22 => again (lY N y22 a y6 uz) N (0, y22.2.l, y22.2.bad, [])
theorem zV (N : Nat) (w0 : World) (M : BS) (hM : ∀ b, M b → b < w0.heap.size) (va : Value) (a : List cz) (ha : fK jE w0 BE M va a) (vb : Value) (b : List Int) (hb : gF dw w0 M vb b) (r : LX.State × Int) (hs : uV N a b = some r) :
    Calls Tryz.prog 15 #[va, vb] w0 (fun e w' => Grow w0 w' ∧ ∃ tT, ∃ wG, e = .returned (.tuple #[.agg #[tT, wG, .int .i64 r.1.status, .int .i64 r.1.bB], .int .i64 r.2]) ∧ gF dM w' M tT r.1.frames ∧ gF (kW aY) w' M wG r.1.cells) := by
 refine aL (args := [va, vb]) Tryz.func15 rfl Tryz.ntmps15 (bH rfl) ?_
 have h := SH.init hM
 replace h := h.eu 1 ha aT
 replace h := h.SV 2 hb (aW aT)
 have tQ := ha.bD
 have FU := hb.bD
 refine nG (bu h 3 bM fun w b1 h => aa (ae (v := (I6 0)) rfl) (nK (aa (ag (v := vb) rfl) (aa (aX bN rfl (h.lF 2 rfl)) (aa (jK rfl rfl) (nN (aK hs rfl (fun c2 hs => ?_) (fun c2 hs => ?_))))))))
 refine nG (aa (fE (pv := []) (out := [(.slice none 0 0), (.slice none 0 0), (I6 0), (I6 0)]) qf rfl rfl) (dN (vs := [(.slice none 0 0), (.slice none 0 0), (I6 0), (I6 0)]) h 3 [(.slice none 0 0), (.slice none 0 0), (I6 0), (I6 0)] rfl bM rfl rfl rfl rfl rfl (ai rfl (ai rfl (ai rfl (ai rfl aS)))) fun w h => aa (ae (v := (I6 2)) rfl) (nR (ax (tO (vs := [(.slice none 0 0), (.slice none 0 0), (I6 0), (I6 0)]) (v2 := (I6 2)) Tryz.results15 rfl rfl h 3 rfl bM rfl ?_)))))
 obtain rfl := gK hs
 exact ⟨h.grown, _, _, rfl, fK.nil, fK.nil⟩
 refine nS (aa (ag (v := vb) rfl) (aa (fE (pv := [(0, vb)]) (out := [vb, (.bool (false))]) VV rfl ⟨0, 1, [vb], rfl, (mQ (h.gy 2 rfl).one), rfl, bH rfl, rfl⟩) (l7 (cs := [vb, (.bool (false))]) h 4 rfl rfl fun w b3 h => aa (ae (v := (.pointer (some ⟨b3, 0, none⟩))) rfl) (nJ (aa (fE (pv := []) (out := [(.slice none 0 0), (.slice none 0 0), (I6 0), (I6 0)]) qf rfl rfl) (bu h 5 bM fun w b4 h => dN (vs := [(.slice none 0 0), (.slice none 0 0), (I6 0), (I6 0)]) h 5 [(.slice none 0 0), (.slice none 0 0), (I6 0), (I6 0)] rfl bM rfl rfl rfl rfl rfl (ai rfl (ai rfl (ai rfl (ai rfl aS)))) fun w h => nJ (aa (ag (v := (.pointer (some ⟨b3, 0, none⟩))) rfl) ?_)))))))
 obtain ⟨l5a, l5b, l5c⟩ := h.j5 4 (C := (.blk b3 [vb, (.bool (false))] : Chunk)) rfl trivial
 obtain ⟨y6, e7, hs⟩ := aM hs
 refine aO CY rfl rfl (jr _ _ l5c b3 (⟨b, false⟩ : kg) vb l5a l5b (h.Cr 4 2 rfl rfl) _ e7) ?_
 rintro _ w ⟨k10, u8, rfl, h11, h12, g9⟩
 refine ⟨_, rfl, ?_⟩
 replace h := h.back 4 (C := (.blk b3 [vb, (.bool (false))] : Chunk)) (C' := (.blk b3 [u8, (.bool (y6.2.bad))] : Chunk)) rfl trivial h11 k10 h12
 replace h := h.bK 6 (j6 g9)
 refine aa (ah qI rfl) (dS h 5 [(.slice none 0 0), (.slice none 0 0), (I6 y6.1), (I6 0)] rfl aP rfl rfl rfl rfl rfl fun w h => nJ (aa (ag (v := (.pointer (some ⟨b3, 0, none⟩))) rfl) ?_))
 obtain ⟨l13a, l13b, l13c⟩ := h.j5 4 (C := (.blk b3 [u8, (.bool (y6.2.bad))] : Chunk)) rfl trivial
 obtain ⟨uz, e15, hs⟩ := aM hs
 refine aO CY rfl rfl (jr _ _ l13c b3 y6.2 u8 l13a l13b (h.Cr 4 6 rfl rfl) _ e15) ?_
 rintro _ w ⟨k18, u16, rfl, h19, h20, g17⟩
 refine ⟨_, rfl, ?_⟩
 replace h := h.back 4 (C := (.blk b3 [u8, (.bool (y6.2.bad))] : Chunk)) (C' := (.blk b3 [u16, (.bool (uz.2.bad))] : Chunk)) rfl trivial h19 k18 h20
 replace h := h.bK 7 (j6 g17)
 refine aa (ah sZ rfl) (dS h 5 [(.slice none 0 0), (.slice none 0 0), (I6 y6.1), (I6 uz.1)] rfl aP rfl rfl rfl rfl rfl fun w h => nK (aa (ag (v := (.pointer (some ⟨b3, 0, none⟩))) rfl) ?_))
 obtain ⟨l21a, l21b, l21c⟩ := h.j5 4 (C := (.blk b3 [u16, (.bool (uz.2.bad))] : Chunk)) rfl trivial
 obtain ⟨y22, e23, hs⟩ := aM hs
 refine aO Jq rfl rfl (oq _ _ l21c b3 uz.2 u16 l21a l21b (h.Cr 4 7 rfl rfl) 10 _ e23) ?_
 rintro _ w ⟨k26, u24, rfl, h27, h28, ZA⟩
 refine ⟨_, rfl, ?_⟩
 replace h := h.back 4 (C := (.blk b3 [u16, (.bool (uz.2.bad))] : Chunk)) (C' := (.blk b3 [u24, (.bool (y22.2.bad))] : Chunk)) rfl trivial h27 k26 h28
 replace h := h.bK 8 (j6 ZA)
 refine aa (ag (v := (I6 0)) rfl) (nN (aH ?_))
 replace h := h.zm 8 15 rfl
 replace h := h.uZ (R := dM) (E := 49) 16
 refine eF (σ := Nat × Int × Value × List Int × Bool × Value × List LX.Frame) (inl ([8] ++ rg 26 24)) (fun ⟨m56, Ch, v48, DR, uO, v51, sV⟩ => [(26, (I6 Ch))]) (fun ⟨m56, Ch, v48, DR, uO, v51, sV⟩ w => SH w0 M BE w (hset [(1, .sr jE va a), (3, .blk b1 [(.slice none 0 0), (.slice none 0 0), (I6 0), (I6 0)]), (4, .blk b3 [v48, (.bool (uO))]), (5, .blk b4 [v51, (.slice none 0 0), (I6 y6.1), (I6 uz.1)]), (15, .rd dw v48 DR), (16, .own dM 49 v51 sV)]) ∧ again (lY N y22 a y6 uz) m56 (Ch, DR, uO, sV) = some r) (fun ⟨m56, Ch, v48, DR, uO, v51, sV⟩ => m56) ⟨N, 0, u24, y22.2.l, y22.2.bad, (.slice none 0 0), []⟩ ⟨rfl, trivial⟩ ?_ ?_
 exact ⟨h.cn _, hs⟩
 rintro ⟨m56, Ch, v48, DR, uO, v51, sV⟩ w dC ⟨h, hs⟩
 obtain ⟨m561, m56e, m56h⟩ := lQ hs
 subst m56e
 replace hs := m56h
 generalize VY : again (lY N y22 a y6 uz) m561 = VX at hs
 refine nG (aa (dK rfl rfl) (nN (aJ (aK hs rfl (fun Fb hs => ?_) (fun Fb hs => ?_)))))
 refine aG (aj (aJ (aH (nG (aa (fE (pv := []) (out := [(I6 0), (I6 0), (.slice none 0 0), (I6 0)]) Iu rfl rfl) (bu h 17 fF fun w b61 h => dN (vs := [(I6 0), (I6 0), (.slice none 0 0), (I6 0)]) h 17 [(I6 0), (I6 0), (.slice none 0 0), (I6 0)] rfl fF rfl rfl rfl rfl rfl (ai rfl (ai rfl (ai rfl (ai rfl aS)))) fun w h => nJ (aa (ag (v := (.pointer (some ⟨b3, 0, none⟩))) rfl) ?_)))))))
 obtain ⟨l62a, l62b, l62c⟩ := h.j5 4 (C := (.blk b3 [v48, (.bool (uO))] : Chunk)) rfl trivial
 obtain ⟨Cf, e64, hs⟩ := aM hs
 refine aO CY rfl rfl (jr _ _ l62c b3 (⟨DR, uO⟩ : kg) v48 l62a l62b (h.Cr 4 15 rfl rfl) _ e64) ?_
 rintro _ w ⟨k67, u65, rfl, h68, h69, g66⟩
 refine ⟨_, rfl, ?_⟩
 replace h := h.back 4 (C := (.blk b3 [v48, (.bool (uO))] : Chunk)) (C' := (.blk b3 [u65, (.bool (Cf.2.bad))] : Chunk)) rfl trivial h68 k67 h69
 replace h := h.bK 18 (j6 g66)
 refine aa (ah tq rfl) (dS h 17 [(I6 Cf.1), (I6 0), (.slice none 0 0), (I6 0)] rfl aP rfl rfl rfl rfl rfl fun w h => nJ (aa (ag (v := (.pointer (some ⟨b3, 0, none⟩))) rfl) ?_))
 obtain ⟨l70a, l70b, l70c⟩ := h.j5 4 (C := (.blk b3 [u65, (.bool (Cf.2.bad))] : Chunk)) rfl trivial
 obtain ⟨OD, Xy, hs⟩ := aM hs
 refine aO CY rfl rfl (jr _ _ l70c b3 Cf.2 u65 l70a l70b (h.Cr 4 18 rfl rfl) _ Xy) ?_
 rintro _ w ⟨k75, u73, rfl, h76, h77, g74⟩
 refine ⟨_, rfl, ?_⟩
 replace h := h.back 4 (C := (.blk b3 [u65, (.bool (Cf.2.bad))] : Chunk)) (C' := (.blk b3 [u73, (.bool (OD.2.bad))] : Chunk)) rfl trivial h76 k75 h77
 replace h := h.bK 19 (j6 g74)
 refine aa (ah vD rfl) (dS h 17 [(I6 Cf.1), (I6 OD.1), (.slice none 0 0), (I6 0)] rfl aP rfl rfl rfl rfl rfl fun w h => nJ (aa (ag (v := (.pointer (some ⟨b3, 0, none⟩))) rfl) ?_))
 obtain ⟨l78a, l78b, l78c⟩ := h.j5 4 (C := (.blk b3 [u73, (.bool (OD.2.bad))] : Chunk)) rfl trivial
 obtain ⟨PZ, Yn, hs⟩ := aM hs
 refine aO CY rfl rfl (jr _ _ l78c b3 OD.2 u73 l78a l78b (h.Cr 4 19 rfl rfl) _ Yn) ?_
 rintro _ w ⟨SE, u81, rfl, h84, h85, g82⟩
 refine ⟨_, rfl, ?_⟩
 replace h := h.back 4 (C := (.blk b3 [u73, (.bool (OD.2.bad))] : Chunk)) (C' := (.blk b3 [u81, (.bool (PZ.2.bad))] : Chunk)) rfl trivial h84 SE h85
 replace h := h.bK 20 (j6 g82)
 refine aa (ah uw rfl) (dS h 17 [(I6 Cf.1), (I6 OD.1), (.slice none 0 0), (I6 PZ.1)] rfl aP rfl rfl rfl rfl rfl fun w h => nJ (aa (ag (v := (.pointer (some ⟨b3, 0, none⟩))) rfl) (aa (ag (v := (.pointer (some ⟨b3, 0, none⟩))) rfl) ?_)))
 obtain ⟨l86a, l86b, l86c⟩ := h.j5 4 (C := (.blk b3 [u81, (.bool (PZ.2.bad))] : Chunk)) rfl trivial
 obtain ⟨Mt, SG, hs⟩ := aM hs
 refine aO Jq rfl rfl (oq _ _ l86c b3 PZ.2 u81 l86a l86b (h.Cr 4 20 rfl rfl) 40 _ SG) ?_
 rintro _ w ⟨k91, u89, rfl, h92, h93, g90⟩
 refine ⟨_, rfl, ?_⟩
 replace h := h.back 4 (C := (.blk b3 [u81, (.bool (PZ.2.bad))] : Chunk)) (C' := (.blk b3 [u89, (.bool (Mt.2.bad))] : Chunk)) rfl trivial h92 k91 h93
 replace h := h.bK 21 (j6 g90)
 obtain ⟨l94a, l94b, ZU⟩ := h.j5 4 (C := (.blk b3 [u89, (.bool (Mt.2.bad))] : Chunk)) rfl trivial
 obtain ⟨y95, ZV, hs⟩ := aM hs
 refine aO Mr rfl rfl (pO N _ _ ZU b3 Mt.2 u89 l94a l94b (h.Cr 4 21 rfl rfl) Mt.1 _ ZV) ?_
 rintro _ w ⟨k101, u97, u99, rfl, h102, h103, g98, g100⟩
 refine ⟨_, rfl, ?_⟩
 replace h := h.back 4 (C := (.blk b3 [u89, (.bool (Mt.2.bad))] : Chunk)) (C' := (.blk b3 [u99, (.bool (y95.2.bad))] : Chunk)) rfl trivial h102 k101 h103
 replace h := h.bK 22 (j6 g98)
 replace h := h.bK 23 (j6 g100).up
 refine aa (ah ko rfl) (dS h 17 [(I6 Cf.1), (I6 OD.1), u97, (I6 PZ.1)] rfl kr rfl rfl rfl rfl (h.gy 22 rfl).one fun w h => nN (ay (aa (ah gQ rfl) (aa (aB h 5 rfl lJ rfl rfl) (aa (eB (vs := [(I6 Cf.1), (I6 OD.1), u97, (I6 PZ.1)]) h 17 rfl fF rfl rfl rfl) (mX (R := dM) (vs := [(.agg #[(I6 Cf.1), (I6 OD.1), u97, (I6 PZ.1)])]) (xs := [(⟨Cf.1, OD.1, y95.1, PZ.1⟩ : LX.Frame)]) h 24 vC rfl rfl rfl ⟨⟨_, rfl, (h.gy 22 rfl)⟩, trivial⟩ rfl fun w u104 h => ?_))))))
 obtain ⟨a105, hs⟩ := bE hs
 refine jb (R := dM) (m := [(⟨Cf.1, OD.1, y95.1, PZ.1⟩ : LX.Frame)]) h 16 rfl (h.dJ 24 rfl) vC rfl rfl rfl a105.1 a105.2 fun w Nv h => aa (ah gQ rfl) (dS h 5 [Nv, (.slice none 0 0), (I6 y6.1), (I6 uz.1)] rfl lJ rfl rfl rfl rfl (h.eD 16 rfl).one fun w h => aC (au (aj (ay ?_))))
 obtain ⟨a107, hs⟩ := bE hs
 refine aa (dz rfl rfl a107) (aa (ag (v := (I6 ((Ch + 1)))) rfl) (aC (ak ?_)))
 replace h := h.zm 23 15 rfl
 subst VY
 exact iw ⟨m561, (Ch + 1), u99, y95.2.l, y95.2.bad, Nv, (sV ++ [(⟨Cf.1, OD.1, y95.1, PZ.1⟩ : LX.Frame)])⟩ ⟨h.cn _, hs⟩
 refine iI (bC (bC (dV (aj (aJ (nG (aa (ag (v := (.pointer (some ⟨b3, 0, none⟩))) rfl) ?_)))))))
 obtain ⟨l108a, l108b, l108c⟩ := h.j5 4 (C := (.blk b3 [v48, (.bool (uO))] : Chunk)) rfl trivial
 obtain ⟨kZ, e110, hs⟩ := aM hs
 refine aO Jq rfl rfl (oq _ _ l108c b3 (⟨DR, uO⟩ : kg) v48 l108a l108b (h.Cr 4 15 rfl rfl) 24 _ e110) ?_
 rintro _ w ⟨k113, u111, rfl, h114, h115, g112⟩
 refine ⟨_, rfl, ?_⟩
 replace h := h.back 4 (C := (.blk b3 [v48, (.bool (uO))] : Chunk)) (C' := (.blk b3 [u111, (.bool (kZ.2.bad))] : Chunk)) rfl trivial h114 k113 h115
 replace h := h.bK 25 (j6 g112)
 refine aa (ag (v := (I6 0)) rfl) (nN (aH ?_))
 replace h := h.zm 25 32 rfl
 replace h := h.uZ (R := (kW aY)) (E := 47) 33
 refine eF (σ := Nat × Int × Value × List Int × Bool × Value × List (List Val)) (inl (rg 52 12)) (fun ⟨VZ, Fz, Jt, J7, Er, v138, BK⟩ => [(52, (I6 Fz))]) (fun ⟨VZ, Fz, Jt, J7, Er, v138, BK⟩ w => SH w0 M BE w (hset [(1, .sr jE va a), (3, .blk b1 [(.slice none 0 0), (.slice none 0 0), (I6 0), (I6 0)]), (4, .blk b3 [Jt, (.bool (Er))]), (5, .blk b4 [v51, v138, (I6 y6.1), (I6 uz.1)]), (16, .own dM 49 v51 sV), (32, .rd dw Jt J7), (33, .own (kW aY) 47 v138 BK)]) ∧ again (ow N kZ a sV y6 uz) VZ (Fz, J7, Er, BK) = some r) (fun ⟨VZ, Fz, Jt, J7, Er, v138, BK⟩ => VZ) ⟨N, 0, u111, kZ.2.l, kZ.2.bad, (.slice none 0 0), []⟩ ⟨rfl, trivial⟩ ?_ ?_
 exact ⟨h.cn _, hs⟩
 rintro ⟨VZ, Fz, Jt, J7, Er, v138, BK⟩ w dC ⟨h, hs⟩
 obtain ⟨YE, m143e, m143h⟩ := lQ hs
 subst m143e
 replace hs := m143h
 generalize hnx144 : again (ow N kZ a sV y6 uz) YE = Oo at hs
 refine nG (aa (dK rfl rfl) (nN (aJ (aK hs rfl (fun c147 hs => ?_) (fun c147 hs => ?_)))))
 refine aG (aj (dm (σ := Value × List Int × Bool × Value × List (List Val)) (inl (rg 54 9)) (fun ⟨v148, PY, y150, V3, y152⟩ => []) (fun ⟨v148, PY, y150, V3, y152⟩ w => SH w0 M BE w (hset [(1, .sr jE va a), (3, .blk b1 [(.slice none 0 0), (.slice none 0 0), (I6 0), (I6 0)]), (4, .blk b3 [v148, (.bool (y150))]), (5, .blk b4 [v51, V3, (I6 y6.1), (I6 uz.1)]), (16, .own dM 49 v51 sV), (33, .own (kW aY) 47 V3 y152), (95, .rd dw v148 PY)]) ∧ yR Fz Oo PY y150 y152 = some r) ?_ ?_))
 rintro ⟨v148, PY, y150, V3, y152⟩ w dC ⟨h, hs⟩
 refine ay ?_
 obtain ⟨XA, hs⟩ := bE hs
 refine aa (dz rfl rfl XA) (aa (ag (v := (I6 ((Fz + 1)))) rfl) (aC (ak ?_)))
 replace h := h.zm 95 32 rfl
 subst hnx144
 exact iw ⟨YE, (Fz + 1), v148, PY, y150, V3, y152⟩ ⟨h.cn _, hs⟩
 refine aH (uf (L := (fun b => b = b3 ∨ ob v138 b ∨ b = b4)) mixed h fun w h => dW 0 (aQ.refl _ _) rfl aA (by kernel_rfl) (by kernel_rfl) (by kernel_rfl) (fun w hk => ah gL rfl) (dW 2 (aQ.refl _ _) rfl aA (by kernel_rfl) (by kernel_rfl) (by kernel_rfl) (fun w hk => ag (v := (.pointer (some ⟨b3, 0, none⟩))) rfl) (dW 3 (aQ.refl _ _) rfl aA (by kernel_rfl) (by kernel_rfl) (by kernel_rfl) (fun w hk => ag (v := (.pointer (some ⟨b3, 0, none⟩))) rfl) ?_)))
 obtain ⟨jR, KU, hs⟩ := aM hs
 obtain ⟨fH, Gj, hs⟩ := aM hs
 obtain ⟨uW, hs⟩ := bE hs
 obtain ⟨FB, V4⟩ : ∃ x, x = w := ⟨_, rfl⟩
 have fC : aQ (fun b => b = b3 ∨ ob v138 b ∨ b = b4) FB w := V4 ▸ aQ.refl (fun b => b = b3 ∨ ob v138 b ∨ b = b4) w
 refine zG V4.symm (vz 1 4 (by kernel_rfl) rfl aA rfl aA ?_ ?_)
 refine aa (aB h 5 rfl jL rfl rfl) (aC (aV fC (dB 4 (by kernel_rfl) rfl aA ?_)))
 obtain ⟨Et, Eu, Ev⟩ := h.j5 4 (C := (.blk b3 [Jt, (.bool (Er))] : Chunk)) rfl trivial
 refine aO Jq rfl rfl (oq _ _ Ev b3 (⟨J7, Er⟩ : kg) Jt Et Eu (h.Cr 4 32 rfl rfl) 4 _ KU) ?_
 rintro _ w ⟨AR, o7, rfl, Gl, Gm, Gn⟩
 refine ⟨_, rfl, ?_⟩
 replace h := h.back 4 (C := (.blk b3 [Jt, (.bool (Er))] : Chunk)) (C' := (.blk b3 [o7, (.bool (jR.2.bad))] : Chunk)) rfl trivial Gl AR Gm
 replace h := h.bK 144 (j6 Gn)
 replace fC := aQ.step fC AR (fun _ hx _ => .inl (hx))
 refine aC (aV fC (dB 5 (by kernel_rfl) rfl aA ?_))
 obtain ⟨yS, yT, yU⟩ := h.j5 4 (C := (.blk b3 [o7, (.bool (jR.2.bad))] : Chunk)) rfl trivial
 refine aO Mr rfl rfl (pO N _ _ yU b3 jR.2 o7 yS yT (h.Cr 4 144 rfl rfl) jR.1 _ Gj) ?_
 rintro _ w ⟨uX, yH, tL, rfl, AU, yV, AV, AX⟩
 refine ⟨_, rfl, ?_⟩
 replace h := h.back 4 (C := (.blk b3 [o7, (.bool (jR.2.bad))] : Chunk)) (C' := (.blk b3 [tL, (.bool (fH.2.bad))] : Chunk)) rfl trivial AU uX yV
 replace h := h.bK 156 (j6 AV)
 replace h := h.bK 157 (j6 AX).up
 replace fC := aQ.step fC uX (fun _ hx _ => .inl (hx))
 refine aC (aV fC (dB 6 (by kernel_rfl) rfl aA (zZ (R := (kW aY)) (vs := [yH]) (xs := [fH.1]) h 168 jB rfl rfl rfl ⟨(h.gy 156 rfl).Ww, trivial⟩ rfl fun w wP h uH uI => ?_)))
 have Ew : ∀ b, ob wP b → FB.heap.size ≤ b := fun b hb => Nat.le_trans fC.size (uI b hb)
 replace fC := fC.grow uH
 refine aC (aV fC (dB 7 (by kernel_rfl) rfl aA ?_))
 have Ex := fC.size
 refine qH (R := (kW aY)) (m := [fH.1]) h 33 rfl (h.dJ 168 rfl) jB rfl rfl rfl uW.1 uW.2 fun w ll h uJ uK => ?_
 have Ey : ∀ b, ob ll b → b < FB.heap.size → ob v138 b := fun b hb hl => uK b hb (Nat.lt_of_lt_of_le hl (fC).size)
 replace fC := aQ.step fC uJ (fun _ hx _ => .inr (.inl (hx)))
 refine aC (aV fC (iQ 8 fC rfl (by kernel_rfl) (fun w hk => ah gL rfl) (dB 9 (by kernel_rfl) rfl aA (uB h 5 [v51, ll, (I6 y6.1), (I6 uz.1)] rfl jL rfl rfl rfl rfl (h.eD 33 rfl).one fun w h wQ => ?_))))
 replace fC := aQ.step fC wQ (fun _ hx _ => .inr (.inr (hx)))
 refine aC (aV fC (j3 (by kernel_rfl) (au (ak ?_))))
 replace h := h.zm 157 95 rfl
 exact cO (tL, fH.2.l, fH.2.bad, ll, (BK ++ [fH.1])) ⟨h.cn _, hs⟩
 obtain ⟨Et, Eu, Ev⟩ := h.j5 4 (C := (.blk b3 [Jt, (.bool (Er))] : Chunk)) rfl trivial
 refine aO Jq rfl rfl (oq _ _ Ev b3 (⟨J7, Er⟩ : kg) Jt Et Eu (h.Cr 4 32 rfl rfl) 4 _ KU) ?_
 rintro _ w ⟨AR, o7, rfl, Gl, Gm, Gn⟩
 refine ⟨_, rfl, ?_⟩
 replace h := h.back 4 (C := (.blk b3 [Jt, (.bool (Er))] : Chunk)) (C' := (.blk b3 [o7, (.bool (jR.2.bad))] : Chunk)) rfl trivial Gl AR Gm
 replace h := h.bK 144 (j6 Gn)
 replace fC := aQ.step fC AR (fun _ hx _ => .inl (hx))
 refine aC (aV fC (vz 1 5 (by kernel_rfl) rfl aA rfl aA ?_ ?_))
 refine aa (aB h 5 rfl jL rfl rfl) (aC (aV fC (dB 5 (by kernel_rfl) rfl aA ?_)))
 obtain ⟨yS, yT, yU⟩ := h.j5 4 (C := (.blk b3 [o7, (.bool (jR.2.bad))] : Chunk)) rfl trivial
 refine aO Mr rfl rfl (pO N _ _ yU b3 jR.2 o7 yS yT (h.Cr 4 144 rfl rfl) jR.1 _ Gj) ?_
 rintro _ w ⟨uX, yH, tL, rfl, AU, yV, AV, AX⟩
 refine ⟨_, rfl, ?_⟩
 replace h := h.back 4 (C := (.blk b3 [o7, (.bool (jR.2.bad))] : Chunk)) (C' := (.blk b3 [tL, (.bool (fH.2.bad))] : Chunk)) rfl trivial AU uX yV
 replace h := h.bK 156 (j6 AV)
 replace h := h.bK 157 (j6 AX).up
 replace fC := aQ.step fC uX (fun _ hx _ => .inl (hx))
 refine aC (aV fC (dB 6 (by kernel_rfl) rfl aA (zZ (R := (kW aY)) (vs := [yH]) (xs := [fH.1]) h 168 jB rfl rfl rfl ⟨(h.gy 156 rfl).Ww, trivial⟩ rfl fun w wP h uH uI => ?_)))
 have Ew : ∀ b, ob wP b → FB.heap.size ≤ b := fun b hb => Nat.le_trans fC.size (uI b hb)
 replace fC := fC.grow uH
 refine aC (aV fC (dB 7 (by kernel_rfl) rfl aA ?_))
 have Ex := fC.size
 refine qH (R := (kW aY)) (m := [fH.1]) h 33 rfl (h.dJ 168 rfl) jB rfl rfl rfl uW.1 uW.2 fun w ll h uJ uK => ?_
 have Ey : ∀ b, ob ll b → b < FB.heap.size → ob v138 b := fun b hb hl => uK b hb (Nat.lt_of_lt_of_le hl (fC).size)
 replace fC := aQ.step fC uJ (fun _ hx _ => .inr (.inl (hx)))
 refine aC (aV fC (iQ 8 fC rfl (by kernel_rfl) (fun w hk => ah gL rfl) (dB 9 (by kernel_rfl) rfl aA (uB h 5 [v51, ll, (I6 y6.1), (I6 uz.1)] rfl jL rfl rfl rfl rfl (h.eD 33 rfl).one fun w h wQ => ?_))))
 replace fC := aQ.step fC wQ (fun _ hx _ => .inr (.inr (hx)))
 refine aC (aV fC (j3 (by kernel_rfl) (au (ak ?_))))
 replace h := h.zm 157 95 rfl
 exact cO (tL, fH.2.l, fH.2.bad, ll, (BK ++ [fH.1])) ⟨h.cn _, hs⟩
 obtain ⟨yS, yT, yU⟩ := h.j5 4 (C := (.blk b3 [o7, (.bool (jR.2.bad))] : Chunk)) rfl trivial
 refine aO Mr rfl rfl (pO N _ _ yU b3 jR.2 o7 yS yT (h.Cr 4 144 rfl rfl) jR.1 _ Gj) ?_
 rintro _ w ⟨uX, yH, tL, rfl, AU, yV, AV, AX⟩
 refine ⟨_, rfl, ?_⟩
 replace h := h.back 4 (C := (.blk b3 [o7, (.bool (jR.2.bad))] : Chunk)) (C' := (.blk b3 [tL, (.bool (fH.2.bad))] : Chunk)) rfl trivial AU uX yV
 replace h := h.bK 156 (j6 AV)
 replace h := h.bK 157 (j6 AX).up
 replace fC := aQ.step fC uX (fun _ hx _ => .inl (hx))
 refine aC (aV fC (vz 1 6 (by kernel_rfl) rfl aA rfl aA ?_ ?_))
 refine aa (aB h 5 rfl jL rfl rfl) (aC (aV fC (dB 6 (by kernel_rfl) rfl aA (zZ (R := (kW aY)) (vs := [yH]) (xs := [fH.1]) h 168 jB rfl rfl rfl ⟨(h.gy 156 rfl).Ww, trivial⟩ rfl fun w wP h uH uI => ?_))))
 have Ew : ∀ b, ob wP b → FB.heap.size ≤ b := fun b hb => Nat.le_trans fC.size (uI b hb)
 replace fC := fC.grow uH
 refine aC (aV fC (dB 7 (by kernel_rfl) rfl aA ?_))
 have Ex := fC.size
 refine qH (R := (kW aY)) (m := [fH.1]) h 33 rfl (h.dJ 168 rfl) jB rfl rfl rfl uW.1 uW.2 fun w ll h uJ uK => ?_
 have Ey : ∀ b, ob ll b → b < FB.heap.size → ob v138 b := fun b hb hl => uK b hb (Nat.lt_of_lt_of_le hl (fC).size)
 replace fC := aQ.step fC uJ (fun _ hx _ => .inr (.inl (hx)))
 refine aC (aV fC (iQ 8 fC rfl (by kernel_rfl) (fun w hk => ah gL rfl) (dB 9 (by kernel_rfl) rfl aA (uB h 5 [v51, ll, (I6 y6.1), (I6 uz.1)] rfl jL rfl rfl rfl rfl (h.eD 33 rfl).one fun w h wQ => ?_))))
 replace fC := aQ.step fC wQ (fun _ hx _ => .inr (.inr (hx)))
 refine aC (aV fC (j3 (by kernel_rfl) (au (ak ?_))))
 replace h := h.zm 157 95 rfl
 exact cO (tL, fH.2.l, fH.2.bad, ll, (BK ++ [fH.1])) ⟨h.cn _, hs⟩
 refine zZ (R := (kW aY)) (vs := [yH]) (xs := [fH.1]) h 168 jB rfl rfl rfl ⟨(h.gy 156 rfl).Ww, trivial⟩ rfl fun w wP h uH uI => ?_
 have Ew : ∀ b, ob wP b → FB.heap.size ≤ b := fun b hb => Nat.le_trans fC.size (uI b hb)
 replace fC := fC.grow uH
 refine aC (aV fC (dB 1 (by kernel_rfl) rfl aA (aa (aB h 5 rfl jL rfl rfl) (aC (aV fC (dB 7 (by kernel_rfl) rfl aA ?_))))))
 have Ex := fC.size
 refine qH (R := (kW aY)) (m := [fH.1]) h 33 rfl (h.dJ 168 rfl) jB rfl rfl rfl uW.1 uW.2 fun w ll h uJ uK => ?_
 have Ey : ∀ b, ob ll b → b < FB.heap.size → ob v138 b := fun b hb hl => uK b hb (Nat.lt_of_lt_of_le hl (fC).size)
 replace fC := aQ.step fC uJ (fun _ hx _ => .inr (.inl (hx)))
 refine aC (aV fC (iQ 8 fC rfl (by kernel_rfl) (fun w hk => ah gL rfl) (dB 9 (by kernel_rfl) rfl aA (uB h 5 [v51, ll, (I6 y6.1), (I6 uz.1)] rfl jL rfl rfl rfl rfl (h.eD 33 rfl).one fun w h wQ => ?_))))
 replace fC := aQ.step fC wQ (fun _ hx _ => .inr (.inr (hx)))
 refine aC (aV fC (j3 (by kernel_rfl) (au (ak ?_))))
 replace h := h.zm 157 95 rfl
 exact cO (tL, fH.2.l, fH.2.bad, ll, (BK ++ [fH.1])) ⟨h.cn _, hs⟩
 refine iI (bC (bC (dV (aj (aJ (nG (aa (ag (v := (.pointer (some ⟨b3, 0, none⟩))) rfl) (aa (rZ rfl) (aa (ah Mq rfl) (aa (aB h 4 rfl vE rfl rfl) (aa (ag (v := (.bool (Er))) rfl) (az rfl rfl (fun q => ag (v := (.pointer (some ⟨b3, 0, none⟩))) rfl) (az rfl rfl (fun q => rZ (dE q)) (az rfl rfl (fun q => ah Fy (dE q)) (az rfl rfl (fun q => aB h 4 rfl jc (dE q) rfl) (az rfl rfl (fun q => aX bN (dE q) (h.lF 32 rfl)) (az rfl rfl (fun q => jK (dE q) rfl) (aa (iO rfl rfl lW) (nN (aK hs rfl (fun c167 hs => ?_) (fun c167 hs => ?_)))))))))))))))))))))
 refine nG (aa (fE (pv := []) (out := [(.slice none 0 0), (.slice none 0 0), (I6 0), (I6 0)]) qf rfl rfl) (dN (vs := [(.slice none 0 0), (.slice none 0 0), (I6 0), (I6 0)]) h 3 [(.slice none 0 0), (.slice none 0 0), (I6 0), (I6 0)] rfl bM rfl rfl rfl rfl rfl (ai rfl (ai rfl (ai rfl (ai rfl aS)))) fun w h => aa (ae (v := (I6 8)) rfl) (nR (ax (tO (vs := [(.slice none 0 0), (.slice none 0 0), (I6 0), (I6 0)]) (v2 := (I6 8)) Tryz.results15 rfl rfl h 3 rfl bM rfl ?_)))))
 obtain rfl := gK hs
 exact ⟨h.grown, _, _, rfl, fK.nil, fK.nil⟩
 refine aG (aj (aJ (nG (aa (ag (v := va) rfl) (aa (eB (vs := [v51, v138, (I6 y6.1), (I6 uz.1)]) h 5 rfl bM rfl rfl rfl) ?_)))))
 obtain ⟨y168, e169, hs⟩ := aM hs
 refine aO TR rfl rfl (IU _ _ h.lt va a (h.fQ 1 rfl) (⟨sV, BK, y6.1, uz.1⟩ : LX.State) v51 v138 (h.dJ 16 rfl) (h.dJ 33 rfl) _ e169) ?_
 rintro _ w ⟨k170, rfl⟩
 refine ⟨_, rfl, ?_⟩
 replace h := h.grow k170
 refine aa (ae (v := (I6 y168)) rfl) (nJ (aa (ag (v := (I6 y168)) rfl) (aa (gV rfl rfl) (nN (aK hs rfl (fun c171 hs => ?_) (fun c171 hs => ?_))))))
 refine nG (aa (fE (pv := []) (out := [(.slice none 0 0), (.slice none 0 0), (I6 0), (I6 0)]) qf rfl rfl) (aa (ag (v := (I6 y168)) rfl) (dN (vs := [(.slice none 0 0), (.slice none 0 0), (I6 0), (I6 0)]) h 3 [(.slice none 0 0), (.slice none 0 0), (I6 0), (I6 0)] rfl bM rfl rfl rfl rfl rfl (ai rfl (ai rfl (ai rfl (ai rfl aS)))) fun w h => aa (ae (v := (I6 y168)) rfl) (nR (ax (tO (vs := [(.slice none 0 0), (.slice none 0 0), (I6 0), (I6 0)]) (v2 := (I6 y168)) Tryz.results15 rfl rfl h 3 rfl bM rfl ?_))))))
 obtain rfl := gK hs
 exact ⟨h.grown, _, _, rfl, fK.nil, fK.nil⟩
 refine aG (aj (aJ (aJ (EK mixed h fun w h => ni 0 (aQ.refl BE _) rfl aA (by kernel_rfl) (by kernel_rfl) (by kernel_rfl) (fun w hk => have h := h.grow hk; eB (vs := [v51, v138, (I6 y6.1), (I6 uz.1)]) h 5 rfl bM rfl rfl rfl) (ni 2 (aQ.refl BE _) rfl aA (by kernel_rfl) (by kernel_rfl) (by kernel_rfl) (fun w hk => have h := h.grow hk; eB (vs := [v51, v138, (I6 y6.1), (I6 uz.1)]) h 5 rfl bM rfl rfl rfl) ?_)))))
 obtain ⟨ws173, V5⟩ : ∃ x, x = w := ⟨_, rfl⟩
 have Ju : Grow ws173 w := V5 ▸ aQ.refl BE w
 refine Kb V5.symm (Bi 1 (by kernel_rfl) rfl aA ?_)
 obtain ⟨AQ, Sd, hs⟩ := aM hs
 refine aO TP rfl rfl (IY N _ _ h.lt (⟨sV, BK, y6.1, uz.1⟩ : LX.State) v51 v138 (h.dJ 16 rfl) (h.dJ 33 rfl) _ Sd) ?_
 rintro _ w ⟨KV, KW, KX, P5, P6, rfl, Sg, Si⟩
 refine ⟨_, rfl, ?_⟩
 replace h := h.Lu 240 (C := (cU KW KX AQ.frames P5 AQ.cells P6)) KV ⟨⟨⟨trivial, trivial⟩, trivial⟩, trivial⟩ Sg Si
 replace h := h.gJ 240 243 (by decide) rfl rfl
 replace h := h.gJ 240 242 (by decide) rfl rfl
 replace h := h.gJ 240 241 (by decide) rfl rfl
 replace Ju := Ju.trans KV
 refine aC (yf Ju (Bi 3 (by kernel_rfl) rfl aA ?_))
 obtain ⟨KT, Sj, hs⟩ := aM hs
 refine aO TN rfl rfl (Kw _ BE (fun _ h => h.elim) AQ KW KX (h.Lv (N := fo) (R' := dM) 240 241 rfl rfl (by decide) rfl Kh) (h.Lv (N := (gW Val)) (R' := (kW aY)) 242 243 rfl rfl (by decide) rfl Qv) (⟨sV, BK, y6.1, uz.1⟩ : LX.State) v51 v138 (fK.TK (h.dJ 16 rfl)) (fK.TK (h.dJ 33 rfl)) _ Sj) ?_
 rintro _ w ⟨KY, rfl⟩
 refine ⟨_, rfl, ?_⟩
 replace h := h.grow KY
 replace Ju := Ju.trans KY
 refine aC (yf Ju (zJ 4 Ju rfl (by kernel_rfl) (fun w hk => dU rfl) (Da (by kernel_rfl) (aj (aK hs rfl (fun c175 hs => ?_) (fun c175 hs => ?_))))))
 refine nG (aa (fE (pv := []) (out := [(.slice none 0 0), (.slice none 0 0), (I6 0), (I6 0)]) qf rfl rfl) (dN (vs := [(.slice none 0 0), (.slice none 0 0), (I6 0), (I6 0)]) h 3 [(.slice none 0 0), (.slice none 0 0), (I6 0), (I6 0)] rfl bM rfl rfl rfl rfl rfl (ai rfl (ai rfl (ai rfl (ai rfl aS)))) fun w h => aa (ae (v := (I6 4)) rfl) (nR (ax (tO (vs := [(.slice none 0 0), (.slice none 0 0), (I6 0), (I6 0)]) (v2 := (I6 4)) Tryz.results15 rfl rfl h 3 rfl bM rfl ?_)))))
 obtain rfl := gK hs
 exact ⟨h.grown, _, _, rfl, fK.nil, fK.nil⟩
 refine nS (aa (eB (vs := [v51, v138, (I6 y6.1), (I6 uz.1)]) h 5 rfl bM rfl rfl rfl) (dN (vs := [v51, v138, (I6 y6.1), (I6 uz.1)]) h 3 [v51, v138, (I6 y6.1), (I6 uz.1)] rfl bM rfl rfl rfl rfl rfl (ai (h.eD 16 rfl).one (ai (h.eD 33 rfl).one (ai rfl (ai rfl aS)))) fun w h => aa (ae (v := (I6 0)) rfl) (nR (tO (vs := [v51, v138, (I6 y6.1), (I6 uz.1)]) (v2 := (I6 0)) Tryz.results15 rfl rfl h 3 rfl bM rfl ?_))))
 replace h := h.freeze 16 rfl
 replace h := h.freeze 33 rfl
 obtain rfl := gK hs
 exact ⟨h.grown, _, _, rfl, h.MQ 16 rfl, h.MQ 33 rfl⟩
def ru (N : Nat) : Option Bool :=
  (l9 N).bind fun y1 => (zw N y1).bind fun y7 => (UZ y7).bind fun y13 => (AP N y7 y13.1).bind fun y21 => (uV N y7 y21.1).bind fun y27 => iA (jN ((y21.1.length : Int) - 1)) ((sub? y21.1 0 (max 0 ((y21.1.length : Int) - 1))).bind fun qC => (uV N y7 qC).bind fun EE => bif (((decide ((y13.2 : Int) = 0) && decide ((y21.2 : Int) = 0)) && decide ((y27.2 : Int) = 0)) && decide ((EE.2 : Int) = 8)) then (BF y13.1 y27.1).bind fun uO => some uO else some false)
theorem CZ (N : Nat) (w0 : World) (M : BS) (hM : ∀ b, M b → b < w0.heap.size) (hT : xg Tryz.prog 4 w0)  (r : Bool) (hs : ru N = some r) :
    Calls Tryz.prog 14 #[] w0 (fun e w' => Grow w0 w' ∧ e = .returned (.bool r)) := by
 refine aL (args := []) Tryz.func14 rfl Tryz.ntmps14 (bH rfl) ?_
 have h := SH.init hM
 refine nG (aa (ae (v := (.bool (false))) rfl) (nJ ?_))
 obtain ⟨y1, e2, hs⟩ := aM hs
 refine aO Zf rfl rfl (BZ N _ _ h.lt (hT.go h.keep)  _ e2) ?_
 rintro _ w ⟨k6, u3, rfl, g4, g5⟩
 refine ⟨_, rfl, ?_⟩
 replace h := h.mg 1 k6 g4 g5
 obtain ⟨y7, e8, hs⟩ := aM hs
 refine aO Ze rfl rfl (DD N _ _ h.lt u3 y1 (h.dJ 1 rfl) _ e8) ?_
 rintro _ w ⟨k12, u9, rfl, g10, g11⟩
 refine ⟨_, rfl, ?_⟩
 replace h := h.mg 2 k12 g10 g11
 refine aa (ae (v := u9) rfl) (nJ (aa (ag (v := u9) rfl) ?_))
 obtain ⟨y13, e14, hs⟩ := aM hs
 refine aO Zd rfl rfl (U0 _ _ h.lt u9 y7 (h.dJ 2 rfl) _ e14) ?_
 rintro _ w ⟨k19, Dk, G6, rfl, g16, g18⟩
 refine ⟨_, rfl, ?_⟩
 replace h := h.EG 3 k19 g16
 replace h := h.bK 4 g18.up
 refine aa (ag (v := (.tuple #[(.agg #[Dk, G6, (I6 y13.1.status), (I6 y13.1.bB)]), (I6 y13.2)])) rfl) (aa (bJ rfl rfl) (aa (bJ rfl rfl) (bu h 5 bM fun w b20 h => dN (vs := [Dk, G6, (I6 y13.1.status), (I6 y13.1.bB)]) h 5 [Dk, G6, (I6 y13.1.status), (I6 y13.1.bB)] rfl bM rfl rfl rfl rfl rfl (ai (h.gy 3 rfl).one (ai (h.gy 4 rfl).one (ai rfl (ai rfl aS)))) fun w h => aa (ae (v := (I6 y13.2)) rfl) (nJ (aa (ag (v := u9) rfl) (aa (eB (vs := [Dk, G6, (I6 y13.1.status), (I6 y13.1.bB)]) h 5 rfl bM rfl rfl rfl) ?_))))))
 obtain ⟨y21, e22, hs⟩ := aM hs
 refine aO VS rfl rfl (GN N _ _ h.lt u9 y7 (h.dJ 2 rfl) y13.1 Dk G6 (h.lF 3 rfl) (h.lF 4 rfl) _ e22) ?_
 rintro _ w ⟨k26, u23, rfl, g24, ZA⟩
 refine ⟨_, rfl, ?_⟩
 replace h := h.mg 6 k26 g24 ZA
 refine aa (ag (v := (.tuple #[u23, (I6 y21.2)])) rfl) (aa (bJ rfl rfl) (aa (bJ rfl rfl) (aa (ae (v := u23) rfl) (aa (ae (v := (I6 y21.2)) rfl) (nJ (aa (ag (v := u9) rfl) (aa (ag (v := u23) rfl) ?_)))))))
 replace h := h.freeze 6 rfl
 obtain ⟨y27, e28, hs⟩ := aM hs
 refine aO PO rfl rfl (zV N _ _ h.lt u9 y7 (h.dJ 2 rfl) u23 y21.1 (h.gy 6 rfl) _ e28) ?_
 rintro _ w ⟨QG, u29, u31, rfl, g30, UU⟩
 refine ⟨_, rfl, ?_⟩
 replace h := h.EG 7 QG g30
 replace h := h.bK 8 UU.up
 refine aa (ag (v := (.tuple #[(.agg #[u29, u31, (I6 y27.1.status), (I6 y27.1.bB)]), (I6 y27.2)])) rfl) (aa (bJ rfl rfl) (aa (bJ rfl rfl) (bu h 9 bM fun w MG h => dN (vs := [u29, u31, (I6 y27.1.status), (I6 y27.1.bB)]) h 9 [u29, u31, (I6 y27.1.status), (I6 y27.1.bB)] rfl bM rfl rfl rfl rfl rfl (ai (h.gy 7 rfl).one (ai (h.gy 8 rfl).one (ai rfl (ai rfl aS)))) fun w h => aa (ae (v := (I6 y27.2)) rfl) (nJ (aa (ag (v := u9) rfl) (aa (ag (v := u23) rfl) (aa (ag (v := u23) rfl) (aa (aX bN rfl (h.lF 6 rfl)) ?_))))))))
 obtain ⟨a35, hs⟩ := bE hs
 refine aa (tY rfl rfl a35) (aa (Tf rfl rfl) ?_)
 obtain ⟨qC, e37, hs⟩ := aM hs
 obtain ⟨e40, UW, UX, e40c⟩ := Qj e37
 obtain ⟨u38, h, i39⟩ := h.slR 6 10 rfl bN rfl UW UX e40c
 rw [← e40] at h
 refine aa (i39 _ _ _ _ _ _ _ _ _ _ rfl (.inl ⟨rfl, rfl⟩) (.inr (congrArg some rfl))) ?_
 obtain ⟨EE, e42, hs⟩ := aM hs
 refine aO PO rfl rfl (zV N _ _ h.lt u9 y7 (h.dJ 2 rfl) u38 qC (h.gy 10 rfl) _ e42) ?_
 rintro _ w ⟨k47, u43, u45, rfl, g44, g46⟩
 refine ⟨_, rfl, ?_⟩
 replace h := h.EG 11 k47 g44
 replace h := h.bK 12 g46.up
 refine aa (ag (v := (.tuple #[(.agg #[u43, u45, (I6 EE.1.status), (I6 EE.1.bB)]), (I6 EE.2)])) rfl) (aa (bJ rfl rfl) (aa (bJ rfl rfl) (bu h 13 bM fun w b48 h => dN (vs := [u43, u45, (I6 EE.1.status), (I6 EE.1.bB)]) h 13 [u43, u45, (I6 EE.1.status), (I6 EE.1.bB)] rfl bM rfl rfl rfl rfl rfl (ai (h.gy 11 rfl).one (ai (h.gy 12 rfl).one (ai rfl (ai rfl aS)))) fun w h => aa (ae (v := (I6 EE.2)) rfl) (nJ (aa (ag (v := (I6 y13.2)) rfl) (aa (bW rfl rfl) (aa (ag (v := (.bool (decide ((y13.2 : Int) = 0)))) rfl) (az rfl rfl (fun q => ag (v := (I6 y21.2)) rfl) (az rfl rfl (fun q => bW (dE q) rfl) (aa (fB rfl rfl lW) (aa (ag (v := (.bool ((decide ((y13.2 : Int) = 0) && decide ((y21.2 : Int) = 0))))) rfl) (az rfl rfl (fun q => ag (v := (I6 y27.2)) rfl) (az rfl rfl (fun q => bW (dE q) rfl) (aa (fB rfl rfl lW) (aa (ag (v := (.bool (((decide ((y13.2 : Int) = 0) && decide ((y21.2 : Int) = 0)) && decide ((y27.2 : Int) = 0))))) rfl) (az rfl rfl (fun q => ag (v := (I6 EE.2)) rfl) (az rfl rfl (fun q => bW (dE q) rfl) (aa (fB rfl rfl lW) ?_))))))))))))))))))
 refine aa (ag (v := (.bool ((((decide ((y13.2 : Int) = 0) && decide ((y21.2 : Int) = 0)) && decide ((y27.2 : Int) = 0)) && decide ((EE.2 : Int) = 8))))) rfl) (jT (b := (((decide ((y13.2 : Int) = 0) && decide ((y21.2 : Int) = 0)) && decide ((y27.2 : Int) = 0)) && decide ((EE.2 : Int) = 8))) hs (fun c49 hs => ?_) (fun c49 hs => ?_))
 refine dx rfl (cB c49) (aa (eB (vs := [Dk, G6, (I6 y13.1.status), (I6 y13.1.bB)]) h 5 rfl bM rfl rfl rfl) (dx rfl (cB c49) (aa (eB (vs := [u29, u31, (I6 y27.1.status), (I6 y27.1.bB)]) h 9 rfl bM rfl rfl rfl) (dx rfl (cB c49) ?_))))
 obtain ⟨uO, e51, hs⟩ := aM hs
 refine aO TN rfl rfl (Kw _ _ h.lt y13.1 Dk G6 (h.lF 3 rfl) (h.lF 4 rfl) y27.1 u29 u31 (h.lF 7 rfl) (h.lF 8 rfl) _ e51) ?_
 rintro _ w ⟨k52, rfl⟩
 refine ⟨_, rfl, ?_⟩
 replace h := h.grow k52
 refine aa (eO (b := true) (v := (.bool (uO))) (cB c49) rfl) (aa (ae (v := (.bool (uO))) rfl) (nR (bI (v := (.bool (uO))) Tryz.results14 rfl ?_)))
 obtain rfl := gK hs
 exact ⟨h.grown, rfl⟩
 refine qc rfl (cB c49) rfl (qc rfl (cB c49) rfl (qc rfl (cB c49) rfl (aa (eO (b := false) (v := (.bool (false))) (cB c49) rfl) (aa (ae (v := (.bool (false))) rfl) (nR (bI (v := (.bool (false))) Tryz.results14 rfl ?_))))))
 obtain rfl := gK hs
 exact ⟨h.grown, rfl⟩
def mI (x28 : LX.Frame) (i54 : Int) (sV : List Int) (VX : List Int → Option (List Int)) : Option (List Int) :=
  (idx x28.regs i54).bind fun FI => iA (Room 8 sV [FI.kind, FI.n]) (VX (sV ++ [FI.kind, FI.n]))
def mJ (wM : List Int → Option (List Int)) (sV : List Int) : Option (List Int) :=
  wM sV
def mK (x90 : List Val) (i112 : Int) (zk : List Int) (YF : List Int → Option (List Int)) : Option (List Int) :=
  (idx x90 i112).bind fun BL => iA (Room 8 zk [BL.kind, BL.n]) (YF (zk ++ [BL.kind, BL.n]))
def mM (Sk : List Int → Option (List Int)) (zk : List Int) : Option (List Int) :=
  Sk zk
def mO (y2 : LX.State) (i84 : Int) (V6 : List Int) (Sk : List Int → Option (List Int)) : Option (List Int) :=
  (idx y2.cells i84).bind fun x90 => iA (Room 8 V6 [(x90.length : Int)]) (upto (mK x90) (mM Sk) 0 ((x90.length : Int)).toNat (V6 ++ [(x90.length : Int)]))
def mP (V6 : List Int) : Option (List Int) :=
  some V6
def kG (y2 : LX.State) (i22 : Int) (y20 : List Int) (wM : List Int → Option (List Int)) : Option (List Int) :=
  (idx y2.frames i22).bind fun x28 => iA (Room 8 y20 [x28.proc, x28.at_, x28.ja]) (iA (Room 8 (y20 ++ [x28.proc, x28.at_, x28.ja]) [(x28.regs.length : Int)]) (upto (mI x28) (mJ wM) 0 ((x28.regs.length : Int)).toNat ((y20 ++ [x28.proc, x28.at_, x28.ja]) ++ [(x28.regs.length : Int)])))
def kH (y2 : LX.State) (y20 : List Int) : Option (List Int) :=
  iA (Room 8 y20 [(y2.cells.length : Int)]) (upto (mO y2) mP 0 ((y2.cells.length : Int)).toNat (y20 ++ [(y2.cells.length : Int)]))
def ry (N : Nat) (a : LX.State) : Option (List Int) :=
  (lV N a).bind fun y2 => upto (kG y2) (kH y2) 0 ((y2.frames.length : Int)).toNat [y2.status, y2.bB, (y2.frames.length : Int)]
theorem C8 (N : Nat) (w0 : World) (M : BS) (hM : ∀ b, M b → b < w0.heap.size) (a : LX.State) (rF rY : Value) (ha0 : fK dM w0 BE M rF a.frames) (ha1 : fK (kW aY) w0 BE M rY a.cells) (r : List Int) (hs : ry N a = some r) :
    Calls Tryz.prog 23 #[(.agg #[rF, rY, (I6 a.status), (I6 a.bB)])] w0 (fun e w' => Grow w0 w' ∧ ∃ u0, e = .returned (u0) ∧ fI dw 3 w' M u0 r ∧ (∀ b, ob u0 b → w0.heap.size ≤ b)) := by
 refine aL (args := [(.agg #[rF, rY, (I6 a.status), (I6 a.bB)])]) Tryz.func23 rfl Tryz.ntmps23 (bH rfl) ?_
 have h := SH.init hM
 replace h := h.eu 1 ha0 aT
 replace h := h.eu 2 ha1 (aW aT)
 refine nG (l7 (cs := [rF, rY, (I6 a.status), (I6 a.bB)]) h 3 rfl rfl fun w b1 h => aa (ae (v := (.slice none 0 0)) rfl) (nJ (aa (eB (vs := [rF, rY, (I6 a.status), (I6 a.bB)]) h 3 rfl bM rfl rfl rfl) ?_)))
 obtain ⟨y2, e3, hs⟩ := aM hs
 refine aO TS rfl rfl (yc N _ _ h.lt a rF rY (h.fQ 1 rfl) (h.fQ 2 rfl) _ e3) ?_
 rintro _ w ⟨k10, u4, u6, us5, XL, rfl, h8, h9⟩
 refine ⟨_, rfl, ?_⟩
 replace h := h.Lu 4 (C := (cU u4 u6 y2.frames us5 y2.cells XL)) k10 ⟨⟨⟨trivial, trivial⟩, trivial⟩, trivial⟩ h8 h9
 replace h := h.gJ 4 7 (by decide) rfl rfl
 replace h := h.gJ 4 6 (by decide) rfl rfl
 replace h := h.gJ 4 5 (by decide) rfl rfl
 refine dN (vs := [u4, u6, (I6 y2.status), (I6 y2.bB)]) h 3 [u4, u6, (I6 y2.status), (I6 y2.bB)] rfl bM rfl rfl rfl rfl rfl (ai (h.eD 4 rfl).one (ai (h.eD 6 rfl).one (ai rfl (ai rfl aS)))) fun w h => nJ (aa (ah qI rfl) (aa (aB h 3 rfl aP rfl rfl) (aa (ah sZ rfl) (aa (aB h 3 rfl aP rfl rfl) (aa (ah gQ rfl) (aa (aB h 3 rfl lJ rfl rfl) (aa (wL (N := fo) dI rfl (h.dJ 4 rfl) (h.lq 5 rfl)) (mX (R := dw) (vs := [(I6 y2.status), (I6 y2.bB), (I6 ((y2.frames.length : Int)))]) (xs := [y2.status, y2.bB, (y2.frames.length : Int)]) h 8 fq rfl rfl rfl ⟨rfl, ⟨rfl, ⟨rfl, trivial⟩⟩⟩ rfl fun w u11 h => lZ h 9 jc fun w b12 h => dS h 9 [u11] rfl jc rfl rfl rfl rfl (h.eD 8 rfl).one fun w h => nJ (aa (ng (c1 := []) (c2 := [(.pointer (some ⟨b12, 0, none⟩))]) rfl rfl) (aa (ae (v := (.func (.func 57) #[] #[(.pointer (some ⟨b12, 0, none⟩))])) rfl) (nN (aJ ?_))))))))))))
 refine nG (aa (ah gQ rfl) (aa (aB h 3 rfl lJ rfl rfl) (aa (wL (N := fo) dI rfl (h.dJ 4 rfl) (h.lq 5 rfl)) (aa (ag (v := (I6 0)) rfl) (nN (aH ?_))))))
 have hli22 := Ct (h.dJ 4 rfl) (h.lq 5 rfl)
 refine eF (σ := Nat × Int × Value × List Int) (inl ([6] ++ rg 23 18)) (fun ⟨k21, i22, v19, y20⟩ => [(23, (I6 i22))]) (fun ⟨k21, i22, v19, y20⟩ w => SH w0 M BE w (hset [(3, .blk b1 [u4, u6, (I6 y2.status), (I6 y2.bB)]), (4, .own fo.raw 49 u4 (List.zip y2.frames us5)), (5, .jv (fw aY 51 hn us5 (List.map fo.sub y2.frames))), (6, .own (gW Val).raw 47 u6 (List.zip y2.cells XL)), (7, .jv (fw aY 51 hn XL (List.map (gW Val).sub y2.cells))), (8, .own dw 3 v19 y20), (9, .blk b12 [v19])]) ∧ i22 = (k21 : Int) ∧ upto (kG y2) (kH y2) i22 (((y2.frames.length : Int)).toNat - k21) y20 = some r) (fun ⟨k21, i22, v19, y20⟩ => ((y2.frames.length : Int)).toNat - k21) ⟨0, 0, u11, [y2.status, y2.bB, (y2.frames.length : Int)]⟩ ⟨rfl, trivial⟩ ?_ ?_
 exact ⟨h.cn _, rfl, hs⟩
 rintro ⟨k21, i22, v19, y20⟩ w dC ⟨h, hik, hs⟩
 refine nG ?_
 refine aa (dK rfl rfl) (nN ?_)
 refine aJ (fD rfl (fun e26 => ?_) (fun e26 => ?_))
 refine aG (aj ?_)
 rw [lv (by have := kQ e26; omega)] at hs
 generalize Nf : upto (kG y2) (kH y2) (i22 + 1) (((y2.frames.length : Int)).toNat - (k21 + 1)) = wM at hs
 have ZH : jN (i22 + 1) := (by have := kQ e26; have := hli22; exact jN.mk (by omega) (by omega))
 refine aJ (aH (nG ?_))
 obtain ⟨x28, e29, hs⟩ := aM hs
 obtain ⟨u33, e34, h⟩ := h.Bn 5 10 x28.regs rfl rfl (by decide) (aR e29).2 rfl
 obtain ⟨b31, q32, i30⟩ := h.FL 4 rfl dI rfl (aR e29).1 (kX (aR e29).2 e34)
 refine aa (i30 _ _ _ _ _ _ _ _ _ rfl rfl) ?_
 obtain ⟨cs35, m36, r37⟩ := h.JU 4 rfl q32 (kX (aR e29).2 e34)
 obtain ⟨rfl, -⟩ := r37
 refine aa (zF (k := 0) (vs := [(I6 x28.proc), (I6 x28.at_), u33, (I6 x28.ja)]) m36 fF rfl rfl rfl (bH rfl)) (bu h 11 fF fun w b38 h => dN (vs := [(I6 x28.proc), (I6 x28.at_), u33, (I6 x28.ja)]) h 11 [(I6 x28.proc), (I6 x28.at_), u33, (I6 x28.ja)] rfl fF rfl rfl rfl rfl rfl (ai rfl (ai rfl (ai (h.eD 10 rfl).one (ai rfl aS)))) fun w h => nJ (aa (aB h 9 rfl jc rfl rfl) (aa (ah tq rfl) (aa (aB h 11 rfl aP rfl rfl) (aa (ah vD rfl) (aa (aB h 11 rfl aP rfl rfl) (aa (ah uw rfl) (aa (aB h 11 rfl aP rfl rfl) (mX (R := dw) (vs := [(I6 x28.proc), (I6 x28.at_), (I6 x28.ja)]) (xs := [x28.proc, x28.at_, x28.ja]) h 12 fq rfl rfl rfl ⟨rfl, ⟨rfl, ⟨rfl, trivial⟩⟩⟩ rfl fun w Mf h => ?_)))))))))
 obtain ⟨a40, hs⟩ := bE hs
 refine jb (R := dw) (m := [x28.proc, x28.at_, x28.ja]) h 8 rfl (h.dJ 12 rfl) fq rfl rfl rfl a40.1 a40.2 fun w u41 h => dS h 9 [u41] rfl jc rfl rfl rfl rfl (h.eD 8 rfl).one fun w h => nN (ay (aa (ag (v := (.func (.func 57) #[] #[(.pointer (some ⟨b12, 0, none⟩))])) rfl) (aa (ah ko rfl) (aa (aB h 11 rfl kr rfl rfl) (iL (args := [u33, (.pointer (some ⟨b12, 0, none⟩))]) VU rfl rfl (aL (args := [u33, (.pointer (some ⟨b12, 0, none⟩))]) Tryz.func57 rfl Tryz.ntmps57 (bH rfl) (nG (aa (aB h 9 rfl jc rfl rfl) (aa (ag (v := u33) rfl) (aa (aX di rfl (h.dJ 10 rfl)) (mX (R := dw) (vs := [(I6 ((x28.regs.length : Int)))]) (xs := [(x28.regs.length : Int)]) h 13 fq rfl rfl rfl ⟨rfl, trivial⟩ rfl fun w u42 h => ?_)))))))))))
 obtain ⟨a43, hs⟩ := bE hs
 refine jb (R := dw) (m := [(x28.regs.length : Int)]) h 8 rfl (h.dJ 13 rfl) fq rfl rfl rfl a43.1 a43.2 fun w u44 h => dS h 9 [u44] rfl jc rfl rfl rfl rfl (h.eD 8 rfl).one fun w h => nJ (aa (ag (v := u33) rfl) (aa (aX di rfl (h.dJ 10 rfl)) (aa (ag (v := (I6 0)) rfl) (nN (aH ?_)))))
 have hli54 := (h.dJ 10 rfl).bD
 refine eF (σ := Nat × Int × Value × List Int) (inl ([4] ++ rg 12 12)) (fun ⟨Ws, i54, v51, sV⟩ => [(12, (I6 i54))]) (fun ⟨Ws, i54, v51, sV⟩ w => SH w0 M BE w (hset [(3, .blk b1 [u4, u6, (I6 y2.status), (I6 y2.bB)]), (4, .own fo.raw 49 u4 (List.zip y2.frames us5)), (5, .jv (fw aY 51 (hat (i22).toNat) us5 (List.map fo.sub y2.frames))), (6, .own (gW Val).raw 47 u6 (List.zip y2.cells XL)), (7, .jv (fw aY 51 hn XL (List.map (gW Val).sub y2.cells))), (8, .own dw 3 v51 sV), (9, .blk b12 [v51]), (10, .own aY 51 u33 x28.regs)]) ∧ i54 = (Ws : Int) ∧ upto (mI x28) (mJ wM) i54 (((x28.regs.length : Int)).toNat - Ws) sV = some r) (fun ⟨Ws, i54, v51, sV⟩ => ((x28.regs.length : Int)).toNat - Ws) ⟨0, 0, u44, ((y20 ++ [x28.proc, x28.at_, x28.ja]) ++ [(x28.regs.length : Int)])⟩ ⟨rfl, trivial⟩ ?_ ?_
 exact ⟨h.cn _, rfl, hs⟩
 rintro ⟨Ws, i54, v51, sV⟩ w dC ⟨h, hik, hs⟩
 refine nG ?_
 refine aa (dK rfl rfl) (nN ?_)
 refine aJ (fD rfl (fun e58 => ?_) (fun e58 => ?_))
 refine aG (aj ?_)
 rw [lv (by have := kQ e58; omega)] at hs
 generalize VY : upto (mI x28) (mJ wM) (i54 + 1) (((x28.regs.length : Int)).toNat - (Ws + 1)) = VX at hs
 have e59r : jN (i54 + 1) := (by have := kQ e58; have := hli54; exact jN.mk (by omega) (by omega))
 refine aJ (aH (nG ?_))
 obtain ⟨FI, e61, hs⟩ := aM hs
 obtain ⟨b63, q64, i62⟩ := h.FL 10 rfl di rfl (aR e61).1 (aR e61).2
 refine aa (i62 _ _ _ _ _ _ _ _ _ rfl rfl) ?_
 obtain ⟨cs65, m66, r67⟩ := h.JU 10 rfl q64 (aR e61).2
 obtain rfl := r67
 refine aa (zF (k := 0) (vs := [(I6 FI.kind), (I6 FI.n)]) m66 dR rfl rfl rfl (bH rfl)) (bu h 14 dR fun w b68 h => dN (vs := [(I6 FI.kind), (I6 FI.n)]) h 14 [(I6 FI.kind), (I6 FI.n)] rfl dR rfl rfl rfl rfl rfl (ai rfl (ai rfl aS)) fun w h => nN (ay (aa (aB h 9 rfl jc rfl rfl) (aa (ah rV rfl) (aa (aB h 14 rfl aP rfl rfl) (aa (ah jF rfl) (aa (aB h 14 rfl aP rfl rfl) (mX (R := dw) (vs := [(I6 FI.kind), (I6 FI.n)]) (xs := [FI.kind, FI.n]) h 15 fq rfl rfl rfl ⟨rfl, ⟨rfl, trivial⟩⟩ rfl fun w u69 h => ?_))))))))
 obtain ⟨a70, hs⟩ := bE hs
 refine jb (R := dw) (m := [FI.kind, FI.n]) h 8 rfl (h.dJ 15 rfl) fq rfl rfl rfl a70.1 a70.2 fun w u71 h => dS h 9 [u71] rfl jc rfl rfl rfl rfl (h.eD 8 rfl).one fun w h => aC (au (aj (ay (aa (dz rfl rfl e59r) (aa (ag (v := (I6 ((i54 + 1)))) rfl) (aC (ak ?_)))))))
 subst VY
 exact iw ⟨Ws + 1, i54 + 1, u71, (sV ++ [FI.kind, FI.n])⟩ ⟨h.cn _, by omega, hs⟩ (by have := kQ e58; dsimp only; omega)
 rw [lC (by have := of_decide_eq_false e58; omega)] at hs
 refine iI (bC (bC (dV (H6 Tryz.results57 (⟨_, rfl, ?_⟩)))))
 refine aC (au (aj (ay (aa (dz rfl rfl ZH) (aa (ag (v := (I6 ((i22 + 1)))) rfl) (aC ?_))))))
 replace h := h.EP 5 10 rfl rfl (by decide) (aR e29).2 e34 rfl
 refine ak ?_
 subst Nf
 exact iw ⟨k21 + 1, i22 + 1, v51, sV⟩ ⟨h.cn _, by omega, hs⟩ (by have := kQ e26; dsimp only; omega)
 rw [lC (by have := of_decide_eq_false e26; omega)] at hs
 refine nE (aa (aB h 9 rfl jc rfl rfl) (aa (ah gL rfl) (aa (aB h 3 rfl jL rfl rfl) (aa (wL (N := (gW Val)) dO rfl (h.dJ 6 rfl) (h.lq 7 rfl)) (mX (R := dw) (vs := [(I6 ((y2.cells.length : Int)))]) (xs := [(y2.cells.length : Int)]) h 16 fq rfl rfl rfl ⟨rfl, trivial⟩ rfl fun w u72 h => ?_)))))
 obtain ⟨a73, hs⟩ := bE hs
 refine jb (R := dw) (m := [(y2.cells.length : Int)]) h 8 rfl (h.dJ 16 rfl) fq rfl rfl rfl a73.1 a73.2 fun w u74 h => dS h 9 [u74] rfl jc rfl rfl rfl rfl (h.eD 8 rfl).one fun w h => nK (aa (ah gL rfl) (aa (aB h 3 rfl jL rfl rfl) (aa (wL (N := (gW Val)) dO rfl (h.dJ 6 rfl) (h.lq 7 rfl)) (aa (ag (v := (I6 0)) rfl) (nN (aH ?_))))))
 have hli84 := Ct (h.dJ 6 rfl) (h.lq 7 rfl)
 refine eF (σ := Nat × Int × Value × List Int) (inl ([8] ++ rg 50 8)) (fun ⟨SE, i84, v81, V6⟩ => [(50, (I6 i84))]) (fun ⟨SE, i84, v81, V6⟩ w => SH w0 M BE w (hset [(6, .own (gW Val).raw 47 u6 (List.zip y2.cells XL)), (7, .jv (fw aY 51 hn XL (List.map (gW Val).sub y2.cells))), (8, .own dw 3 v81 V6), (9, .blk b12 [v81])]) ∧ i84 = (SE : Int) ∧ upto (mO y2) mP i84 (((y2.cells.length : Int)).toNat - SE) V6 = some r) (fun ⟨SE, i84, v81, V6⟩ => ((y2.cells.length : Int)).toNat - SE) ⟨0, 0, u74, (y20 ++ [(y2.cells.length : Int)])⟩ ⟨rfl, trivial⟩ ?_ ?_
 exact ⟨h.cn _, rfl, hs⟩
 rintro ⟨SE, i84, v81, V6⟩ w dC ⟨h, hik, hs⟩
 refine nG ?_
 refine aa (dK rfl rfl) (nN ?_)
 refine aJ (fD rfl (fun SG => ?_) (fun SG => ?_))
 refine aG (aj ?_)
 rw [lv (by have := kQ SG; omega)] at hs
 generalize hnx87 : upto (mO y2) mP (i84 + 1) (((y2.cells.length : Int)).toNat - (SE + 1)) = Sk at hs
 have e89r : jN (i84 + 1) := (by have := kQ SG; have := hli84; exact jN.mk (by omega) (by omega))
 refine aJ (aH (nG ?_))
 obtain ⟨x90, e91, hs⟩ := aM hs
 obtain ⟨Yh, ZV, h⟩ := h.Bn 7 17 x90 rfl rfl (by decide) (aR e91).2 rfl
 obtain ⟨b93, q94, i92⟩ := h.FL 6 rfl dO rfl (aR e91).1 (kX (aR e91).2 ZV)
 refine aa (i92 _ _ _ _ _ _ _ _ _ rfl rfl) ?_
 obtain ⟨cs97, m98, r99⟩ := h.JU 6 rfl q94 (kX (aR e91).2 ZV)
 obtain ⟨rfl, -⟩ := r99
 refine aa (zX (k := 0) m98 kr rfl rfl) (aa (ae (v := Yh) rfl) (nN (ay (aa (ag (v := (.func (.func 57) #[] #[(.pointer (some ⟨b12, 0, none⟩))])) rfl) (aa (ag (v := Yh) rfl) (iL (args := [Yh, (.pointer (some ⟨b12, 0, none⟩))]) VU rfl rfl (aL (args := [Yh, (.pointer (some ⟨b12, 0, none⟩))]) Tryz.func57 rfl Tryz.ntmps57 (bH rfl) (nG (aa (aB h 9 rfl jc rfl rfl) (aa (ag (v := Yh) rfl) (aa (aX di rfl (h.dJ 17 rfl)) (mX (R := dw) (vs := [(I6 ((x90.length : Int)))]) (xs := [(x90.length : Int)]) h 18 fq rfl rfl rfl ⟨rfl, trivial⟩ rfl fun w Xi h => ?_))))))))))))
 obtain ⟨O0, hs⟩ := bE hs
 refine jb (R := dw) (m := [(x90.length : Int)]) h 8 rfl (h.dJ 18 rfl) fq rfl rfl rfl O0.1 O0.2 fun w Xj h => dS h 9 [Xj] rfl jc rfl rfl rfl rfl (h.eD 8 rfl).one fun w h => nJ (aa (ag (v := Yh) rfl) (aa (aX di rfl (h.dJ 17 rfl)) (aa (ag (v := (I6 0)) rfl) (nN (aH ?_)))))
 have hli112 := (h.dJ 17 rfl).bD
 refine eF (σ := Nat × Int × Value × List Int) (inl ([4] ++ rg 12 12)) (fun ⟨Oq, i112, v109, zk⟩ => [(12, (I6 i112))]) (fun ⟨Oq, i112, v109, zk⟩ w => SH w0 M BE w (hset [(6, .own (gW Val).raw 47 u6 (List.zip y2.cells XL)), (7, .jv (fw aY 51 (hat (i84).toNat) XL (List.map (gW Val).sub y2.cells))), (8, .own dw 3 v109 zk), (9, .blk b12 [v109]), (17, .own aY 51 Yh x90)]) ∧ i112 = (Oq : Int) ∧ upto (mK x90) (mM Sk) i112 (((x90.length : Int)).toNat - Oq) zk = some r) (fun ⟨Oq, i112, v109, zk⟩ => ((x90.length : Int)).toNat - Oq) ⟨0, 0, Xj, (V6 ++ [(x90.length : Int)])⟩ ⟨rfl, trivial⟩ ?_ ?_
 exact ⟨h.cn _, rfl, hs⟩
 rintro ⟨Oq, i112, v109, zk⟩ w dC ⟨h, hik, hs⟩
 refine nG ?_
 refine aa (dK rfl rfl) (nN ?_)
 refine aJ (fD rfl (fun e116 => ?_) (fun e116 => ?_))
 refine aG (aj ?_)
 rw [lv (by have := kQ e116; omega)] at hs
 generalize hnx115 : upto (mK x90) (mM Sk) (i112 + 1) (((x90.length : Int)).toNat - (Oq + 1)) = YF at hs
 have e117r : jN (i112 + 1) := (by have := kQ e116; have := hli112; exact jN.mk (by omega) (by omega))
 refine aJ (aH (nG ?_))
 obtain ⟨BL, e119, hs⟩ := aM hs
 obtain ⟨b121, q122, i120⟩ := h.FL 17 rfl di rfl (aR e119).1 (aR e119).2
 refine aa (i120 _ _ _ _ _ _ _ _ _ rfl rfl) ?_
 obtain ⟨cs123, m124, r125⟩ := h.JU 17 rfl q122 (aR e119).2
 obtain rfl := r125
 refine aa (zF (k := 0) (vs := [(I6 BL.kind), (I6 BL.n)]) m124 dR rfl rfl rfl (bH rfl)) (bu h 19 dR fun w b126 h => dN (vs := [(I6 BL.kind), (I6 BL.n)]) h 19 [(I6 BL.kind), (I6 BL.n)] rfl dR rfl rfl rfl rfl rfl (ai rfl (ai rfl aS)) fun w h => nN (ay (aa (aB h 9 rfl jc rfl rfl) (aa (ah rV rfl) (aa (aB h 19 rfl aP rfl rfl) (aa (ah jF rfl) (aa (aB h 19 rfl aP rfl rfl) (mX (R := dw) (vs := [(I6 BL.kind), (I6 BL.n)]) (xs := [BL.kind, BL.n]) h 20 fq rfl rfl rfl ⟨rfl, ⟨rfl, trivial⟩⟩ rfl fun w u127 h => ?_))))))))
 obtain ⟨a128, hs⟩ := bE hs
 refine jb (R := dw) (m := [BL.kind, BL.n]) h 8 rfl (h.dJ 20 rfl) fq rfl rfl rfl a128.1 a128.2 fun w u129 h => dS h 9 [u129] rfl jc rfl rfl rfl rfl (h.eD 8 rfl).one fun w h => aC (au (aj (ay (aa (dz rfl rfl e117r) (aa (ag (v := (I6 ((i112 + 1)))) rfl) (aC (ak ?_)))))))
 subst hnx115
 exact iw ⟨Oq + 1, i112 + 1, u129, (zk ++ [BL.kind, BL.n])⟩ ⟨h.cn _, by omega, hs⟩ (by have := kQ e116; dsimp only; omega)
 rw [lC (by have := of_decide_eq_false e116; omega)] at hs
 refine iI (bC (bC (dV (H6 Tryz.results57 (⟨_, rfl, ?_⟩)))))
 refine aC (au (aj (ay (aa (dz rfl rfl e89r) (aa (ag (v := (I6 ((i84 + 1)))) rfl) (aC ?_))))))
 replace h := h.EP 7 17 rfl rfl (by decide) (aR e91).2 ZV rfl
 refine ak ?_
 subst hnx87
 exact iw ⟨SE + 1, i84 + 1, v109, zk⟩ ⟨h.cn _, by omega, hs⟩ (by have := kQ SG; dsimp only; omega)
 rw [lC (by have := of_decide_eq_false SG; omega)] at hs
 refine nE (aa (aB h 9 rfl jc rfl rfl) (aa (ae (v := v81) rfl) (nR (bI (v := v81) Tryz.results23 rfl ?_))))
 obtain rfl := gK hs
 exact ⟨h.grown, _, rfl, (h.mh 8 rfl).1, (h.mh 8 rfl).2⟩
def uL (sx : dL) (I : List Int) (a : Int) : Option (Int × dL) :=
  bif decide (((I.length : Int) : Int) ≤ sx.at_) then some (0, (⟨sx.at_, true⟩ : dL)) else (idx I sx.at_).bind fun x2 => iA (jN (sx.at_ + 1)) (bif (decide ((0 : Int) ≤ a) && (!(aI x2 0 a))) then some (0, (⟨(sx.at_ + 1), true⟩ : dL)) else some (x2, (⟨(sx.at_ + 1), sx.ok⟩ : dL)))
theorem uo (w0 : World) (M : BS) (hM : ∀ b, M b → b < w0.heap.size) (ba bo bi : Nat) (sx : dL) (hC : Chunk.holds w0 M (Chunk.own' (.two (.blk ba [(I6 sx.at_)]) (.blk bo [(.bool (sx.ok))]) : Chunk)) (.two (.blk ba [(I6 sx.at_)]) (.blk bo [(.bool (sx.ok))]) : Chunk)) (hap : ∀ b, Chunk.own' (.two (.blk ba [(I6 sx.at_)]) (.blk bo [(.bool (sx.ok))]) : Chunk) b → ¬ M b) (vI : Value) (I : List Int) (hvI : gF dw w0 (fun b => M b ∨ Chunk.own' (.two (.blk ba [(I6 sx.at_)]) (.blk bo [(.bool (sx.ok))]) : Chunk) b) vI I) (hbi : ∃ E, w0.heap[bi]? = some (.cells #[vI] E (0, 0))) (YG : ¬ Chunk.own' (.two (.blk ba [(I6 sx.at_)]) (.blk bo [(.bool (sx.ok))]) : Chunk) bi) (a : Int) (r : Int × dL) (hs : uL sx I a = some r) :
    Calls Tryz.prog 61 #[(I6 a), (.pointer (some ⟨ba, 0, none⟩)), (.pointer (some ⟨bi, 0, none⟩)), (.pointer (some ⟨bo, 0, none⟩))] w0 (fun e w' => aQ (Chunk.own' (.two (.blk ba [(I6 sx.at_)]) (.blk bo [(.bool (sx.ok))]) : Chunk)) w0 w' ∧ e = .returned (.int .i64 r.1) ∧ Chunk.holds w' M (Chunk.own' (.two (.blk ba [.int .i64 r.2.at_]) (.blk bo [.bool r.2.ok]) : Chunk)) (.two (.blk ba [.int .i64 r.2.at_]) (.blk bo [.bool r.2.ok]) : Chunk) ∧ (∀ b, Chunk.own' (.two (.blk ba [.int .i64 r.2.at_]) (.blk bo [.bool r.2.ok]) : Chunk) b → b < w0.heap.size → Chunk.own' (.two (.blk ba [(I6 sx.at_)]) (.blk bo [(.bool (sx.ok))]) : Chunk) b)) := by
 refine aL (args := [(I6 a), (.pointer (some ⟨ba, 0, none⟩)), (.pointer (some ⟨bi, 0, none⟩)), (.pointer (some ⟨bo, 0, none⟩))]) Tryz.func61 rfl Tryz.ntmps61 (bH rfl) ?_
 have h := SH.EO hM hC hap
 replace h := h.Cq 3 hvI zh
 replace h := h.xL 4 (cs := [vI]) hbi YG (sW zh)
 have Sl := YG
 generalize Hy : (.two (.blk ba [(I6 sx.at_)]) (.blk bo [(.bool (sx.ok))]) : Chunk).own' = K0 at h Sl
 replace h := h.gJ 1 2 (by decide) rfl rfl
 refine nG (aa (ae (v := (I6 0)) rfl) (nK (aa (aB h 1 rfl aP rfl rfl) (aa (eQ (k := 0) h 4 rfl jc rfl rfl) (aa (aX bN rfl (h.lF 3 rfl)) (aa (qE rfl rfl) (nN (aK hs rfl (fun c1 hs => ?_) (fun c1 hs => ?_)))))))))
 refine nG (dS h 2 [(.bool (true))] rfl vE rfl rfl rfl rfl rfl fun w h => nJ (aa (ae (v := (I6 0)) rfl) (nR (ax (bI (v := (I6 0)) Tryz.results61 rfl ?_)))))
 replace h := h.pair 1 2 (by decide)
 obtain rfl := gK hs
 subst Hy
 obtain ⟨o1, o2, o3⟩ := h.zI 1 (C := (.two (.blk ba [(I6 sx.at_)]) (.blk bo [(.bool (true))]) : Chunk)) rfl ⟨trivial, trivial⟩
 exact ⟨o2, rfl, o1, o3⟩
 refine nS (aa (eQ (k := 0) h 4 rfl jc rfl rfl) (aa (aB h 1 rfl aP rfl rfl) ?_))
 obtain ⟨x2, e3, hs⟩ := aM hs
 obtain ⟨b5, o6, cs7, h, r8, i4⟩ := h.FH 3 5 rfl bN rfl (aR e3).1 (aR e3).2
 obtain rfl := r8
 refine aa (i4 _ _ _ _ _ _ _ _ _ rfl rfl) (aa (eQ (k := 0) h 5 rfl aP rfl rfl) (aa (ae (v := (I6 x2)) rfl) (nJ (aa (aB h 1 rfl aP rfl rfl) ?_))))
 obtain ⟨a9, hs⟩ := bE hs
 refine aa (dz rfl rfl a9) (dS h 1 [(I6 ((sx.at_ + 1)))] rfl aP rfl rfl rfl rfl rfl fun w h => nK (aa (ag (v := (I6 a)) rfl) (aa (qE rfl rfl) (aa (ag (v := (.bool (decide ((0 : Int) ≤ a)))) rfl) (az rfl rfl (fun q => ag (v := (I6 x2)) rfl) (az rfl rfl (fun q => ag (v := (I6 a)) rfl) (vv rfl rfl pU rfl (fun q => iB (dE q) (iB rfl (iB (dE q) rfl))) (dD _ _ h.lt x2 0 a _ rfl) fun w k10 => ?_)))))))
 replace h := h.grow k10
 refine az rfl rfl (fun q => dU (dE q)) (aa (fB rfl rfl lW) (nN (aK hs rfl (fun c11 hs => ?_) (fun c11 hs => ?_))))
 refine nG (dS h 2 [(.bool (true))] rfl vE rfl rfl rfl rfl rfl fun w h => nJ (aa (ae (v := (I6 0)) rfl) (nR (ax (bI (v := (I6 0)) Tryz.results61 rfl ?_)))))
 replace h := h.pair 1 2 (by decide)
 obtain rfl := gK hs
 subst Hy
 obtain ⟨o1, o2, o3⟩ := h.zI 1 (C := (.two (.blk ba [(I6 ((sx.at_ + 1)))]) (.blk bo [(.bool (true))]) : Chunk)) rfl ⟨trivial, trivial⟩
 exact ⟨o2, rfl, o1, o3⟩
 refine nS (aa (ag (v := (I6 x2)) rfl) (aa (ae (v := (I6 x2)) rfl) (nR (bI (v := (I6 x2)) Tryz.results61 rfl ?_))))
 replace h := h.pair 1 2 (by decide)
 obtain rfl := gK hs
 subst Hy
 obtain ⟨o1, o2, o3⟩ := h.zI 1 (C := (.two (.blk ba [(I6 ((sx.at_ + 1)))]) (.blk bo [(.bool (sx.ok))]) : Chunk)) rfl ⟨trivial, trivial⟩
 exact ⟨o2, rfl, o1, o3⟩
def uY (I : List Int) (s : List Val × Int × Int × Bool) (wF : List Val × Int × Int × Bool → Option (List Val × dL)) : Option (List Val × dL) :=
  match s with | (mZ, x24, y25, Hz) => bif (decide ((0 : Int) < x24) && (!Hz)) then (uL (⟨y25, Hz⟩ : dL) I (-1)).bind fun kJ => (uL kJ.2 I (-1)).bind fun sS => iA (Room 16 mZ [(⟨kJ.1, sS.1⟩ : Val)]) (iA (jN (x24 - 1)) (wF ((mZ ++ [(⟨kJ.1, sS.1⟩ : Val)]), (x24 - 1), sS.2.at_, sS.2.ok))) else some (mZ, (⟨y25, Hz⟩ : dL))
def Jv (N : Nat) (sx : dL) (I : List Int) (a : Int) : Option (List Val × dL) :=
  (uL sx I a).bind fun y2 => again (uY I) N ([], y2.1, y2.2.at_, y2.2.ok)
theorem Jw (N : Nat) (w0 : World) (M : BS) (hM : ∀ b, M b → b < w0.heap.size) (ba bo bi bn : Nat) (sx : dL) (hC : Chunk.holds w0 M (Chunk.own' (.two (.blk ba [(I6 sx.at_)]) (.blk bo [(.bool (sx.ok))]) : Chunk)) (.two (.blk ba [(I6 sx.at_)]) (.blk bo [(.bool (sx.ok))]) : Chunk)) (hap : ∀ b, Chunk.own' (.two (.blk ba [(I6 sx.at_)]) (.blk bo [(.bool (sx.ok))]) : Chunk) b → ¬ M b) (vI : Value) (I : List Int) (hvI : gF dw w0 (fun b => M b ∨ Chunk.own' (.two (.blk ba [(I6 sx.at_)]) (.blk bo [(.bool (sx.ok))]) : Chunk) b) vI I) (hbi : ∃ E, w0.heap[bi]? = some (.cells #[vI] E (0, 0))) (YG : ¬ Chunk.own' (.two (.blk ba [(I6 sx.at_)]) (.blk bo [(.bool (sx.ok))]) : Chunk) bi) (hbn : ∃ E, w0.heap[bn]? = some (.cells #[(.func (.func 61) #[] #[(.pointer (some ⟨ba, 0, none⟩)), (.pointer (some ⟨bi, 0, none⟩)), (.pointer (some ⟨bo, 0, none⟩))])] E (0, 0))) (nbn : ¬ Chunk.own' (.two (.blk ba [(I6 sx.at_)]) (.blk bo [(.bool (sx.ok))]) : Chunk) bn) (a : Int) (r : List Val × dL) (hs : Jv N sx I a = some r) :
    Calls Tryz.prog 62 #[(I6 a), (.pointer (some ⟨bn, 0, none⟩)), (.pointer (some ⟨bo, 0, none⟩))] w0 (fun e w' => aQ (Chunk.own' (.two (.blk ba [(I6 sx.at_)]) (.blk bo [(.bool (sx.ok))]) : Chunk)) w0 w' ∧ ∃ u0, e = .returned (u0) ∧ Chunk.holds w' M (Chunk.own' (.two (.blk ba [.int .i64 r.2.at_]) (.blk bo [.bool r.2.ok]) : Chunk)) (.two (.blk ba [.int .i64 r.2.at_]) (.blk bo [.bool r.2.ok]) : Chunk) ∧ (∀ b, Chunk.own' (.two (.blk ba [.int .i64 r.2.at_]) (.blk bo [.bool r.2.ok]) : Chunk) b → b < w0.heap.size → Chunk.own' (.two (.blk ba [(I6 sx.at_)]) (.blk bo [(.bool (sx.ok))]) : Chunk) b) ∧ gF aY w' (fun b => M b ∨ Chunk.own' (.two (.blk ba [.int .i64 r.2.at_]) (.blk bo [.bool r.2.ok]) : Chunk) b) u0 r.1) := by
 refine aL (args := [(I6 a), (.pointer (some ⟨bn, 0, none⟩)), (.pointer (some ⟨bo, 0, none⟩))]) Tryz.func62 rfl Tryz.ntmps62 (bH rfl) ?_
 have h := SH.EO hM hC hap
 replace h := h.Cq 3 hvI zh
 replace h := h.xL 4 (cs := [vI]) hbi YG (sW zh)
 replace h := h.xL 5 (cs := [(.func (.func 61) #[] #[(.pointer (some ⟨ba, 0, none⟩)), (.pointer (some ⟨bi, 0, none⟩)), (.pointer (some ⟨bo, 0, none⟩))])]) hbn nbn (rU (sW zh))
 have Sl := YG
 have nbnK := nbn
 generalize Hy : (.two (.blk ba [(I6 sx.at_)]) (.blk bo [(.bool (sx.ok))]) : Chunk).own' = K0 at h Sl nbnK
 replace h := h.gJ 1 2 (by decide) rfl rfl
 refine nG (aa (ae (v := (.slice none 0 0)) rfl) (nJ (aa (ae (v := (.slice none 0 0)) rfl) (nK (aa (eQ (k := 0) h 5 rfl BV rfl rfl) (aa (ag (v := (I6 a)) rfl) ?_))))))
 replace h := h.pair 1 2 (by decide)
 obtain ⟨l1a, l1b, l1c⟩ := h.j5 1 (C := (.two (.blk ba [(I6 sx.at_)]) (.blk bo [(.bool (sx.ok))]) : Chunk)) rfl ⟨trivial, trivial⟩
 obtain ⟨y2, e3, hs⟩ := aM hs
 refine aO zU rfl rfl (uo _ _ l1c ba bo bi sx l1a l1b vI I (h.Cr 1 3 rfl rfl) (by obtain ⟨E, hE⟩ := hbi; exact ⟨E, h.keep.blk hE Sl⟩) YG a _ e3) ?_
 rintro _ w ⟨k4, rfl, h5, h6⟩
 refine ⟨_, rfl, ?_⟩
 replace h := h.back 1 (C := (.two (.blk ba [(I6 sx.at_)]) (.blk bo [(.bool (sx.ok))]) : Chunk)) (C' := (.two (.blk ba [(I6 y2.2.at_)]) (.blk bo [(.bool (y2.2.ok))]) : Chunk)) rfl ⟨trivial, trivial⟩ h5 k4 h6
 replace h := h.gJ 1 2 (by decide) rfl rfl
 refine aa (ae (v := (I6 y2.1)) rfl) (nN (aH ?_))
 replace h := h.uZ (R := aY) (E := 51) 9
 refine eF (σ := Nat × Value × List Val × Int × Int × Bool) (inl ([5, 6, 7] ++ rg 11 18)) (fun ⟨Vs, v22, mZ, x24, y25, Hz⟩ => [(5, v22), (6, (I6 x24))]) (fun ⟨Vs, v22, mZ, x24, y25, Hz⟩ w => SH w0 M K0 w (hset [(1, .blk ba [(I6 y25)]), (2, .blk bo [(.bool (Hz))]), (3, .rd dw vI I), (4, .pt bi 0 [vI]), (5, .pt bn 0 [(.func (.func 61) #[] #[(.pointer (some ⟨ba, 0, none⟩)), (.pointer (some ⟨bi, 0, none⟩)), (.pointer (some ⟨bo, 0, none⟩))])]), (9, .own aY 51 v22 mZ)]) ∧ again (uY I) Vs (mZ, x24, y25, Hz) = some r) (fun ⟨Vs, v22, mZ, x24, y25, Hz⟩ => Vs) ⟨N, (.slice none 0 0), [], y2.1, y2.2.at_, y2.2.ok⟩ ⟨rfl, rfl, trivial⟩ ?_ ?_
 exact ⟨h.cn _, hs⟩
 rintro ⟨Vs, v22, mZ, x24, y25, Hz⟩ w dC ⟨h, hs⟩
 obtain ⟨Vt, m30e, m30h⟩ := lQ hs
 subst m30e
 replace hs := m30h
 generalize Nb : again (uY I) Vt = wF at hs
 refine aJ (nG (aa (ag (v := (I6 x24)) rfl) (aa (jK rfl rfl) (aa (ag (v := (.bool (decide ((0 : Int) < x24)))) rfl) (az rfl rfl (fun q => aB h 2 rfl vE rfl rfl) (az rfl rfl (fun q => dU (dE q)) (aa (fB rfl rfl lW) (nN (aK hs rfl (fun c34 hs => ?_) (fun c34 hs => ?_))))))))))
 refine aG (aj (aJ (aH (nG (aa (eQ (k := 0) h 5 rfl BV rfl rfl) ?_)))))
 replace h := h.pair 1 2 (by decide)
 obtain ⟨l35a, l35b, l35c⟩ := h.j5 1 (C := (.two (.blk ba [(I6 y25)]) (.blk bo [(.bool (Hz))]) : Chunk)) rfl ⟨trivial, trivial⟩
 obtain ⟨kJ, e37, hs⟩ := aM hs
 refine aO zU rfl rfl (uo _ _ l35c ba bo bi (⟨y25, Hz⟩ : dL) l35a l35b vI I (h.Cr 1 3 rfl rfl) (by obtain ⟨E, hE⟩ := hbi; exact ⟨E, h.keep.blk hE Sl⟩) YG (-1) _ e37) ?_
 rintro _ w ⟨ME, rfl, h39, h40⟩
 refine ⟨_, rfl, ?_⟩
 replace h := h.back 1 (C := (.two (.blk ba [(I6 y25)]) (.blk bo [(.bool (Hz))]) : Chunk)) (C' := (.two (.blk ba [(I6 kJ.2.at_)]) (.blk bo [(.bool (kJ.2.ok))]) : Chunk)) rfl ⟨trivial, trivial⟩ h39 ME h40
 replace h := h.gJ 1 2 (by decide) rfl rfl
 refine aa (fE (pv := [(0, (I6 kJ.1))]) (out := [(I6 kJ.1), (I6 0)]) Na rfl ⟨0, 1, [(I6 kJ.1)], rfl, rfl, rfl, bH rfl, rfl⟩) (bu h 10 dR fun w b41 h => dN (vs := [(I6 kJ.1), (I6 0)]) h 10 [(I6 kJ.1), (I6 0)] rfl dR rfl rfl rfl rfl rfl (ai rfl (ai rfl aS)) fun w h => nJ (aa (eQ (k := 0) h 5 rfl BV rfl rfl) ?_))
 replace h := h.pair 1 2 (by decide)
 obtain ⟨l42a, l42b, l42c⟩ := h.j5 1 (C := (.two (.blk ba [(I6 kJ.2.at_)]) (.blk bo [(.bool (kJ.2.ok))]) : Chunk)) rfl ⟨trivial, trivial⟩
 obtain ⟨sS, e44, hs⟩ := aM hs
 refine aO zU rfl rfl (uo _ _ l42c ba bo bi kJ.2 l42a l42b vI I (h.Cr 1 3 rfl rfl) (by obtain ⟨E, hE⟩ := hbi; exact ⟨E, h.keep.blk hE Sl⟩) YG (-1) _ e44) ?_
 rintro _ w ⟨SC, rfl, h46, h47⟩
 refine ⟨_, rfl, ?_⟩
 replace h := h.back 1 (C := (.two (.blk ba [(I6 kJ.2.at_)]) (.blk bo [(.bool (kJ.2.ok))]) : Chunk)) (C' := (.two (.blk ba [(I6 sS.2.at_)]) (.blk bo [(.bool (sS.2.ok))]) : Chunk)) rfl ⟨trivial, trivial⟩ h46 SC h47
 replace h := h.gJ 1 2 (by decide) rfl rfl
 refine aa (ah jF rfl) (dS h 10 [(I6 kJ.1), (I6 sS.1)] rfl aP rfl rfl rfl rfl rfl fun w h => nN (ay (aa (ag (v := v22) rfl) (aa (eB (vs := [(I6 kJ.1), (I6 sS.1)]) h 10 rfl dR rfl rfl rfl) (mX (R := aY) (vs := [(.agg #[(I6 kJ.1), (I6 sS.1)])]) (xs := [(⟨kJ.1, sS.1⟩ : Val)]) h 11 nk rfl rfl rfl ⟨rfl, trivial⟩ rfl fun w u48 h => ?_)))))
 obtain ⟨a49, hs⟩ := bE hs
 refine jb (R := aY) (m := [(⟨kJ.1, sS.1⟩ : Val)]) h 9 rfl (h.dJ 11 rfl) nk rfl rfl rfl a49.1 a49.2 fun w Vn h => aa (ae (v := Vn) rfl) (aC (au (aj (ay (aa (ag (v := (I6 x24)) rfl) ?_)))))
 obtain ⟨a51, hs⟩ := bE hs
 refine aa (tY rfl rfl a51) (aa (ae (v := (I6 ((x24 - 1)))) rfl) (aC (ak ?_)))
 subst Nb
 exact iw ⟨Vt, Vn, (mZ ++ [(⟨kJ.1, sS.1⟩ : Val)]), (x24 - 1), sS.2.at_, sS.2.ok⟩ ⟨h.cn _, hs⟩
 refine nE (aa (ag (v := v22) rfl) (aa (ae (v := v22) rfl) (nR (bI (v := v22) Tryz.results62 rfl ?_))))
 replace h := h.freeze 9 rfl
 replace h := h.pair 1 2 (by decide)
 obtain rfl := gK hs
 subst Hy
 obtain ⟨o1, o2, o3⟩ := h.zI 1 (C := (.two (.blk ba [(I6 y25)]) (.blk bo [(.bool (Hz))]) : Chunk)) rfl ⟨trivial, trivial⟩
 exact ⟨o2, v22, rfl, o1, o3, h.zH 1 9 rfl rfl⟩
def qA (x107 : Int) (Ot : (Int × Int × Bool × List (List Val)) → Option (LX.State × Int)) (P7 : Int) (P8 : Bool) (P9 : List (List Val)) : Option (LX.State × Int) :=
  iA (jN (x107 - 1)) (Ot ((x107 - 1), P7, P8, P9))
def gq (N : Nat) (b : List Int) (a : List cz) (BP : List LX.Frame) (y9 : Int × dL) (rT : Int × dL) (s : Int × Int × Bool × List (List Val)) (Ot : Int × Int × Bool × List (List Val) → Option (LX.State × Int)) : Option (LX.State × Int) :=
  match s with | (x107, yl, kZ, uF) => bif (decide ((0 : Int) < x107) && (!kZ)) then (Jv N (⟨yl, kZ⟩ : dL) b 4).bind fun gU => iA (Room 24 uF [gU.1]) (qA x107 Ot gU.2.at_ gU.2.ok (uF ++ [gU.1])) else bif (kZ || decide ((yl : Int) < (b.length : Int))) then some ((⟨[], [], 0, 0⟩ : LX.State), 8) else (gN a (⟨BP, uF, y9.1, rT.1⟩ : LX.State)).bind fun DF => bif decide ((DF : Int) ≠ 0) then some ((⟨[], [], 0, 0⟩ : LX.State), DF) else (lV N (⟨BP, uF, y9.1, rT.1⟩ : LX.State)).bind fun AY => (gp AY (⟨BP, uF, y9.1, rT.1⟩ : LX.State)).bind fun KZ => bif (!KZ) then some ((⟨[], [], 0, 0⟩ : LX.State), 4) else some ((⟨BP, uF, y9.1, rT.1⟩ : LX.State), 0)
def fP (N : Nat) (b : List Int) (a : List cz) (y9 : Int × dL) (rT : Int × dL) (s : Int × Int × Bool × List LX.Frame) (nx51 : Int × Int × Bool × List LX.Frame → Option (LX.State × Int)) : Option (LX.State × Int) :=
  match s with | (QV, sS, wE, BP) => bif (decide ((0 : Int) < QV) && (!wE)) then (uL (⟨sS, wE⟩ : dL) b (-1)).bind fun Bb => (uL Bb.2 b (-1)).bind fun Cf => (uL Cf.2 b (-1)).bind fun xx => (Jv N xx.2 b 40).bind fun SK => iA (Room 48 BP [(⟨Bb.1, Cf.1, SK.1, xx.1⟩ : LX.Frame)]) (iA (jN (QV - 1)) (nx51 ((QV - 1), SK.2.at_, SK.2.ok, (BP ++ [(⟨Bb.1, Cf.1, SK.1, xx.1⟩ : LX.Frame)])))) else (uL (⟨sS, wE⟩ : dL) b 24).bind fun Mt => again (gq N b a BP y9 rT) N (Mt.1, Mt.2.at_, Mt.2.ok, [])
def pQ (N : Nat) (a : List cz) (b : List Int) : Option (LX.State × Int) :=
  bif decide ((1200 : Int) < (b.length : Int)) then some ((⟨[], [], 0, 0⟩ : LX.State), 2) else (uL (⟨0, false⟩ : dL) b (-1)).bind fun y9 => (uL y9.2 b (-1)).bind fun rT => (uL rT.2 b 10).bind fun y22 => again (fP N b a y9 rT) N (y22.1, y22.2.at_, y22.2.ok, [])
theorem BM (N : Nat) (w0 : World) (M : BS) (hM : ∀ b, M b → b < w0.heap.size) (va : Value) (a : List cz) (ha : fK jE w0 BE M va a) (vb : Value) (b : List Int) (hb : gF dw w0 M vb b) (r : LX.State × Int) (hs : pQ N a b = some r) :
    Calls Tryz.prog 25 #[va, vb] w0 (fun e w' => Grow w0 w' ∧ ∃ tT, ∃ wG, e = .returned (.tuple #[.agg #[tT, wG, .int .i64 r.1.status, .int .i64 r.1.bB], .int .i64 r.2]) ∧ gF dM w' M tT r.1.frames ∧ gF (kW aY) w' M wG r.1.cells) := by
 refine aL (args := [va, vb]) Tryz.func25 rfl Tryz.ntmps25 (bH rfl) ?_
 have h := SH.init hM
 replace h := h.eu 1 ha aT
 replace h := h.SV 2 hb (aW aT)
 have tQ := ha.bD
 have FU := hb.bD
 refine nG (l7 (cs := [vb]) h 3 rfl (Bh (h.gy 2 rfl).one) fun w b1 h => bu h 4 bM fun w b2 h => aa (ae (v := (I6 0)) rfl) (nJ (aa (ae (v := (.func (.func 60) #[] #[])) rfl) (nK (aa (aB h 3 rfl jc rfl rfl) (aa (aX bN rfl (h.lF 2 rfl)) (aa (jK rfl rfl) (nN (aK hs rfl (fun c3 hs => ?_) (fun c3 hs => ?_))))))))))
 refine nG (aa (ag (v := (.func (.func 60) #[] #[])) rfl) (iL (args := [(I6 2)]) Ms rfl rfl (aL (args := [(I6 2)]) Tryz.func60 rfl Tryz.ntmps60 (bH rfl) (nG (bu h 5 bM fun w b4 h => aa (ae (v := (I6 0)) rfl) (nJ (aa (fE (pv := []) (out := [(.slice none 0 0), (.slice none 0 0), (I6 0), (I6 0)]) qf rfl rfl) (aa (ag (v := (I6 2)) rfl) (dN (vs := [(.slice none 0 0), (.slice none 0 0), (I6 0), (I6 0)]) h 5 [(.slice none 0 0), (.slice none 0 0), (I6 0), (I6 0)] rfl bM rfl rfl rfl rfl rfl (ai rfl (ai rfl (ai rfl (ai rfl aS)))) fun w h => aa (ae (v := (I6 2)) rfl) (nR (tO (vs := [(.slice none 0 0), (.slice none 0 0), (I6 0), (I6 0)]) (v2 := (I6 2)) Tryz.results60 rfl rfl h 5 rfl bM rfl (⟨_, rfl, ?_⟩))))))))))))
 refine aa (bJ rfl rfl) (aa (bJ rfl rfl) (dN (vs := [(.slice none 0 0), (.slice none 0 0), (I6 0), (I6 0)]) h 4 [(.slice none 0 0), (.slice none 0 0), (I6 0), (I6 0)] rfl bM rfl rfl rfl rfl rfl (ai rfl (ai rfl (ai rfl (ai rfl aS)))) fun w h => aa (ae (v := (I6 2)) rfl) (nR (ax (tO (vs := [(.slice none 0 0), (.slice none 0 0), (I6 0), (I6 0)]) (v2 := (I6 2)) Tryz.results25 rfl rfl h 4 rfl bM rfl ?_)))))
 obtain rfl := gK hs
 exact ⟨h.grown, _, _, rfl, fK.nil, fK.nil⟩
 refine nS (lZ h 6 aP fun w b5 h => dS h 6 [(I6 0)] rfl aP rfl rfl rfl rfl rfl fun w h => nJ (lZ h 7 vE fun w b6 h => dS h 7 [(.bool (false))] rfl vE rfl rfl rfl rfl rfl fun w h => nJ (aa (ng (c1 := []) (c2 := [(.pointer (some ⟨b5, 0, none⟩)), (.pointer (some ⟨b1, 0, none⟩)), (.pointer (some ⟨b6, 0, none⟩))]) rfl rfl) (lZ h 8 BV fun w b7 h => dS h 8 [(.func (.func 61) #[] #[(.pointer (some ⟨b5, 0, none⟩)), (.pointer (some ⟨b1, 0, none⟩)), (.pointer (some ⟨b6, 0, none⟩))])] rfl BV rfl rfl rfl rfl rfl fun w h => nJ (aa (ng (c1 := []) (c2 := [(.pointer (some ⟨b7, 0, none⟩)), (.pointer (some ⟨b6, 0, none⟩))]) rfl rfl) ?_)))))
 refine aa (ae (v := (.func (.func 62) #[] #[(.pointer (some ⟨b7, 0, none⟩)), (.pointer (some ⟨b6, 0, none⟩))])) rfl) (nJ (aa (aB h 8 rfl BV rfl rfl) ?_))
 replace h := h.pair 6 7 (by decide)
 obtain ⟨l8a, l8b, l8c⟩ := h.j5 6 (C := (.two (.blk b5 [(I6 0)]) (.blk b6 [(.bool (false))]) : Chunk)) rfl ⟨trivial, trivial⟩
 obtain ⟨y9, e10, hs⟩ := aM hs
 refine aO zU rfl rfl (uo _ _ l8c b5 b6 b1 (⟨0, false⟩ : dL) l8a l8b vb b (h.Cr 6 2 rfl rfl) (h.lH 3 rfl) (fun hb => h.apart 6 3 (by decide) _ hb rfl) (-1) _ e10) ?_
 rintro _ w ⟨k11, rfl, h12, h13⟩
 refine ⟨_, rfl, ?_⟩
 replace h := h.back 6 (C := (.two (.blk b5 [(I6 0)]) (.blk b6 [(.bool (false))]) : Chunk)) (C' := (.two (.blk b5 [(I6 y9.2.at_)]) (.blk b6 [(.bool (y9.2.ok))]) : Chunk)) rfl ⟨trivial, trivial⟩ h12 k11 h13
 replace h := h.gJ 6 7 (by decide) rfl rfl
 refine aa (fE (pv := [(2, (I6 y9.1))]) (out := [(.slice none 0 0), (.slice none 0 0), (I6 y9.1), (I6 0)]) qf rfl ⟨2, 1, [(I6 y9.1)], rfl, rfl, rfl, bH rfl, rfl⟩) (bu h 9 bM fun w b14 h => dN (vs := [(.slice none 0 0), (.slice none 0 0), (I6 y9.1), (I6 0)]) h 9 [(.slice none 0 0), (.slice none 0 0), (I6 y9.1), (I6 0)] rfl bM rfl rfl rfl rfl rfl (ai rfl (ai rfl (ai rfl (ai rfl aS)))) fun w h => nJ (aa (aB h 8 rfl BV rfl rfl) ?_))
 replace h := h.pair 6 7 (by decide)
 obtain ⟨l15a, l15b, l15c⟩ := h.j5 6 (C := (.two (.blk b5 [(I6 y9.2.at_)]) (.blk b6 [(.bool (y9.2.ok))]) : Chunk)) rfl ⟨trivial, trivial⟩
 obtain ⟨rT, e17, hs⟩ := aM hs
 refine aO zU rfl rfl (uo _ _ l15c b5 b6 b1 y9.2 l15a l15b vb b (h.Cr 6 2 rfl rfl) (h.lH 3 rfl) (fun hb => h.apart 6 3 (by decide) _ hb rfl) (-1) _ e17) ?_
 rintro _ w ⟨k18, rfl, h19, h20⟩
 refine ⟨_, rfl, ?_⟩
 replace h := h.back 6 (C := (.two (.blk b5 [(I6 y9.2.at_)]) (.blk b6 [(.bool (y9.2.ok))]) : Chunk)) (C' := (.two (.blk b5 [(I6 rT.2.at_)]) (.blk b6 [(.bool (rT.2.ok))]) : Chunk)) rfl ⟨trivial, trivial⟩ h19 k18 h20
 replace h := h.gJ 6 7 (by decide) rfl rfl
 refine aa (ah sZ rfl) (dS h 9 [(.slice none 0 0), (.slice none 0 0), (I6 y9.1), (I6 rT.1)] rfl aP rfl rfl rfl rfl rfl fun w h => nK (aa (aB h 8 rfl BV rfl rfl) ?_))
 replace h := h.pair 6 7 (by decide)
 obtain ⟨l21a, l21b, l21c⟩ := h.j5 6 (C := (.two (.blk b5 [(I6 rT.2.at_)]) (.blk b6 [(.bool (rT.2.ok))]) : Chunk)) rfl ⟨trivial, trivial⟩
 obtain ⟨y22, e23, hs⟩ := aM hs
 refine aO zU rfl rfl (uo _ _ l21c b5 b6 b1 rT.2 l21a l21b vb b (h.Cr 6 2 rfl rfl) (h.lH 3 rfl) (fun hb => h.apart 6 3 (by decide) _ hb rfl) 10 _ e23) ?_
 rintro _ w ⟨k24, rfl, h25, h26⟩
 refine ⟨_, rfl, ?_⟩
 replace h := h.back 6 (C := (.two (.blk b5 [(I6 rT.2.at_)]) (.blk b6 [(.bool (rT.2.ok))]) : Chunk)) (C' := (.two (.blk b5 [(I6 y22.2.at_)]) (.blk b6 [(.bool (y22.2.ok))]) : Chunk)) rfl ⟨trivial, trivial⟩ h25 k24 h26
 replace h := h.gJ 6 7 (by decide) rfl rfl
 refine aa (ae (v := (I6 y22.1)) rfl) (nN (aH ?_))
 replace h := h.uZ (R := dM) (E := 49) 13
 refine eF (σ := Nat × Int × Int × Bool × Value × List LX.Frame) (inl ([12, 13] ++ rg 33 26)) (fun ⟨m50, QV, sS, wE, v45, BP⟩ => [(12, (I6 QV))]) (fun ⟨m50, QV, sS, wE, v45, BP⟩ w => SH w0 M BE w (hset [(1, .sr jE va a), (2, .rd dw vb b), (3, .blk b1 [vb]), (4, .blk b2 [(.slice none 0 0), (.slice none 0 0), (I6 0), (I6 0)]), (6, .blk b5 [(I6 sS)]), (7, .blk b6 [(.bool (wE))]), (8, .blk b7 [(.func (.func 61) #[] #[(.pointer (some ⟨b5, 0, none⟩)), (.pointer (some ⟨b1, 0, none⟩)), (.pointer (some ⟨b6, 0, none⟩))])]), (9, .blk b14 [v45, (.slice none 0 0), (I6 y9.1), (I6 rT.1)]), (13, .own dM 49 v45 BP)]) ∧ again (fP N b a y9 rT) m50 (QV, sS, wE, BP) = some r) (fun ⟨m50, QV, sS, wE, v45, BP⟩ => m50) ⟨N, y22.1, y22.2.at_, y22.2.ok, (.slice none 0 0), []⟩ ⟨rfl, trivial⟩ ?_ ?_
 exact ⟨h.cn _, hs⟩
 rintro ⟨m50, QV, sS, wE, v45, BP⟩ w dC ⟨h, hs⟩
 obtain ⟨m501, m50e, m50h⟩ := lQ hs
 subst m50e
 replace hs := m50h
 generalize hnx51 : again (fP N b a y9 rT) m501 = nx51 at hs
 refine aJ (nG (aa (ag (v := (I6 QV)) rfl) (aa (jK rfl rfl) (aa (ag (v := (.bool (decide ((0 : Int) < QV)))) rfl) (az rfl rfl (fun q => aB h 7 rfl vE rfl rfl) (az rfl rfl (fun q => dU (dE q)) (aa (fB rfl rfl lW) (nN (aK hs rfl (fun c54 hs => ?_) (fun c54 hs => ?_))))))))))
 refine aG (aj (aJ (aH (nG (aa (aB h 8 rfl BV rfl rfl) ?_)))))
 replace h := h.pair 6 7 (by decide)
 obtain ⟨l55a, l55b, l55c⟩ := h.j5 6 (C := (.two (.blk b5 [(I6 sS)]) (.blk b6 [(.bool (wE))]) : Chunk)) rfl ⟨trivial, trivial⟩
 obtain ⟨Bb, e57, hs⟩ := aM hs
 refine aO zU rfl rfl (uo _ _ l55c b5 b6 b1 (⟨sS, wE⟩ : dL) l55a l55b vb b (h.Cr 6 2 rfl rfl) (h.lH 3 rfl) (fun hb => h.apart 6 3 (by decide) _ hb rfl) (-1) _ e57) ?_
 rintro _ w ⟨k58, rfl, h59, h60⟩
 refine ⟨_, rfl, ?_⟩
 replace h := h.back 6 (C := (.two (.blk b5 [(I6 sS)]) (.blk b6 [(.bool (wE))]) : Chunk)) (C' := (.two (.blk b5 [(I6 Bb.2.at_)]) (.blk b6 [(.bool (Bb.2.ok))]) : Chunk)) rfl ⟨trivial, trivial⟩ h59 k58 h60
 replace h := h.gJ 6 7 (by decide) rfl rfl
 refine aa (fE (pv := [(0, (I6 Bb.1))]) (out := [(I6 Bb.1), (I6 0), (.slice none 0 0), (I6 0)]) Iu rfl ⟨0, 1, [(I6 Bb.1)], rfl, rfl, rfl, bH rfl, rfl⟩) (bu h 14 fF fun w b61 h => dN (vs := [(I6 Bb.1), (I6 0), (.slice none 0 0), (I6 0)]) h 14 [(I6 Bb.1), (I6 0), (.slice none 0 0), (I6 0)] rfl fF rfl rfl rfl rfl rfl (ai rfl (ai rfl (ai rfl (ai rfl aS)))) fun w h => nJ (aa (aB h 8 rfl BV rfl rfl) ?_))
 replace h := h.pair 6 7 (by decide)
 obtain ⟨l62a, l62b, l62c⟩ := h.j5 6 (C := (.two (.blk b5 [(I6 Bb.2.at_)]) (.blk b6 [(.bool (Bb.2.ok))]) : Chunk)) rfl ⟨trivial, trivial⟩
 obtain ⟨Cf, e64, hs⟩ := aM hs
 refine aO zU rfl rfl (uo _ _ l62c b5 b6 b1 Bb.2 l62a l62b vb b (h.Cr 6 2 rfl rfl) (h.lH 3 rfl) (fun hb => h.apart 6 3 (by decide) _ hb rfl) (-1) _ e64) ?_
 rintro _ w ⟨k65, rfl, h66, h67⟩
 refine ⟨_, rfl, ?_⟩
 replace h := h.back 6 (C := (.two (.blk b5 [(I6 Bb.2.at_)]) (.blk b6 [(.bool (Bb.2.ok))]) : Chunk)) (C' := (.two (.blk b5 [(I6 Cf.2.at_)]) (.blk b6 [(.bool (Cf.2.ok))]) : Chunk)) rfl ⟨trivial, trivial⟩ h66 k65 h67
 replace h := h.gJ 6 7 (by decide) rfl rfl
 refine aa (ah vD rfl) (dS h 14 [(I6 Bb.1), (I6 Cf.1), (.slice none 0 0), (I6 0)] rfl aP rfl rfl rfl rfl rfl fun w h => nJ (aa (aB h 8 rfl BV rfl rfl) ?_))
 replace h := h.pair 6 7 (by decide)
 obtain ⟨l68a, l68b, l68c⟩ := h.j5 6 (C := (.two (.blk b5 [(I6 Cf.2.at_)]) (.blk b6 [(.bool (Cf.2.ok))]) : Chunk)) rfl ⟨trivial, trivial⟩
 obtain ⟨xx, e70, hs⟩ := aM hs
 refine aO zU rfl rfl (uo _ _ l68c b5 b6 b1 Cf.2 l68a l68b vb b (h.Cr 6 2 rfl rfl) (h.lH 3 rfl) (fun hb => h.apart 6 3 (by decide) _ hb rfl) (-1) _ e70) ?_
 rintro _ w ⟨k71, rfl, h72, h73⟩
 refine ⟨_, rfl, ?_⟩
 replace h := h.back 6 (C := (.two (.blk b5 [(I6 Cf.2.at_)]) (.blk b6 [(.bool (Cf.2.ok))]) : Chunk)) (C' := (.two (.blk b5 [(I6 xx.2.at_)]) (.blk b6 [(.bool (xx.2.ok))]) : Chunk)) rfl ⟨trivial, trivial⟩ h72 k71 h73
 replace h := h.gJ 6 7 (by decide) rfl rfl
 refine aa (ah uw rfl) (dS h 14 [(I6 Bb.1), (I6 Cf.1), (.slice none 0 0), (I6 xx.1)] rfl aP rfl rfl rfl rfl rfl fun w h => nJ (aa (ag (v := (.func (.func 62) #[] #[(.pointer (some ⟨b7, 0, none⟩)), (.pointer (some ⟨b6, 0, none⟩))])) rfl) ?_))
 replace h := h.pair 6 7 (by decide)
 obtain ⟨l74a, l74b, l74c⟩ := h.j5 6 (C := (.two (.blk b5 [(I6 xx.2.at_)]) (.blk b6 [(.bool (xx.2.ok))]) : Chunk)) rfl ⟨trivial, trivial⟩
 obtain ⟨SK, Yc, hs⟩ := aM hs
 refine aO PQ rfl rfl (Jw N _ _ l74c b5 b6 b1 b7 xx.2 l74a l74b vb b (h.Cr 6 2 rfl rfl) (h.lH 3 rfl) (fun hb => h.apart 6 3 (by decide) _ hb rfl) (h.lH 8 rfl) (fun hb => h.apart 6 8 (by decide) _ hb rfl) 40 _ Yc) ?_
 rintro _ w ⟨k79, u77, rfl, h80, h81, g78⟩
 refine ⟨_, rfl, ?_⟩
 replace h := h.back 6 (C := (.two (.blk b5 [(I6 xx.2.at_)]) (.blk b6 [(.bool (xx.2.ok))]) : Chunk)) (C' := (.two (.blk b5 [(I6 SK.2.at_)]) (.blk b6 [(.bool (SK.2.ok))]) : Chunk)) rfl ⟨trivial, trivial⟩ h80 k79 h81
 replace h := h.bK 15 (j6 g78)
 replace h := h.gJ 6 7 (by decide) rfl rfl
 refine aa (ah ko rfl) (dS h 14 [(I6 Bb.1), (I6 Cf.1), u77, (I6 xx.1)] rfl kr rfl rfl rfl rfl (h.gy 15 rfl).one fun w h => nN (ay (aa (ah gQ rfl) (aa (aB h 9 rfl lJ rfl rfl) (aa (eB (vs := [(I6 Bb.1), (I6 Cf.1), u77, (I6 xx.1)]) h 14 rfl fF rfl rfl rfl) (mX (R := dM) (vs := [(.agg #[(I6 Bb.1), (I6 Cf.1), u77, (I6 xx.1)])]) (xs := [(⟨Bb.1, Cf.1, SK.1, xx.1⟩ : LX.Frame)]) h 16 vC rfl rfl rfl ⟨⟨_, rfl, (h.gy 15 rfl)⟩, trivial⟩ rfl fun w u82 h => ?_))))))
 obtain ⟨a83, hs⟩ := bE hs
 refine jb (R := dM) (m := [(⟨Bb.1, Cf.1, SK.1, xx.1⟩ : LX.Frame)]) h 13 rfl (h.dJ 16 rfl) vC rfl rfl rfl a83.1 a83.2 fun w Yt h => aa (ah gQ rfl) (dS h 9 [Yt, (.slice none 0 0), (I6 y9.1), (I6 rT.1)] rfl lJ rfl rfl rfl rfl (h.eD 13 rfl).one fun w h => aC (au (aj (ay (aa (ag (v := (I6 QV)) rfl) ?_)))))
 obtain ⟨a85, hs⟩ := bE hs
 refine aa (tY rfl rfl a85) (aa (ae (v := (I6 ((QV - 1)))) rfl) (aC (ak ?_)))
 subst hnx51
 exact iw ⟨m501, (QV - 1), SK.2.at_, SK.2.ok, Yt, (BP ++ [(⟨Bb.1, Cf.1, SK.1, xx.1⟩ : LX.Frame)])⟩ ⟨h.cn _, hs⟩
 refine iI (bC (bC (dV (aj (aJ (nG (aa (aB h 8 rfl BV rfl rfl) ?_)))))))
 replace h := h.pair 6 7 (by decide)
 obtain ⟨l86a, l86b, l86c⟩ := h.j5 6 (C := (.two (.blk b5 [(I6 sS)]) (.blk b6 [(.bool (wE))]) : Chunk)) rfl ⟨trivial, trivial⟩
 obtain ⟨Mt, SG, hs⟩ := aM hs
 refine aO zU rfl rfl (uo _ _ l86c b5 b6 b1 (⟨sS, wE⟩ : dL) l86a l86b vb b (h.Cr 6 2 rfl rfl) (h.lH 3 rfl) (fun hb => h.apart 6 3 (by decide) _ hb rfl) 24 _ SG) ?_
 rintro _ w ⟨k89, rfl, h90, h91⟩
 refine ⟨_, rfl, ?_⟩
 replace h := h.back 6 (C := (.two (.blk b5 [(I6 sS)]) (.blk b6 [(.bool (wE))]) : Chunk)) (C' := (.two (.blk b5 [(I6 Mt.2.at_)]) (.blk b6 [(.bool (Mt.2.ok))]) : Chunk)) rfl ⟨trivial, trivial⟩ h90 k89 h91
 replace h := h.gJ 6 7 (by decide) rfl rfl
 refine aa (ae (v := (I6 Mt.1)) rfl) (nN (aH ?_))
 replace h := h.uZ (R := (kW aY)) (E := 47) 20
 refine eF (σ := Nat × Int × Int × Bool × Value × List (List Val)) (inl ([14] ++ rg 61 15)) (fun ⟨V7, x107, yl, kZ, zW, uF⟩ => [(14, (I6 x107))]) (fun ⟨V7, x107, yl, kZ, zW, uF⟩ w => SH w0 M BE w (hset [(1, .sr jE va a), (2, .rd dw vb b), (3, .blk b1 [vb]), (4, .blk b2 [(.slice none 0 0), (.slice none 0 0), (I6 0), (I6 0)]), (6, .blk b5 [(I6 yl)]), (7, .blk b6 [(.bool (kZ))]), (8, .blk b7 [(.func (.func 61) #[] #[(.pointer (some ⟨b5, 0, none⟩)), (.pointer (some ⟨b1, 0, none⟩)), (.pointer (some ⟨b6, 0, none⟩))])]), (9, .blk b14 [v45, zW, (I6 y9.1), (I6 rT.1)]), (13, .own dM 49 v45 BP), (20, .own (kW aY) 47 zW uF)]) ∧ again (gq N b a BP y9 rT) V7 (x107, yl, kZ, uF) = some r) (fun ⟨V7, x107, yl, kZ, zW, uF⟩ => V7) ⟨N, Mt.1, Mt.2.at_, Mt.2.ok, (.slice none 0 0), []⟩ ⟨rfl, trivial⟩ ?_ ?_
 exact ⟨h.cn _, hs⟩
 rintro ⟨V7, x107, yl, kZ, zW, uF⟩ w dC ⟨h, hs⟩
 obtain ⟨YH, m115e, m115h⟩ := lQ hs
 subst m115e
 replace hs := m115h
 generalize hnx116 : again (gq N b a BP y9 rT) YH = Ot at hs
 refine aJ (nG (aa (ag (v := (I6 x107)) rfl) (aa (jK rfl rfl) (aa (ag (v := (.bool (decide ((0 : Int) < x107)))) rfl) (az rfl rfl (fun q => aB h 7 rfl vE rfl rfl) (az rfl rfl (fun q => dU (dE q)) (aa (fB rfl rfl lW) (nN (aK hs rfl (fun c119 hs => ?_) (fun c119 hs => ?_))))))))))
 refine aG (aj (dm (σ := Int × Bool × Value × List (List Val)) (inl (rg 69 7)) (fun ⟨P7, P8, V8, P9⟩ => []) (fun ⟨P7, P8, V8, P9⟩ w => SH w0 M BE w (hset [(1, .sr jE va a), (2, .rd dw vb b), (3, .blk b1 [vb]), (4, .blk b2 [(.slice none 0 0), (.slice none 0 0), (I6 0), (I6 0)]), (6, .blk b5 [(I6 P7)]), (7, .blk b6 [(.bool (P8))]), (8, .blk b7 [(.func (.func 61) #[] #[(.pointer (some ⟨b5, 0, none⟩)), (.pointer (some ⟨b1, 0, none⟩)), (.pointer (some ⟨b6, 0, none⟩))])]), (9, .blk b14 [v45, V8, (I6 y9.1), (I6 rT.1)]), (13, .own dM 49 v45 BP), (20, .own (kW aY) 47 V8 P9)]) ∧ qA x107 Ot P7 P8 P9 = some r) ?_ ?_))
 rintro ⟨P7, P8, V8, P9⟩ w dC ⟨h, hs⟩
 refine ay (aa (ag (v := (I6 x107)) rfl) ?_)
 obtain ⟨a124, hs⟩ := bE hs
 refine aa (tY rfl rfl a124) (aa (ae (v := (I6 ((x107 - 1)))) rfl) (aC (ak ?_)))
 subst hnx116
 exact iw ⟨YH, (x107 - 1), P7, P8, V8, P9⟩ ⟨h.cn _, hs⟩
 refine aH (uf (L := (fun b => b = b5 ∨ b = b6 ∨ ob zW b ∨ b = b14)) mixed h fun w h => dW 0 (aQ.refl _ _) rfl aA (by kernel_rfl) (by kernel_rfl) (by kernel_rfl) (fun w hk => ah gL rfl) (dW 2 (aQ.refl _ _) rfl aA (by kernel_rfl) (by kernel_rfl) (by kernel_rfl) (fun w hk => ag (v := (.func (.func 62) #[] #[(.pointer (some ⟨b7, 0, none⟩)), (.pointer (some ⟨b6, 0, none⟩))])) rfl) ?_))
 obtain ⟨gU, K3, hs⟩ := aM hs
 obtain ⟨yI, hs⟩ := bE hs
 obtain ⟨Jy, V9⟩ : ∃ x, x = w := ⟨_, rfl⟩
 have iY : aQ (fun b => b = b5 ∨ b = b6 ∨ ob zW b ∨ b = b14) Jy w := V9 ▸ aQ.refl (fun b => b = b5 ∨ b = b6 ∨ ob zW b ∨ b = b14) w
 refine zG V9.symm (vz 1 3 (by kernel_rfl) rfl aA rfl aA ?_ ?_)
 refine aa (aB h 9 rfl jL rfl rfl) (aC (aV iY (dB 3 (by kernel_rfl) rfl aA ?_)))
 replace h := h.pair 6 7 (by decide)
 obtain ⟨Ez, EA, EB⟩ := h.j5 6 (C := (.two (.blk b5 [(I6 yl)]) (.blk b6 [(.bool (kZ))]) : Chunk)) rfl ⟨trivial, trivial⟩
 refine aO PQ rfl rfl (Jw N _ _ EB b5 b6 b1 b7 (⟨yl, kZ⟩ : dL) Ez EA vb b (h.Cr 6 2 rfl rfl) (h.lH 3 rfl) (fun hb => h.apart 6 3 (by decide) _ hb rfl) (h.lH 8 rfl) (fun hb => h.apart 6 8 (by decide) _ hb rfl) 4 _ K3) ?_
 rintro _ w ⟨AZ, Dy, rfl, Gp, Gq, Gr⟩
 refine ⟨_, rfl, ?_⟩
 replace h := h.back 6 (C := (.two (.blk b5 [(I6 yl)]) (.blk b6 [(.bool (kZ))]) : Chunk)) (C' := (.two (.blk b5 [(I6 gU.2.at_)]) (.blk b6 [(.bool (gU.2.ok))]) : Chunk)) rfl ⟨trivial, trivial⟩ Gp AZ Gq
 replace h := h.bK 57 (j6 Gr)
 replace h := h.gJ 6 7 (by decide) rfl rfl
 replace iY := aQ.step iY AZ (fun _ hx _ => hx.elim (fun hx => .inl (hx)) (fun hx => .inr (.inl (hx))))
 refine aC (aV iY (dB 4 (by kernel_rfl) rfl aA (zZ (R := (kW aY)) (vs := [Dy]) (xs := [gU.1]) h 69 jB rfl rfl rfl ⟨(h.gy 57 rfl).Ww, trivial⟩ rfl fun w A7 h yX yY => ?_)))
 have Jz : ∀ b, ob A7 b → Jy.heap.size ≤ b := fun b hb => Nat.le_trans iY.size (yY b hb)
 replace iY := iY.grow yX
 refine aC (aV iY (dB 5 (by kernel_rfl) rfl aA ?_))
 have JA := iY.size
 refine qH (R := (kW aY)) (m := [gU.1]) h 20 rfl (h.dJ 69 rfl) jB rfl rfl rfl yI.1 yI.2 fun w qB h yZ ze => ?_
 have JB : ∀ b, ob qB b → b < Jy.heap.size → ob zW b := fun b hb hl => ze b hb (Nat.lt_of_lt_of_le hl (iY).size)
 replace iY := aQ.step iY yZ (fun _ hx _ => .inr (.inr (.inl (hx))))
 refine aC (aV iY (iQ 6 iY rfl (by kernel_rfl) (fun w hk => ah gL rfl) (dB 7 (by kernel_rfl) rfl aA (uB h 9 [v45, qB, (I6 y9.1), (I6 rT.1)] rfl jL rfl rfl rfl rfl (h.eD 20 rfl).one fun w h A8 => ?_))))
 replace iY := aQ.step iY A8 (fun _ hx _ => .inr (.inr (.inr (hx))))
 refine aC (aV iY (j3 (by kernel_rfl) (au (ak ?_))))
 exact cO (gU.2.at_, gU.2.ok, qB, (uF ++ [gU.1])) ⟨h.cn _, hs⟩
 replace h := h.pair 6 7 (by decide)
 obtain ⟨Ez, EA, EB⟩ := h.j5 6 (C := (.two (.blk b5 [(I6 yl)]) (.blk b6 [(.bool (kZ))]) : Chunk)) rfl ⟨trivial, trivial⟩
 refine aO PQ rfl rfl (Jw N _ _ EB b5 b6 b1 b7 (⟨yl, kZ⟩ : dL) Ez EA vb b (h.Cr 6 2 rfl rfl) (h.lH 3 rfl) (fun hb => h.apart 6 3 (by decide) _ hb rfl) (h.lH 8 rfl) (fun hb => h.apart 6 8 (by decide) _ hb rfl) 4 _ K3) ?_
 rintro _ w ⟨AZ, Dy, rfl, Gp, Gq, Gr⟩
 refine ⟨_, rfl, ?_⟩
 replace h := h.back 6 (C := (.two (.blk b5 [(I6 yl)]) (.blk b6 [(.bool (kZ))]) : Chunk)) (C' := (.two (.blk b5 [(I6 gU.2.at_)]) (.blk b6 [(.bool (gU.2.ok))]) : Chunk)) rfl ⟨trivial, trivial⟩ Gp AZ Gq
 replace h := h.bK 57 (j6 Gr)
 replace h := h.gJ 6 7 (by decide) rfl rfl
 replace iY := aQ.step iY AZ (fun _ hx _ => hx.elim (fun hx => .inl (hx)) (fun hx => .inr (.inl (hx))))
 refine aC (aV iY (vz 1 4 (by kernel_rfl) rfl aA rfl aA ?_ ?_))
 refine aa (aB h 9 rfl jL rfl rfl) (aC (aV iY (dB 4 (by kernel_rfl) rfl aA (zZ (R := (kW aY)) (vs := [Dy]) (xs := [gU.1]) h 69 jB rfl rfl rfl ⟨(h.gy 57 rfl).Ww, trivial⟩ rfl fun w A7 h yX yY => ?_))))
 have Jz : ∀ b, ob A7 b → Jy.heap.size ≤ b := fun b hb => Nat.le_trans iY.size (yY b hb)
 replace iY := iY.grow yX
 refine aC (aV iY (dB 5 (by kernel_rfl) rfl aA ?_))
 have JA := iY.size
 refine qH (R := (kW aY)) (m := [gU.1]) h 20 rfl (h.dJ 69 rfl) jB rfl rfl rfl yI.1 yI.2 fun w qB h yZ ze => ?_
 have JB : ∀ b, ob qB b → b < Jy.heap.size → ob zW b := fun b hb hl => ze b hb (Nat.lt_of_lt_of_le hl (iY).size)
 replace iY := aQ.step iY yZ (fun _ hx _ => .inr (.inr (.inl (hx))))
 refine aC (aV iY (iQ 6 iY rfl (by kernel_rfl) (fun w hk => ah gL rfl) (dB 7 (by kernel_rfl) rfl aA (uB h 9 [v45, qB, (I6 y9.1), (I6 rT.1)] rfl jL rfl rfl rfl rfl (h.eD 20 rfl).one fun w h A8 => ?_))))
 replace iY := aQ.step iY A8 (fun _ hx _ => .inr (.inr (.inr (hx))))
 refine aC (aV iY (j3 (by kernel_rfl) (au (ak ?_))))
 exact cO (gU.2.at_, gU.2.ok, qB, (uF ++ [gU.1])) ⟨h.cn _, hs⟩
 refine zZ (R := (kW aY)) (vs := [Dy]) (xs := [gU.1]) h 69 jB rfl rfl rfl ⟨(h.gy 57 rfl).Ww, trivial⟩ rfl fun w A7 h yX yY => ?_
 have Jz : ∀ b, ob A7 b → Jy.heap.size ≤ b := fun b hb => Nat.le_trans iY.size (yY b hb)
 replace iY := iY.grow yX
 refine aC (aV iY (dB 1 (by kernel_rfl) rfl aA (aa (aB h 9 rfl jL rfl rfl) (aC (aV iY (dB 5 (by kernel_rfl) rfl aA ?_))))))
 have JA := iY.size
 refine qH (R := (kW aY)) (m := [gU.1]) h 20 rfl (h.dJ 69 rfl) jB rfl rfl rfl yI.1 yI.2 fun w qB h yZ ze => ?_
 have JB : ∀ b, ob qB b → b < Jy.heap.size → ob zW b := fun b hb hl => ze b hb (Nat.lt_of_lt_of_le hl (iY).size)
 replace iY := aQ.step iY yZ (fun _ hx _ => .inr (.inr (.inl (hx))))
 refine aC (aV iY (iQ 6 iY rfl (by kernel_rfl) (fun w hk => ah gL rfl) (dB 7 (by kernel_rfl) rfl aA (uB h 9 [v45, qB, (I6 y9.1), (I6 rT.1)] rfl jL rfl rfl rfl rfl (h.eD 20 rfl).one fun w h A8 => ?_))))
 replace iY := aQ.step iY A8 (fun _ hx _ => .inr (.inr (.inr (hx))))
 refine aC (aV iY (j3 (by kernel_rfl) (au (ak ?_))))
 exact cO (gU.2.at_, gU.2.ok, qB, (uF ++ [gU.1])) ⟨h.cn _, hs⟩
 refine iI (bC (bC (dV (aj (aJ (nG (aa (aB h 7 rfl vE rfl rfl) (aa (ag (v := (.bool (kZ))) rfl) (az rfl rfl (fun q => aB h 6 rfl aP rfl rfl) (az rfl rfl (fun q => aB h 3 rfl jc rfl rfl) (az rfl rfl (fun q => aX bN (dE q) (h.lF 2 rfl)) (az rfl rfl (fun q => dK (dE q) (dE q)) (aa (iO rfl rfl lW) (nN (aK hs rfl (fun c141 hs => ?_) (fun c141 hs => ?_))))))))))))))))
 refine nG (aa (ag (v := (.func (.func 60) #[] #[])) rfl) (iL (args := [(I6 8)]) Ms rfl rfl (aL (args := [(I6 8)]) Tryz.func60 rfl Tryz.ntmps60 (bH rfl) (nG (bu h 129 bM fun w b142 h => aa (ae (v := (I6 0)) rfl) (nJ (aa (fE (pv := []) (out := [(.slice none 0 0), (.slice none 0 0), (I6 0), (I6 0)]) qf rfl rfl) (aa (ag (v := (I6 8)) rfl) (dN (vs := [(.slice none 0 0), (.slice none 0 0), (I6 0), (I6 0)]) h 129 [(.slice none 0 0), (.slice none 0 0), (I6 0), (I6 0)] rfl bM rfl rfl rfl rfl rfl (ai rfl (ai rfl (ai rfl (ai rfl aS)))) fun w h => aa (ae (v := (I6 8)) rfl) (nR (tO (vs := [(.slice none 0 0), (.slice none 0 0), (I6 0), (I6 0)]) (v2 := (I6 8)) Tryz.results60 rfl rfl h 129 rfl bM rfl (⟨_, rfl, ?_⟩))))))))))))
 refine aa (bJ rfl rfl) (aa (bJ rfl rfl) (dN (vs := [(.slice none 0 0), (.slice none 0 0), (I6 0), (I6 0)]) h 4 [(.slice none 0 0), (.slice none 0 0), (I6 0), (I6 0)] rfl bM rfl rfl rfl rfl rfl (ai rfl (ai rfl (ai rfl (ai rfl aS)))) fun w h => aa (ae (v := (I6 8)) rfl) (nR (ax (tO (vs := [(.slice none 0 0), (.slice none 0 0), (I6 0), (I6 0)]) (v2 := (I6 8)) Tryz.results25 rfl rfl h 4 rfl bM rfl ?_)))))
 obtain rfl := gK hs
 exact ⟨h.grown, _, _, rfl, fK.nil, fK.nil⟩
 refine aG (aj (aJ (nG (aa (ag (v := va) rfl) (aa (eB (vs := [v45, zW, (I6 y9.1), (I6 rT.1)]) h 9 rfl bM rfl rfl rfl) ?_)))))
 obtain ⟨DF, e144, hs⟩ := aM hs
 refine aO TQ rfl rfl (uk _ _ h.lt va a (h.fQ 1 rfl) (⟨BP, uF, y9.1, rT.1⟩ : LX.State) v45 zW (h.dJ 13 rfl) (h.dJ 20 rfl) _ e144) ?_
 rintro _ w ⟨k145, rfl⟩
 refine ⟨_, rfl, ?_⟩
 replace h := h.grow k145
 refine aa (ae (v := (I6 DF)) rfl) (nJ (aa (ag (v := (I6 DF)) rfl) (aa (gV rfl rfl) (nN (aK hs rfl (fun c146 hs => ?_) (fun c146 hs => ?_))))))
 refine nG (aa (ag (v := (.func (.func 60) #[] #[])) rfl) (aa (ag (v := (I6 DF)) rfl) (iL (args := [(I6 DF)]) Ms rfl rfl (aL (args := [(I6 DF)]) Tryz.func60 rfl Tryz.ntmps60 (bH rfl) (nG (bu h 130 bM fun w b147 h => aa (ae (v := (I6 0)) rfl) (nJ (aa (fE (pv := []) (out := [(.slice none 0 0), (.slice none 0 0), (I6 0), (I6 0)]) qf rfl rfl) (aa (ag (v := (I6 DF)) rfl) (dN (vs := [(.slice none 0 0), (.slice none 0 0), (I6 0), (I6 0)]) h 130 [(.slice none 0 0), (.slice none 0 0), (I6 0), (I6 0)] rfl bM rfl rfl rfl rfl rfl (ai rfl (ai rfl (ai rfl (ai rfl aS)))) fun w h => aa (ae (v := (I6 DF)) rfl) (nR (tO (vs := [(.slice none 0 0), (.slice none 0 0), (I6 0), (I6 0)]) (v2 := (I6 DF)) Tryz.results60 rfl rfl h 130 rfl bM rfl (⟨_, rfl, ?_⟩)))))))))))))
 refine aa (bJ rfl rfl) (aa (bJ rfl rfl) (dN (vs := [(.slice none 0 0), (.slice none 0 0), (I6 0), (I6 0)]) h 4 [(.slice none 0 0), (.slice none 0 0), (I6 0), (I6 0)] rfl bM rfl rfl rfl rfl rfl (ai rfl (ai rfl (ai rfl (ai rfl aS)))) fun w h => aa (ae (v := (I6 DF)) rfl) (nR (ax (tO (vs := [(.slice none 0 0), (.slice none 0 0), (I6 0), (I6 0)]) (v2 := (I6 DF)) Tryz.results25 rfl rfl h 4 rfl bM rfl ?_)))))
 obtain rfl := gK hs
 exact ⟨h.grown, _, _, rfl, fK.nil, fK.nil⟩
 refine aG (aj (aJ (aJ (EK mixed h fun w h => ni 0 (aQ.refl BE _) rfl aA (by kernel_rfl) (by kernel_rfl) (by kernel_rfl) (fun w hk => have h := h.grow hk; eB (vs := [v45, zW, (I6 y9.1), (I6 rT.1)]) h 9 rfl bM rfl rfl rfl) (ni 2 (aQ.refl BE _) rfl aA (by kernel_rfl) (by kernel_rfl) (by kernel_rfl) (fun w hk => have h := h.grow hk; eB (vs := [v45, zW, (I6 y9.1), (I6 rT.1)]) h 9 rfl bM rfl rfl rfl) ?_)))))
 obtain ⟨ws149, Wd⟩ : ∃ x, x = w := ⟨_, rfl⟩
 have JC : Grow ws149 w := Wd ▸ aQ.refl BE w
 refine Kb Wd.symm (Bi 1 (by kernel_rfl) rfl aA ?_)
 obtain ⟨AY, Sm, hs⟩ := aM hs
 refine aO TS rfl rfl (yc N _ _ h.lt (⟨BP, uF, y9.1, rT.1⟩ : LX.State) v45 zW (h.dJ 13 rfl) (h.dJ 20 rfl) _ Sm) ?_
 rintro _ w ⟨K4, K5, K6, Qa, Qb, rfl, Sn, Sq⟩
 refine ⟨_, rfl, ?_⟩
 replace h := h.Lu 143 (C := (cU K5 K6 AY.frames Qa AY.cells Qb)) K4 ⟨⟨⟨trivial, trivial⟩, trivial⟩, trivial⟩ Sn Sq
 replace h := h.gJ 143 146 (by decide) rfl rfl
 replace h := h.gJ 143 145 (by decide) rfl rfl
 replace h := h.gJ 143 144 (by decide) rfl rfl
 replace JC := JC.trans K4
 refine aC (yf JC (Bi 3 (by kernel_rfl) rfl aA ?_))
 obtain ⟨KZ, Sr, hs⟩ := aM hs
 refine aO OU rfl rfl (qw _ BE (fun _ h => h.elim) AY K5 K6 (h.Lv (N := fo) (R' := dM) 143 144 rfl rfl (by decide) rfl Kh) (h.Lv (N := (gW Val)) (R' := (kW aY)) 145 146 rfl rfl (by decide) rfl Qv) (⟨BP, uF, y9.1, rT.1⟩ : LX.State) v45 zW (fK.TK (h.dJ 13 rfl)) (fK.TK (h.dJ 20 rfl)) _ Sr) ?_
 rintro _ w ⟨K7, rfl⟩
 refine ⟨_, rfl, ?_⟩
 replace h := h.grow K7
 replace JC := JC.trans K7
 refine aC (yf JC (zJ 4 JC rfl (by kernel_rfl) (fun w hk => dU rfl) (Da (by kernel_rfl) (aj (aK hs rfl (fun c151 hs => ?_) (fun c151 hs => ?_))))))
 refine nG (aa (ag (v := (.func (.func 60) #[] #[])) rfl) (iL (args := [(I6 4)]) Ms rfl rfl (aL (args := [(I6 4)]) Tryz.func60 rfl Tryz.ntmps60 (bH rfl) (nG (bu h 203 bM fun w b152 h => aa (ae (v := (I6 0)) rfl) (nJ (aa (fE (pv := []) (out := [(.slice none 0 0), (.slice none 0 0), (I6 0), (I6 0)]) qf rfl rfl) (aa (ag (v := (I6 4)) rfl) (dN (vs := [(.slice none 0 0), (.slice none 0 0), (I6 0), (I6 0)]) h 203 [(.slice none 0 0), (.slice none 0 0), (I6 0), (I6 0)] rfl bM rfl rfl rfl rfl rfl (ai rfl (ai rfl (ai rfl (ai rfl aS)))) fun w h => aa (ae (v := (I6 4)) rfl) (nR (tO (vs := [(.slice none 0 0), (.slice none 0 0), (I6 0), (I6 0)]) (v2 := (I6 4)) Tryz.results60 rfl rfl h 203 rfl bM rfl (⟨_, rfl, ?_⟩))))))))))))
 refine aa (bJ rfl rfl) (aa (bJ rfl rfl) (dN (vs := [(.slice none 0 0), (.slice none 0 0), (I6 0), (I6 0)]) h 4 [(.slice none 0 0), (.slice none 0 0), (I6 0), (I6 0)] rfl bM rfl rfl rfl rfl rfl (ai rfl (ai rfl (ai rfl (ai rfl aS)))) fun w h => aa (ae (v := (I6 4)) rfl) (nR (ax (tO (vs := [(.slice none 0 0), (.slice none 0 0), (I6 0), (I6 0)]) (v2 := (I6 4)) Tryz.results25 rfl rfl h 4 rfl bM rfl ?_)))))
 obtain rfl := gK hs
 exact ⟨h.grown, _, _, rfl, fK.nil, fK.nil⟩
 refine nS (aa (eB (vs := [v45, zW, (I6 y9.1), (I6 rT.1)]) h 9 rfl bM rfl rfl rfl) (dN (vs := [v45, zW, (I6 y9.1), (I6 rT.1)]) h 4 [v45, zW, (I6 y9.1), (I6 rT.1)] rfl bM rfl rfl rfl rfl rfl (ai (h.eD 13 rfl).one (ai (h.eD 20 rfl).one (ai rfl (ai rfl aS)))) fun w h => aa (ae (v := (I6 0)) rfl) (nR (tO (vs := [v45, zW, (I6 y9.1), (I6 rT.1)]) (v2 := (I6 0)) Tryz.results25 rfl rfl h 4 rfl bM rfl ?_))))
 replace h := h.freeze 13 rfl
 replace h := h.freeze 20 rfl
 obtain rfl := gK hs
 exact ⟨h.grown, _, _, rfl, h.MQ 13 rfl, h.MQ 20 rfl⟩
def iZ (N : Nat) (rT : Int) (y8 : LX.State × Int) (a : List cz) (c : List Int) (x24 : Bool) : Option Bool :=
  bif x24 then some false else bif decide ((rT : Int) ≠ 0) then bif decide ((y8.2 : Int) ≠ 0) then (gp y8.1 (⟨[], [], 0, 0⟩ : LX.State)).bind fun y28 => some y28 else some false else (pQ N a c).bind fun y31 => bif decide ((y8.2 : Int) = y31.2) then (gp y8.1 y31.1).bind fun QI => some QI else some false
def jS (N : Nat) (y2 : List Int × Int) (rT : Int) (y8 : LX.State × Int) (a : List cz) (c : List Int) (b : LX.State) (yn : Int) : Option Bool :=
  (ru N).bind fun y20 => bif ((!y20) || decide ((y2.2 : Int) ≠ yn)) then some false else bif (decide ((yn : Int) ≠ 0) && decide (((y2.1.length : Int) : Int) ≠ 0)) then iZ N rT y8 a c true else bif decide ((yn : Int) = 0) then (ry N b).bind fun LY => (slices_Equal_int y2.1 LY).bind fun y51 => iZ N rT y8 a c (!y51) else iZ N rT y8 a c false
def sQ (N : Nat) (a : List cz) (b : LX.State) (c : List Int) : Option Bool :=
  (AP N a b).bind fun y2 => (uV N a c).bind fun y8 => (kS a).bind fun rT => bif decide ((rT : Int) = 0) then (gN a b).bind fun y55 => jS N y2 rT y8 a c b y55 else jS N y2 rT y8 a c b rT
theorem BN (N : Nat) (w0 : World) (M : BS) (hM : ∀ b, M b → b < w0.heap.size) (hT : xg Tryz.prog 4 w0) (va : Value) (a : List cz) (ha : fK jE w0 BE M va a) (b : LX.State) (vb0 vb1 : Value) (hb0 : fK dM w0 BE M vb0 b.frames) (hb1 : fK (kW aY) w0 BE M vb1 b.cells) (vc : Value) (c : List Int) (hc : gF dw w0 M vc c) (r : Bool) (hs : sQ N a b c = some r) :
    Calls Tryz.prog 4 #[va, (.agg #[vb0, vb1, (I6 b.status), (I6 b.bB)]), vc] w0 (fun e w' => Grow w0 w' ∧ e = .returned (.bool r)) := by
 refine aL (args := [va, (.agg #[vb0, vb1, (I6 b.status), (I6 b.bB)]), vc]) Tryz.func4 rfl Tryz.ntmps4 (bH rfl) ?_
 have h := SH.init hM
 replace h := h.eu 1 ha aT
 replace h := h.eu 2 hb0 (aW aT)
 replace h := h.eu 3 hb1 (aW (aW aT))
 replace h := h.SV 4 hc (aW (aW (aW aT)))
 have tQ := ha.bD
 have hl_c := hc.bD
 refine nG (l7 (cs := [vb0, vb1, (I6 b.status), (I6 b.bB)]) h 5 rfl rfl fun w b1 h => aa (ae (v := (.bool (false))) rfl) (nJ (aa (ag (v := va) rfl) (aa (eB (vs := [vb0, vb1, (I6 b.status), (I6 b.bB)]) h 5 rfl bM rfl rfl rfl) ?_))))
 obtain ⟨y2, e3, hs⟩ := aM hs
 refine aO VS rfl rfl (GN N _ _ h.lt va a (h.fQ 1 rfl) b vb0 vb1 (h.fQ 2 rfl) (h.fQ 3 rfl) _ e3) ?_
 rintro _ w ⟨k7, u4, rfl, g5, g6⟩
 refine ⟨_, rfl, ?_⟩
 replace h := h.mg 6 k7 g5 g6
 refine aa (ag (v := (.tuple #[u4, (I6 y2.2)])) rfl) (aa (bJ rfl rfl) (aa (bJ rfl rfl) (aa (ae (v := u4) rfl) (aa (ae (v := (I6 y2.2)) rfl) (nJ (aa (ag (v := va) rfl) (aa (ag (v := vc) rfl) ?_)))))))
 obtain ⟨y8, e9, hs⟩ := aM hs
 refine aO PO rfl rfl (zV N _ _ h.lt va a (h.fQ 1 rfl) vc c (h.gy 4 rfl) _ e9) ?_
 rintro _ w ⟨k14, MI, SB, rfl, g11, g13⟩
 refine ⟨_, rfl, ?_⟩
 replace h := h.EG 7 k14 g11
 replace h := h.bK 8 g13.up
 refine aa (ag (v := (.tuple #[(.agg #[MI, SB, (I6 y8.1.status), (I6 y8.1.bB)]), (I6 y8.2)])) rfl) (aa (bJ rfl rfl) (aa (bJ rfl rfl) (bu h 9 bM fun w b15 h => dN (vs := [MI, SB, (I6 y8.1.status), (I6 y8.1.bB)]) h 9 [MI, SB, (I6 y8.1.status), (I6 y8.1.bB)] rfl bM rfl rfl rfl rfl rfl (ai (h.gy 7 rfl).one (ai (h.gy 8 rfl).one (ai rfl (ai rfl aS)))) fun w h => aa (ae (v := (I6 y8.2)) rfl) (nJ (aa (ag (v := va) rfl) ?_)))))
 obtain ⟨rT, e17, hs⟩ := aM hs
 refine aO Zc rfl rfl (Aw _ _ h.lt va a (h.fQ 1 rfl) _ e17) ?_
 rintro _ w ⟨k18, rfl⟩
 refine ⟨_, rfl, ?_⟩
 replace h := h.grow k18
 refine aa (ae (v := (I6 rT)) rfl) (nJ (aa (ag (v := (I6 rT)) rfl) (aa (ae (v := (I6 rT)) rfl) (nN (dm (σ := Int) (inl [11, 30, 31, 32, 33, 34]) (fun yn => [(11, (I6 yn))]) (fun yn w => SH w0 M BE w (hset [(1, .sr jE va a), (2, .sr dM vb0 b.frames), (3, .sr (kW aY) vb1 b.cells), (4, .rd dw vc c), (5, .blk b1 [vb0, vb1, (I6 b.status), (I6 b.bB)]), (6, .own dw 3 u4 y2.1), (7, .rd dM MI y8.1.frames), (8, .rd (kW aY) SB y8.1.cells), (9, .blk b15 [MI, SB, (I6 y8.1.status), (I6 y8.1.bB)])]) ∧ jS N y2 rT y8 a c b yn = some r) ?_ ?_)))))
 rintro yn w dC ⟨h, hs⟩
 refine aJ (nG ?_)
 obtain ⟨y20, e21, hs⟩ := aM hs
 refine aO fnOk14 rfl rfl (CZ N _ _ h.lt (hT.go h.keep)  _ e21) ?_
 rintro _ w ⟨k22, rfl⟩
 refine ⟨_, rfl, ?_⟩
 replace h := h.grow k22
 refine aa (dU rfl) (aa (ag (v := (.bool ((!y20)))) rfl) (az rfl rfl (fun q => ag (v := (I6 y2.2)) rfl) (az rfl rfl (fun q => ag (v := (I6 yn)) rfl) (az rfl rfl (fun q => gV (dE q) (dE q)) (aa (iO rfl rfl lW) (nN (aK hs rfl (fun c23 hs => ?_) (fun c23 hs => ?_))))))))
 refine nG (aa (ae (v := (.bool (false))) rfl) (nR (ax (bI (v := (.bool (false))) Tryz.results4 rfl ?_))))
 obtain rfl := gK hs
 exact ⟨h.grown, rfl⟩
 refine aG (aj (aJ (dm (σ := Bool) (inl (rg 42 18)) (fun x24 => [(59, (.bool (x24)))]) (fun x24 w => SH w0 M BE w (hset [(1, .sr jE va a), (4, .rd dw vc c), (7, .rd dM MI y8.1.frames), (8, .rd (kW aY) SB y8.1.cells), (9, .blk b15 [MI, SB, (I6 y8.1.status), (I6 y8.1.bB)])]) ∧ iZ N rT y8 a c x24 = some r) ?_ ?_)))
 rintro x24 w dC ⟨h, hs⟩
 refine aK hs rfl (fun c25 hs => ?_) (fun c25 hs => ?_)
 refine nG (aa (ae (v := (.bool (false))) rfl) (nR (ax (bI (v := (.bool (false))) Tryz.results4 rfl ?_))))
 obtain rfl := gK hs
 exact ⟨h.grown, rfl⟩
 refine aG (aj (aJ (nG (aa (ag (v := (I6 rT)) rfl) (aa (gV rfl rfl) (nN (aK hs rfl (fun c26 hs => ?_) (fun c26 hs => ?_))))))))
 refine nG (aa (ag (v := (I6 y8.2)) rfl) (aa (gV rfl rfl) (aa (ag (v := (.bool (decide ((y8.2 : Int) ≠ 0)))) rfl) (jT (b := decide ((y8.2 : Int) ≠ 0)) hs (fun XM hs => ?_) (fun XM hs => ?_)))))
 refine dx rfl (cB XM) (aa (eB (vs := [MI, SB, (I6 y8.1.status), (I6 y8.1.bB)]) h 9 rfl bM rfl rfl rfl) (dx rfl (cB XM) (aa (fE (pv := []) (out := [(.slice none 0 0), (.slice none 0 0), (I6 0), (I6 0)]) qf rfl rfl) (dx rfl (cB XM) ?_))))
 obtain ⟨y28, e29, hs⟩ := aM hs
 refine aO OU rfl rfl (qw _ _ h.lt y8.1 MI SB (h.lF 7 rfl) (h.lF 8 rfl) (⟨[], [], 0, 0⟩ : LX.State) (.slice none 0 0) (.slice none 0 0) fK.nil fK.nil _ e29) ?_
 rintro _ w ⟨k30, rfl⟩
 refine ⟨_, rfl, ?_⟩
 replace h := h.grow k30
 refine aa (eO (b := true) (v := (.bool (y28))) (cB XM) rfl) (aa (ae (v := (.bool (y28))) rfl) (nR (ax (bI (v := (.bool (y28))) Tryz.results4 rfl ?_))))
 obtain rfl := gK hs
 exact ⟨h.grown, rfl⟩
 refine qc rfl (cB XM) rfl (qc rfl (cB XM) rfl (qc rfl (cB XM) rfl (aa (eO (b := false) (v := (.bool (false))) (cB XM) rfl) (aa (ae (v := (.bool (false))) rfl) (nR (ax (bI (v := (.bool (false))) Tryz.results4 rfl ?_)))))))
 obtain rfl := gK hs
 exact ⟨h.grown, rfl⟩
 refine nS (aa (ag (v := va) rfl) (aa (ag (v := vc) rfl) ?_))
 obtain ⟨y31, e32, hs⟩ := aM hs
 refine aO fnOk25 rfl rfl (BM N _ _ h.lt va a (h.fQ 1 rfl) vc c (h.gy 4 rfl) _ e32) ?_
 rintro _ w ⟨k37, u33, u35, rfl, g34, g36⟩
 refine ⟨_, rfl, ?_⟩
 replace h := h.EG 10 k37 g34
 replace h := h.bK 11 g36.up
 refine aa (ag (v := (.tuple #[(.agg #[u33, u35, (I6 y31.1.status), (I6 y31.1.bB)]), (I6 y31.2)])) rfl) (aa (bJ rfl rfl) (aa (bJ rfl rfl) (bu h 12 bM fun w b38 h => dN (vs := [u33, u35, (I6 y31.1.status), (I6 y31.1.bB)]) h 12 [u33, u35, (I6 y31.1.status), (I6 y31.1.bB)] rfl bM rfl rfl rfl rfl rfl (ai (h.gy 10 rfl).one (ai (h.gy 11 rfl).one (ai rfl (ai rfl aS)))) fun w h => aa (ae (v := (I6 y31.2)) rfl) (nJ (aa (ag (v := (I6 y8.2)) rfl) (aa (ag (v := (I6 y31.2)) rfl) (aa (bW rfl rfl) (aa (ag (v := (.bool (decide ((y8.2 : Int) = y31.2)))) rfl) (jT (b := decide ((y8.2 : Int) = y31.2)) hs (fun Uj hs => ?_) (fun Uj hs => ?_))))))))))
 refine dx rfl (cB Uj) (aa (eB (vs := [MI, SB, (I6 y8.1.status), (I6 y8.1.bB)]) h 9 rfl bM rfl rfl rfl) (dx rfl (cB Uj) (aa (eB (vs := [u33, u35, (I6 y31.1.status), (I6 y31.1.bB)]) h 12 rfl bM rfl rfl rfl) (dx rfl (cB Uj) ?_))))
 obtain ⟨QI, e41, hs⟩ := aM hs
 refine aO OU rfl rfl (qw _ _ h.lt y8.1 MI SB (h.lF 7 rfl) (h.lF 8 rfl) y31.1 u33 u35 (h.lF 10 rfl) (h.lF 11 rfl) _ e41) ?_
 rintro _ w ⟨JX, rfl⟩
 refine ⟨_, rfl, ?_⟩
 replace h := h.grow JX
 refine aa (eO (b := true) (v := (.bool (QI))) (cB Uj) rfl) (aa (ae (v := (.bool (QI))) rfl) (nR (bI (v := (.bool (QI))) Tryz.results4 rfl ?_)))
 obtain rfl := gK hs
 exact ⟨h.grown, rfl⟩
 refine qc rfl (cB Uj) rfl (qc rfl (cB Uj) rfl (qc rfl (cB Uj) rfl (aa (eO (b := false) (v := (.bool (false))) (cB Uj) rfl) (aa (ae (v := (.bool (false))) rfl) (nR (bI (v := (.bool (false))) Tryz.results4 rfl ?_))))))
 obtain rfl := gK hs
 exact ⟨h.grown, rfl⟩
 refine ay (aa (ag (v := (I6 yn)) rfl) (aa (gV rfl rfl) (aa (ag (v := (.bool (decide ((yn : Int) ≠ 0)))) rfl) (az rfl rfl (fun q => ag (v := u4) rfl) (az rfl rfl (fun q => aX bN (dE q) (h.dJ 6 rfl)) (az rfl rfl (fun q => gV (dE q) rfl) (aa (fB rfl rfl lW) (aa (ag (v := (.bool ((decide ((yn : Int) ≠ 0) && decide (((y2.1.length : Int) : Int) ≠ 0))))) rfl) (jT (b := (decide ((yn : Int) ≠ 0) && decide (((y2.1.length : Int) : Int) ≠ 0))) hs (fun Ng hs => ?_) (fun Ng hs => ?_))))))))))
 refine Oy rfl (cB Ng) rfl (Oy rfl (cB Ng) rfl (Oy rfl (cB Ng) rfl (Bg rfl rfl (Bg rfl rfl (Bg rfl rfl (Bg rfl rfl (Bg rfl rfl (Oy rfl (cB Ng) rfl (aa (eO (b := true) (v := (.bool (true))) (cB Ng) rfl) (aC (ak ?_)))))))))))
 exact cO true ⟨h.cn _, hs⟩
 refine dx rfl (cB Ng) (aa (ag (v := (I6 yn)) rfl) (dx rfl (cB Ng) (aa (bW rfl rfl) (dx rfl (cB Ng) (aa (ag (v := (.bool (decide ((yn : Int) = 0)))) rfl) (jT (b := decide ((yn : Int) = 0)) hs (fun Su hs => ?_) (fun Su hs => ?_)))))))
 refine dx rfl (cB Su) (aa (ag (v := u4) rfl) (dx rfl (cB Su) (aa (eB (vs := [vb0, vb1, (I6 b.status), (I6 b.bB)]) h 5 rfl bM rfl rfl rfl) (dx rfl (cB Su) ?_))))
 obtain ⟨LY, e46, hs⟩ := aM hs
 refine aO fnOk23 rfl rfl (C8 N _ _ h.lt b vb0 vb1 (h.fQ 2 rfl) (h.fQ 3 rfl) _ e46) ?_
 rintro _ w ⟨QH, u47, rfl, g48, g49⟩
 refine ⟨_, rfl, ?_⟩
 replace h := h.mg 13 QH g48 g49
 refine dx rfl (cB Su) ?_
 obtain ⟨y51, e52, hs⟩ := aM hs
 refine aO Zb rfl rfl (Ej _ _ h.lt u4 y2.1 (h.dJ 6 rfl) u47 LY (h.dJ 13 rfl) _ e52) ?_
 rintro _ w ⟨Ws, rfl⟩
 refine ⟨_, rfl, ?_⟩
 replace h := h.grow Ws
 refine dx rfl (cB Su) (aa (dU rfl) (dx rfl (cB Ng) (aa (eO (b := true) (v := (.bool ((!y51)))) (cB Su) rfl) (aa (eO (b := false) (v := (.bool ((!y51)))) (cB Ng) rfl) (aC (ak ?_))))))
 exact cO (!y51) ⟨h.cn _, hs⟩
 refine qc rfl (cB Su) rfl (qc rfl (cB Su) rfl (qc rfl (cB Su) rfl (qc rfl (cB Su) rfl (qc rfl (cB Su) rfl (dx rfl (cB Ng) (aa (eO (b := false) (v := (.bool (false))) (cB Su) rfl) (aa (eO (b := false) (v := (.bool (false))) (cB Ng) rfl) (aC (ak ?_)))))))))
 exact cO false ⟨h.cn _, hs⟩
 refine nG (aa (ag (v := (I6 rT)) rfl) (aa (bW rfl rfl) (nN (aK hs rfl (fun c54 hs => ?_) (fun c54 hs => ?_)))))
 refine ay (aa (ag (v := va) rfl) (aa (eB (vs := [vb0, vb1, (I6 b.status), (I6 b.bB)]) h 5 rfl bM rfl rfl rfl) ?_))
 obtain ⟨y55, e56, hs⟩ := aM hs
 refine aO TQ rfl rfl (uk _ _ h.lt va a (h.fQ 1 rfl) b vb0 vb1 (h.fQ 2 rfl) (h.fQ 3 rfl) _ e56) ?_
 rintro _ w ⟨k57, rfl⟩
 refine ⟨_, rfl, ?_⟩
 replace h := h.grow k57
 refine aa (ae (v := (I6 y55)) rfl) (aC (ak ?_))
 exact cO y55 ⟨h.cn _, hs⟩
 refine aG (ak ?_)
 exact cO rT ⟨h.cn _, hs⟩
end
end Go.Proofs.YtfclkapelkhlpaaGreatDoor
namespace Go.Proofs.YtfclkapelkhlpaaGreatDoor
open Go Go.Proofs Go.LX
theorem K8 : ru NN = some true := by
  unfold ru
  rw [R6]
  kernel_rfl
end Go.Proofs.YtfclkapelkhlpaaGreatDoor
namespace Go.Proofs.YtfclkapelkhlpaaGreatDoor
open Go Go.Proofs Go.LX
def JD (l : List Val) : List Int := l.flatMap fun v => [v.kind, v.n]
def rowP (l : List Val) : List Int := (l.length : Int) :: JD l
def We (f : LX.Frame) : List Int := f.proc :: f.at_ :: f.ja :: rowP f.regs
def FC (s : LX.State) : List Int := s.status :: s.bB :: (s.frames.length : Int) :: (s.frames.flatMap We ++ (s.cells.length : Int) :: s.cells.flatMap rowP)
def Mv (α : Type) := List Int → Option (α × List Int)
structure Reads {α : Type} (R : Mv α) : Prop where
  out : ∀ l x r, R l = some (x, r) → ∃ u, l = u ++ r ∧ (∀ t, R (u ++ t) = some (x, t)) ∧ ∀ v w, v ++ w = u → w ≠ [] → R v = none
def rE {α : Type} (x : α) : Mv α := fun l => some (x, l)
def fu {α β : Type} (R : Mv α) (f : α → Mv β) : Mv β := fun l => (R l).bind fun q => f q.1 q.2
def yD : Mv Int := fun l => match l with
  | [] => none
  | x :: r => some (x, r)
def oz (m : Int) : Mv Nat := fun l => match l with
  | [] => none
  | x :: r => if 0 ≤ x ∧ x ≤ m then some (x.toNat, r) else none
def iN {α : Type} (R : Mv α) : Nat → Mv (List α)
  | 0 => rE []
  | n + 1 => fu R fun x => fu (iN R n) fun l => rE (x :: l)
theorem Reads.pure {α : Type} (x : α) : Reads (rE x) := ⟨fun l y r h => by
  cases h
  exact ⟨[], rfl, fun t => rfl, fun v w h hw => absurd (List.append_eq_nil_iff.1 h).2 hw⟩⟩
theorem Reads.many (m : Int) : Reads (oz m) := ⟨fun l y r h => by
  cases l with
  | nil => cases h
  | cons a l =>
    unfold oz at h
    simp only at h
    by_cases hm : 0 ≤ a ∧ a ≤ m
    · rw [if_pos hm] at h
      cases h
      exact ⟨[a], rfl, fun t => by show (if 0 ≤ a ∧ a ≤ m then some (a.toNat, t) else none) = _; rw [if_pos hm], fun v w h hw => by
        cases v with
        | nil => rfl
        | cons b v => simp at h; exact absurd h.2.2 hw⟩
    · rw [if_neg hm] at h; cases h⟩
theorem Reads.bind {α β : Type} {R : Mv α} {f : α → Mv β} (hR : Reads R) (hf : ∀ x, Reads (f x)) : Reads (fu R f) := ⟨fun l y r h => by
  unfold fu at h
  cases e : R l with
  | none => rw [e] at h; cases h
  | some q =>
    obtain ⟨x, l2⟩ := q
    rw [e, Option.bind_some] at h
    obtain ⟨u, rfl, hu, hn⟩ := hR.out l x l2 e
    obtain ⟨v, rfl, hv, hm⟩ := (hf x).out l2 y r h
    refine ⟨u ++ v, by simp, fun t => ?_, fun p q hp hq => ?_⟩
    · show (R (u ++ v ++ t)).bind _ = _
      rw [List.append_assoc, hu, Option.bind_some, hv]
    · show (R p).bind _ = _
      rcases List.append_eq_append_iff.1 hp with ⟨a, rfl, rfl⟩ | ⟨a, rfl, rfl⟩
      · by_cases ha : a = []
        · subst ha
          rw [List.append_nil] at hu
          have h0 := hu []
          rw [List.append_nil] at h0
          have : R p = some (x, []) := by simpa using h0
          rw [this, Option.bind_some]
          exact hm [] v rfl (by simpa using hq)
        · rw [hn p a rfl ha]; rfl
      · rw [hu, Option.bind_some]
        exact hm a q rfl hq⟩
def HZ : Mv Val := fu yD fun k => fu yD fun n => rE ⟨k, n⟩
def yE (m : Int) : Mv (List Val) := fu (oz m) fun n => iN HZ n
def EC : Mv LX.Frame := fu yD fun p => fu yD fun a => fu yD fun t => fu (yE 40) fun r => rE ⟨p, a, r, t⟩
def Mw : Mv LX.State := fu yD fun s => fu yD fun w => fu (oz 10) fun n => fu (iN EC n) fun f => fu (oz 24) fun k => fu (iN (yE 4) k) fun c => rE ⟨f, c, s, w⟩
theorem Gs (l : List Val) : (JD l).length = 2 * l.length := by
  induction l with
  | nil => rfl
  | cons v l ih => show ([v.kind, v.n] ++ JD l).length = _; simp [ih]; omega
theorem Ou (m : Nat) : ∀ l : List (List Val), (∀ c ∈ l, c.length ≤ m) → (l.flatMap rowP).length ≤ (2 * m + 1) * l.length
  | [], _ => by simp
  | c :: l, h => by
    have h1 := h c (by simp)
    have h2 := Ou m l (fun d hd => h d (List.mem_cons_of_mem _ hd))
    rw [List.flatMap_cons, List.length_append]
    unfold rowP
    rw [List.length_cons, Gs, List.length_cons, Nat.mul_succ]
    unfold rowP at h2
    omega
theorem H5 : ∀ l : List LX.Frame, (∀ f ∈ l, f.regs.length ≤ 40) → (l.flatMap We).length ≤ 84 * l.length
  | [], _ => by simp
  | f :: l, h => by
    have h1 := h f (by simp)
    have h2 := H5 l (fun d hd => h d (List.mem_cons_of_mem _ hd))
    rw [List.flatMap_cons, List.length_append]
    unfold We rowP
    simp only [List.length_cons, Gs]
    unfold We rowP at h2
    omega
theorem Wh {s : LX.State} (h : Small s) : (FC s).length ≤ 1060 := by
  have h1 := Ou 4 s.cells h.fields
  have h2 := H5 s.frames h.regs
  have h3 := h.frames
  have h4 := h.cells
  unfold FC
  simp only [List.length_cons, List.length_append]
  omega
end Go.Proofs.YtfclkapelkhlpaaGreatDoor
namespace Go.Proofs.YtfclkapelkhlpaaGreatDoor
open Go Go.Proofs Go.LX
theorem Ov {α ρ : Type} {body : Int → List Int → (List Int → Option ρ) → Option ρ} {K : List Int → Option ρ} {g : α → List Int} {l : List α} {m B : Nat} (hg : ∀ x ∈ l, (g x).length ≤ m)
    (hb : ∀ (i : Nat) (h : i < l.length) acc nx, acc.length ≤ B + m * i → body (i : Int) acc nx = nx (acc ++ g l[i])) :
    ∀ (k i : Nat) (acc : List Int), i + k = l.length → acc.length ≤ B + m * i → upto body K (i : Int) k acc = K (acc ++ (l.drop i).flatMap g)
  | 0, i, acc, h, _ => by rw [List.drop_eq_nil_of_le (by omega)]; simp [upto]
  | k + 1, i, acc, h, hl => by
    have hi : i < l.length := by omega
    rw [AB, hb i hi acc _ hl, show ((i : Int) + 1) = ((i + 1 : Nat) : Int) by omega, Ov hg hb k (i + 1) _ (by omega) (by
      have := hg _ (List.getElem_mem hi)
      rw [List.length_append, Nat.mul_add]; omega), List.drop_eq_getElem_cons hi, List.flatMap_cons, List.append_assoc]
theorem A9 {α ρ : Type} {body : Int → List Int → (List Int → Option ρ) → Option ρ} {K : List Int → Option ρ} {g : α → List Int} {l : List α} (m B : Nat) (hg : ∀ x ∈ l, (g x).length ≤ m)
    (hb : ∀ (i : Nat) (h : i < l.length) acc nx, acc.length ≤ B + m * i → body (i : Int) acc nx = nx (acc ++ g l[i])) (acc : List Int) (ha : acc.length ≤ B) : upto body K 0 l.length acc = K (acc ++ l.flatMap g) := by
  have := Ov (K := K) hg hb l.length 0 acc (by omega) (by omega)
  rw [List.drop_zero] at this
  exact this
theorem values_eq : ∀ (l : List Val) (acc : List Int), acc.length + 2 * l.length ≤ 50000 → uU acc l = some (acc ++ JD l)
  | [], acc, _ => by simp [uU, dZ, sP, JD]
  | v :: l, acc, h => by
    simp only [List.length_cons] at h
    have ih := values_eq l (acc ++ [v.kind, v.n]) (by simp [-List.length_flatMap]; omega)
    unfold uU at ih ⊢
    rw [df]
    generalize each sO sP l = K at ih ⊢
    unfold sO
    rw [mR (room_le (by simp [-List.length_flatMap]; omega) (by decide)), ih]
    simp [JD]
theorem Mx {c : List Val} {m : Nat} (h : c.length ≤ m) : (rowP c).length ≤ 2 * m + 1 := by
  unfold rowP; rw [List.length_cons, Gs]; omega
theorem Wi {f : LX.Frame} (h : f.regs.length ≤ 40) : (We f).length ≤ 84 := by
  unfold We
  have := Mx h
  simp only [List.length_cons]; omega
theorem GQ {a : List cz} (ha : BJ a) {s : LX.State} (h : Je a s) : Small (sN s) := (VM ha h).small ha
theorem Sv {s : LX.State} (h : Small s) : upto (wB s) (wC s) 0 ((s.frames.length : Int)).toNat [s.status, s.bB, (s.frames.length : Int)] = some (FC s, 0) := by
  have hF := h.frames
  have hC := h.cells
  have hl := H5 s.frames h.regs
  rw [Int.toNat_natCast, A9 (g := We) (l := s.frames) 84 3 (fun f hf => Wi (h.regs f hf)) (fun i hi acc nx hacc => by
    have hr := h.regs _ (List.getElem_mem hi)
    unfold wB
    rw [rG hi, bnd, mR (room_le (by simp [-List.length_flatMap]; omega) (by decide)), values_eq _ _ (by simp [-List.length_flatMap]; omega), bnd]
    unfold We rowP
    simp) _ (by simp)]
  unfold wC
  rw [mR (room_le (by simp [-List.length_flatMap]; omega) (by decide)), Int.toNat_natCast, A9 (g := rowP) (l := s.cells) 9 1000 (fun c hc => Mx (h.fields c hc)) (fun i hi acc nx hacc => by
    have hr := h.fields _ (List.getElem_mem hi)
    unfold yB
    rw [rG hi, bnd, mR (room_le (by simp [-List.length_flatMap]; omega) (by decide)), values_eq _ _ (by simp [-List.length_flatMap]; omega), bnd]
    unfold rowP
    simp) _ (by simp [-List.length_flatMap]; omega)]
  unfold yC
  have hp := Wh h
  have e : ([s.status, s.bB, (s.frames.length : Int)] ++ s.frames.flatMap We ++ [(s.cells.length : Int)] ++ s.cells.flatMap rowP) = FC s := by
    unfold FC; simp
  rw [e, dF (by omega), cond_false]
theorem MB (a : List cz) (s : LX.State) {N : Nat} (hN : 100 ≤ N) : AP N a s = some (if JQ a ≠ 0 then ([], JQ a) else if PL a s ≠ 0 then ([], PL a s) else (FC (sN s), 0)) := by
  unfold AP
  rw [GK, bnd]
  by_cases h1 : JQ a = 0
  · rw [if_neg (by omega), if_neg (by omega)]
    by_cases h2 : PL a s = 0
    · have ha := Fu h1
      have hs := Mk.1 h2
      rw [dF (by omega), cond_false, Oe hN (hs.sw ha), bnd, if_neg (by omega)]
      exact Sv (GQ ha hs)
    · rw [dT h2, cond_true, if_pos h2]
  · rw [if_pos h1, dT h1, cond_true, if_pos h1]
theorem QW {ρ : Type} {body : Int → List Int → (List Int → Option ρ) → Option ρ} {K : List Int → Option ρ} {l : List Val} (hb : ∀ (i : Nat) (h : i < l.length) acc nx, acc.length ≤ 5000 → body (i : Int) acc nx = nx (acc ++ [l[i].kind, l[i].n])) (hl : l.length ≤ 40) (acc : List Int) (ha : acc.length ≤ 2000) : upto body K 0 l.length acc = K (acc ++ JD l) :=
  A9 (g := fun v : Val => [v.kind, v.n]) (l := l) 2 2000 (fun _ _ => Nat.le_refl _) (fun i hi acc nx h => hb i hi acc nx (by omega)) acc ha
theorem Ow {s : LX.State} (h : Small s) : upto (kG s) (kH s) 0 ((s.frames.length : Int)).toNat [s.status, s.bB, (s.frames.length : Int)] = some (FC s) := by
  have hF := h.frames
  have hC := h.cells
  have hl := H5 s.frames h.regs
  rw [Int.toNat_natCast, A9 (g := We) (l := s.frames) 84 3 (fun f hf => Wi (h.regs f hf)) (fun i hi acc nx hacc => by
    have hr := h.regs _ (List.getElem_mem hi)
    unfold kG
    rw [rG hi, bnd, mR (room_le (by simp [-List.length_flatMap]; omega) (by decide)), mR (room_le (by simp [-List.length_flatMap]; omega) (by decide)), Int.toNat_natCast, QW (fun j hj acc nx h2 => by
      unfold mI
      rw [rG hj, bnd, mR (room_le (by simp [-List.length_flatMap]; omega) (by decide))]) hr _ (by simp [-List.length_flatMap]; omega)]
    unfold mJ We rowP
    simp) _ (by simp)]
  unfold kH
  rw [mR (room_le (by simp [-List.length_flatMap]; omega) (by decide)), Int.toNat_natCast, A9 (g := rowP) (l := s.cells) 9 1000 (fun c hc => Mx (h.fields c hc)) (fun i hi acc nx hacc => by
    have hr := h.fields _ (List.getElem_mem hi)
    unfold mO
    rw [rG hi, bnd, mR (room_le (by simp [-List.length_flatMap]; omega) (by decide)), Int.toNat_natCast, QW (fun j hj acc nx h2 => by
      unfold mK
      rw [rG hj, bnd, mR (room_le (by simp [-List.length_flatMap]; omega) (by decide))]) (by omega) _ (by simp [-List.length_flatMap]; omega)]
    unfold mM rowP
    simp) _ (by simp [-List.length_flatMap]; omega)]
  unfold mP
  unfold FC; simp
theorem Sw {a : List cz} (ha : BJ a) {s : LX.State} (h : Je a s) {N : Nat} (hN : 100 ≤ N) : ry N s = some (FC (sN s)) := by
  unfold ry
  rw [Oi hN (h.sw ha), bnd]
  exact Ow (GQ ha h)
end Go.Proofs.YtfclkapelkhlpaaGreatDoor
namespace Go.Proofs.YtfclkapelkhlpaaGreatDoor
open Go Go.Proofs Go.LX
structure Rel {α : Type} (o : Option (α × List Int)) (b : Bool) (x' : α) (l' : List Int) (b' : Bool) : Prop where
  stay : b = true → b' = true
  ok : b = false → match o with
    | some (x, r) => x' = x ∧ l' = r ∧ b' = false
    | none => b' = true
theorem Rel.pure {α : Type} (x : α) (l : List Int) (b : Bool) : Rel (rE x l) b x l b := ⟨id, fun h => ⟨rfl, rfl, h⟩⟩
theorem Rel.bind {α β : Type} {R : Mv α} {f : α → Mv β} {l l' l'' : List Int} {b b' b'' : Bool} {x' : α} {y' : β} (h1 : Rel (R l) b x' l' b') (h2 : Rel (f x' l') b' y' l'' b'') : Rel (fu R f l) b y' l'' b'' := by
  refine ⟨fun h => h2.stay (h1.stay h), fun h => ?_⟩
  have := h1.ok h
  unfold fu
  cases e : R l with
  | none => rw [e] at this; exact h2.stay this
  | some q =>
    obtain ⟨x, r⟩ := q
    rw [e] at this
    obtain ⟨rfl, rfl, hb⟩ := this
    exact h2.ok hb
theorem Rel.marked {α : Type} {o : Option (α × List Int)} {x' : α} {l' : List Int} : Rel o true x' l' true := ⟨fun _ => rfl, fun h => by cases h⟩
theorem xK (l : List Int) (b : Bool) : ∃ x l' b', iq ⟨l, b⟩ = some (x, ⟨l', b'⟩) ∧ Rel (yD l) b x l' b' := by
  unfold iq
  cases l with
  | nil => exact ⟨0, [], true, rfl, fun _ => rfl, fun _ => rfl⟩
  | cons x l =>
    simp only
    rw [dF (by simp; omega), cond_false, show idx (x :: l) 0 = some x from CS x l, bnd, show sub? (x :: l) 1 ((x :: l).length : Int) = some l by
      have := sub_s (l := x :: l) (a := 1) (b := (x :: l).length) (by simp) (Nat.le_refl _)
      rw [List.take_length] at this
      exact this, bnd]
    exact ⟨x, l, b, rfl, id, fun h => ⟨rfl, rfl, h⟩⟩
theorem FD (m : Nat) (l : List Int) (b : Bool) : ∃ (x : Nat) (l' : List Int) (b' : Bool), lh ⟨l, b⟩ m = some ((x : Int), ⟨l', b'⟩) ∧ x ≤ m ∧ Rel (oz m l) b x l' b' := by
  unfold lh
  obtain ⟨x, l', b', h, hr⟩ := xK l b
  rw [h, bnd]
  simp only
  by_cases hx : 0 ≤ x ∧ x ≤ (m : Int)
  · rw [dF (by omega), dF (by omega), Bool.or_self, cond_false]
    refine ⟨x.toNat, l', b', by rw [Int.toNat_of_nonneg hx.1], by omega, hr.stay, fun hb => ?_⟩
    have := hr.ok hb
    cases l with
    | nil => exact this
    | cons y l =>
      obtain ⟨rfl, rfl, hb'⟩ := this
      rw [show oz (m : Int) (x :: l') = some (x.toNat, l') from if_pos hx]; exact ⟨rfl, rfl, hb'⟩
  · rw [show (decide (x < 0) || decide ((m : Int) < x)) = true by
      rw [Bool.or_eq_true, decide_eq_true_eq, decide_eq_true_eq]; omega, cond_true]
    refine ⟨0, l', true, rfl, by omega, fun _ => rfl, fun hb => ?_⟩
    have := hr.ok hb
    cases l with
    | nil => rfl
    | cons y l =>
      obtain ⟨rfl, rfl, hb'⟩ := this
      rw [show oz (m : Int) (x :: l') = none from if_neg hx]
theorem DX (n : Nat) (hn : n ≤ 100) : ∀ (m M i : Nat) (acc : List Val) (l : List Int) (b : Bool), i + m = n → acc.length = i → m < M →
    ∃ vs l' b', again (iP n) M (acc, (i : Int), l, b) = some (acc ++ vs, ⟨l', b'⟩) ∧ vs.length = m ∧ Rel (iN HZ m l) b vs l' b'
  | m, 0, i, acc, l, b, _, _, hM => by omega
  | 0, M + 1, i, acc, l, b, hi, _, _ => by
    rw [oH]
    unfold iP
    simp only
    rw [dF (by omega), cond_false]
    exact ⟨[], l, b, by simp, rfl, Rel.pure [] l b⟩
  | m + 1, M + 1, i, acc, l, b, hi, ha, hM => by
    rw [oH]
    have ih := DX n hn m M (i + 1)
    generalize again (iP n) M = K at ih ⊢
    unfold iP
    simp only
    rw [dT (by omega), cond_true]
    obtain ⟨x, l1, b1, e1, r1⟩ := xK l b
    rw [e1, bnd]
    simp only
    obtain ⟨y, l2, b2, e2, r2⟩ := xK l1 b1
    rw [e2, bnd]
    simp only
    rw [mR (room_le (by simp; omega) (by decide)), gI (by omega) (by omega)]
    obtain ⟨vs, l3, b3, e3, hl, r3⟩ := ih (acc ++ [⟨x, y⟩]) l2 b2 (by omega) (by simp; omega) (by omega)
    refine ⟨⟨x, y⟩ :: vs, l3, b3, ?_, by simp [hl], ?_⟩
    · rw [show ((i : Int) + 1) = ((i + 1 : Nat) : Int) by omega, e3]; simp
    · exact Rel.bind (Rel.bind r1 (Rel.bind r2 (Rel.pure _ _ _))) (Rel.bind r3 (Rel.pure _ _ _))
theorem JE {N n : Nat} (hn : n ≤ 100) (hN : 200 ≤ N) (l : List Int) (b : Bool) : ∃ vs l' b', ou N ⟨l, b⟩ n = some (vs, ⟨l', b'⟩) ∧ vs.length = n ∧ Rel (iN HZ n l) b vs l' b' := by
  unfold ou
  obtain ⟨vs, l', b', e, hl, hr⟩ := DX n hn n N 0 [] l b (by omega) rfl (by omega)
  exact ⟨vs, l', b', by simpa using e, hl, hr⟩
def none0 : LX.State := ⟨[], [], 0, 0⟩
def JF (a : List cz) (s : LX.State) : LX.State × Int :=
  if JQ a ≠ 0 then (none0, JQ a) else if PL a s ≠ 0 then (none0, PL a s) else if sN s = s then (s, 0) else (none0, 4)
def xc (a : List cz) (l : List Int) : LX.State × Int :=
  if 1200 < l.length then (none0, 2) else match Mw l with
    | some (s, []) => JF a s
    | _ => (none0, 8)
theorem un_end (a : List cz) (s : LX.State) {N : Nat} (hN : 100 ≤ N) : ((Aq a s).bind fun y168 => bif decide ((y168 : Int) ≠ 0) then some (none0, y168) else (Av N s).bind fun x => (BF x s).bind fun y => bif (!y) then some (none0, 4) else some (s, 0)) = some (JF a s) := by
  rw [GK, bnd]
  unfold JF
  by_cases h1 : JQ a = 0
  · rw [if_neg (by omega), if_neg (by omega)]
    by_cases h2 : PL a s = 0
    · have ha := Fu h1
      rw [dF (by omega), cond_false, Oe hN ((Mk.1 h2).sw ha), bnd, QR, bnd, if_neg (by omega)]
      by_cases h3 : sN s = s
      · rw [dT h3, if_pos h3]; rfl
      · rw [dF h3, if_neg h3]; rfl
    · rw [dT h2, cond_true, if_pos h2]
  · rw [if_pos h1, dT h1, cond_true, if_pos h1]
theorem K9 {N : Nat} (hN : 200 ≤ N) (kZ : Int × kg) (a : List cz) (fr : List LX.Frame) (y6 uz : Int × kg) (n : Nat) (hy : kZ.1 = n) (hn : n ≤ 24) :
    ∀ (m M i : Nat) (acc : List (List Val)) (l : List Int) (b : Bool), i + m = n → acc.length = i → m < M →
    ∃ cs l' b', again (ow N kZ a fr y6 uz) M ((i : Int), l, b, acc) = (bif (b' || decide ((0 : Int) < (l'.length : Int))) then some (none0, 8) else some (JF a ⟨fr, acc ++ cs, y6.1, uz.1⟩)) ∧ Rel (iN (yE 4) m l) b cs l' b'
  | m, 0, i, acc, l, b, _, _, hM => by omega
  | 0, M + 1, i, acc, l, b, hi, _, _ => by
    rw [oH]
    unfold ow
    simp only
    rw [dF (by omega), cond_false]
    refine ⟨[], l, b, ?_, Rel.pure [] l b⟩
    rw [List.append_nil, ← un_end a ⟨fr, acc, y6.1, uz.1⟩ (N := N) (by omega)]
    rfl
  | m + 1, M + 1, i, acc, l, b, hi, ha, hM => by
    rw [oH]
    have ih := K9 hN kZ a fr y6 uz n hy hn m M (i + 1)
    generalize again (ow N kZ a fr y6 uz) M = K at ih ⊢
    unfold ow
    simp only
    rw [dT (by omega), cond_true]
    obtain ⟨x, l1, b1, e1, hx, r1⟩ := FD 4 l b
    rw [show ((4 : Nat) : Int) = 4 from rfl] at e1
    rw [e1, bnd]
    simp only
    obtain ⟨vs, l2, b2, e2, hv, r2⟩ := JE (N := N) (n := x) (by omega) hN l1 b1
    rw [e2, bnd]
    simp only
    rw [mR (room_le (by simp; omega) (by decide))]
    unfold yR
    rw [gI (by omega) (by omega)]
    obtain ⟨cs, l3, b3, e3, r3⟩ := ih (acc ++ [vs]) l2 b2 (by omega) (by simp; omega) (by omega)
    refine ⟨vs :: cs, l3, b3, ?_, ?_⟩
    · rw [show ((i : Int) + 1) = ((i + 1 : Nat) : Int) by omega, e3]; simp
    · exact Rel.bind (Rel.bind r1 r2) (Rel.bind r3 (Rel.pure _ _ _))
theorem JG {α β : Type} {R : Mv α} {m : Nat} {G : List α → Mv β} {l : List Int} : fu (iN R (m + 1)) G l = fu R (fun x => fu (iN R m) fun fs => G (x :: fs)) l := by
  show ((fu R (fun x => fu (iN R m) fun l => rE (x :: l)) l).bind _) = _
  unfold fu
  cases R l with
  | none => rfl
  | some q =>
    rw [Option.bind_some, Option.bind_some]
    simp only
    cases iN R m q.2 with
    | none => rfl
    | some q2 => rfl
theorem JH {N : Nat} (hN : 200 ≤ N) (y22 : Int × kg) (a : List cz) (y6 uz : Int × kg) (n : Nat) (hy : y22.1 = n) (hn : n ≤ 10) :
    ∀ (m M i : Nat) (acc : List LX.Frame) (l : List Int) (b : Bool), i + m = n → acc.length = i → m < M →
    ∃ (s : LX.State) (l' : List Int) (b' : Bool), again (lY N y22 a y6 uz) M ((i : Int), l, b, acc) = (bif (b' || decide ((0 : Int) < (l'.length : Int))) then some (none0, 8) else some (JF a s)) ∧
      Rel (fu (iN EC m) (fun f => fu (oz 24) fun k => fu (iN (yE 4) k) fun c => rE (⟨acc ++ f, c, y6.1, uz.1⟩ : LX.State)) l) b s l' b'
  | m, 0, i, acc, l, b, _, _, hM => by omega
  | 0, M + 1, i, acc, l, b, hi, _, _ => by
    rw [oH]
    unfold lY
    simp only
    rw [dF (by omega), cond_false]
    obtain ⟨x, l1, b1, e1, hx, r1⟩ := FD 24 l b
    rw [show ((24 : Nat) : Int) = 24 from rfl] at e1
    rw [e1, bnd]
    simp only
    obtain ⟨cs, l2, b2, e2, r2⟩ := K9 hN ((x : Int), ⟨l1, b1⟩) a acc y6 uz x rfl hx x N 0 [] l1 b1 (by omega) rfl (by omega)
    refine ⟨⟨acc ++ [], [] ++ cs, y6.1, uz.1⟩, l2, b2, ?_, ?_⟩
    · rw [List.append_nil]; exact e2
    · exact Rel.bind (Rel.pure [] l b) (Rel.bind r1 (Rel.bind r2 (Rel.pure _ _ _)))
  | m + 1, M + 1, i, acc, l, b, hi, ha, hM => by
    rw [oH]
    have ih := JH hN y22 a y6 uz n hy hn m M (i + 1)
    generalize again (lY N y22 a y6 uz) M = K at ih ⊢
    unfold lY
    simp only
    rw [dT (by omega), cond_true]
    obtain ⟨p, l1, b1, e1, r1⟩ := xK l b
    rw [e1, bnd]
    simp only
    obtain ⟨q, l2, b2, e2, r2⟩ := xK l1 b1
    rw [e2, bnd]
    simp only
    obtain ⟨t, l3, b3, e3, r3⟩ := xK l2 b2
    rw [e3, bnd]
    simp only
    obtain ⟨x, l4, b4, e4, hx, r4⟩ := FD 40 l3 b3
    rw [show ((40 : Nat) : Int) = 40 from rfl] at e4
    rw [e4, bnd]
    simp only
    obtain ⟨vs, l5, b5, e5, hv, r5⟩ := JE (N := N) (n := x) (by omega) hN l4 b4
    rw [e5, bnd]
    simp only
    rw [mR (room_le (by simp; omega) (by decide)), gI (by omega) (by omega)]
    obtain ⟨s, l6, b6, e6, r6⟩ := ih (acc ++ [⟨p, q, vs, t⟩]) l5 b5 (by omega) (by simp; omega) (by omega)
    refine ⟨s, l6, b6, ?_, ?_⟩
    · rw [show ((i : Int) + 1) = ((i + 1 : Nat) : Int) by omega, e6]
    · have hfr : Rel (EC l) b ⟨p, q, vs, t⟩ l5 b5 := Rel.bind r1 (Rel.bind r2 (Rel.bind r3 (Rel.bind (Rel.bind r4 r5) (Rel.pure _ _ _))))
      simp only [List.append_assoc, List.cons_append, List.nil_append] at r6
      rw [JG]
      exact Rel.bind (f := fun x => fu (iN EC m) fun fs => fu (oz 24) fun k => fu (iN (yE 4) k) fun c => rE (⟨acc ++ x :: fs, c, y6.1, uz.1⟩ : LX.State)) hfr r6
theorem QX {a : List cz} {l l' : List Int} {b' : Bool} {s : LX.State} {y : Option (LX.State × Int)} (hl : ¬ 1200 < l.length) (hr : Rel (Mw l) false s l' b') (h : y = (bif (b' || decide ((0 : Int) < (l'.length : Int))) then some (none0, 8) else some (JF a s))) : y = some (xc a l) := by
  rw [h]
  unfold xc
  rw [if_neg hl]
  have := hr.ok rfl
  cases e : Mw l with
  | none => rw [e] at this; simp only at this; subst this; rfl
  | some q =>
    obtain ⟨s2, r⟩ := q
    rw [e] at this
    obtain ⟨rfl, rfl, rfl⟩ := this
    cases l' with
    | nil => rfl
    | cons x l' => rw [Bool.false_or, dT (by simp), cond_true]
theorem JI (a : List cz) (l : List Int) {N : Nat} (hN : 200 ≤ N) : uV N a l = some (xc a l) := by
  unfold uV
  by_cases hl : 1200 < l.length
  · rw [dT (by omega), cond_true]
    unfold xc
    rw [if_pos hl]; rfl
  · rw [dF (by omega), cond_false]
    obtain ⟨st, l1, b1, e1, r1⟩ := xK l false
    rw [e1, bnd]
    simp only
    obtain ⟨wh, l2, b2, e2, r2⟩ := xK l1 b1
    rw [e2, bnd]
    simp only
    obtain ⟨x, l3, b3, e3, hx, r3⟩ := FD 10 l2 b2
    rw [show ((10 : Nat) : Int) = 10 from rfl] at e3
    rw [e3, bnd]
    simp only
    obtain ⟨s, l4, b4, e4, r4⟩ := JH hN ((x : Int), ⟨l3, b3⟩) a (st, ⟨l1, b1⟩) (wh, ⟨l2, b2⟩) x rfl hx x N 0 [] l3 b3 (by omega) rfl (by omega)
    exact QX hl (Rel.bind r1 (Rel.bind r2 (Rel.bind r3 r4))) e4
end Go.Proofs.YtfclkapelkhlpaaGreatDoor
namespace Go.Proofs.YtfclkapelkhlpaaGreatDoor
open Go Go.Proofs Go.LX
section
variable {I : List Int} (hI : I.length ≤ 1200)
include hI
theorem JJ (p : Nat) (t : Bool) (hp : p ≤ I.length) : ∃ (x : Int) (p' : Nat) (t' : Bool), uL ⟨(p : Int), t⟩ I (-1) = some (x, ⟨(p' : Int), t'⟩) ∧ p' ≤ I.length ∧ Rel (yD (I.drop p)) t x (I.drop p') t' := by
  unfold uL
  simp only
  by_cases h : I.length ≤ p
  · rw [dT (by omega), cond_true]
    refine ⟨0, p, true, rfl, hp, fun _ => rfl, fun _ => ?_⟩
    rw [List.drop_eq_nil_of_le h]; rfl
  · have h1 : p < I.length := by omega
    rw [dF (by omega), cond_false, rG h1, bnd, gI (by omega) (by omega), dF (by omega), Bool.false_and, cond_false]
    refine ⟨I[p], p + 1, t, by push_cast; rfl, by omega, id, fun ht => ?_⟩
    rw [List.drop_eq_getElem_cons h1]
    exact ⟨rfl, rfl, ht⟩
theorem QY (m : Nat) (p : Nat) (t : Bool) (hp : p ≤ I.length) : ∃ (x : Nat) (p' : Nat) (t' : Bool), uL ⟨(p : Int), t⟩ I m = some ((x : Int), ⟨(p' : Int), t'⟩) ∧ x ≤ m ∧ p' ≤ I.length ∧ Rel (oz m (I.drop p)) t x (I.drop p') t' := by
  unfold uL
  simp only
  by_cases h : I.length ≤ p
  · rw [dT (by omega), cond_true]
    refine ⟨0, p, true, rfl, by omega, hp, fun _ => rfl, fun _ => ?_⟩
    rw [List.drop_eq_nil_of_le h]; rfl
  · have h1 : p < I.length := by omega
    rw [dF (by omega), cond_false, rG h1, bnd, gI (by omega) (by omega), dT (by omega), Bool.true_and, ← PH]
    have hd := List.drop_eq_getElem_cons h1
    generalize hx : I[p] = x at hd
    by_cases h2 : 0 ≤ x ∧ x ≤ (m : Int)
    · rw [dT h2.1, dT h2.2]
      refine ⟨x.toNat, p + 1, t, ?_, by omega, by omega, id, fun ht => ?_⟩
      · simp only [Bool.and_self, Bool.not_true, cond_false]
        rw [Int.toNat_of_nonneg h2.1]; push_cast; rfl
      · rw [hd, show oz (m : Int) (x :: I.drop (p + 1)) = some (x.toNat, I.drop (p + 1)) from if_pos h2]; exact ⟨rfl, rfl, ht⟩
    · rw [show (!(decide ((0 : Int) ≤ x) && decide (x ≤ (m : Int)))) = true by
        rw [Bool.not_eq_true', Bool.and_eq_false_iff, decide_eq_false_iff_not, decide_eq_false_iff_not]; omega, cond_true]
      refine ⟨0, p + 1, true, by push_cast; rfl, by omega, by omega, fun _ => rfl, fun _ => ?_⟩
      rw [hd, show oz (m : Int) (x :: I.drop (p + 1)) = none from if_neg h2]
theorem JK : ∀ (m M : Nat) (acc : List Val) (p : Nat) (t : Bool), m < M → acc.length + m ≤ 100 → p ≤ I.length →
    ∃ (vs : List Val) (p' : Nat) (t' : Bool), again (uY I) M (acc, (m : Int), (p : Int), t) = some (acc ++ vs, ⟨(p' : Int), t'⟩) ∧ p' ≤ I.length ∧ Rel (iN HZ m (I.drop p)) t vs (I.drop p') t'
  | m, 0, acc, p, t, hM, _, _ => by omega
  | m, M + 1, acc, p, true, hM, hl, hp => by
    rw [oH]
    unfold uY
    simp only [Bool.not_true, Bool.and_false, cond_false]
    exact ⟨[], p, true, by simp, hp, Rel.marked⟩
  | 0, M + 1, acc, p, false, hM, hl, hp => by
    rw [oH]
    unfold uY
    simp only
    rw [dF (by omega), Bool.false_and, cond_false]
    exact ⟨[], p, false, by simp, hp, Rel.pure [] _ _⟩
  | m + 1, M + 1, acc, p, false, hM, hl, hp => by
    rw [oH]
    have ih := JK m M
    generalize again (uY I) M = K at ih ⊢
    unfold uY
    simp only
    rw [dT (by omega), Bool.not_false, Bool.and_self, cond_true]
    obtain ⟨x, p1, t1, e1, hp1, r1⟩ := JJ hI p false hp
    rw [e1, bnd]
    simp only
    obtain ⟨y, p2, t2, e2, hp2, r2⟩ := JJ hI p1 t1 hp1
    rw [e2, bnd]
    simp only
    rw [mR (room_le (by simp; omega) (by decide)), gI (by omega) (by omega)]
    obtain ⟨vs, p3, t3, e3, hp3, r3⟩ := ih (acc ++ [⟨x, y⟩]) p2 t2 (by omega) (by simp; omega) hp2
    refine ⟨⟨x, y⟩ :: vs, p3, t3, ?_, hp3, ?_⟩
    · rw [show (((m + 1 : Nat) : Int) - 1) = (m : Int) by omega, e3]; simp
    · exact Rel.bind (Rel.bind r1 (Rel.bind r2 (Rel.pure _ _ _))) (Rel.bind r3 (Rel.pure _ _ _))
theorem rowR {N : Nat} (hN : 200 ≤ N) (m : Nat) (hm : m ≤ 100) (p : Nat) (t : Bool) (hp : p ≤ I.length) : ∃ (vs : List Val) (p' : Nat) (t' : Bool), Jv N ⟨(p : Int), t⟩ I m = some (vs, ⟨(p' : Int), t'⟩) ∧ p' ≤ I.length ∧ Rel (yE m (I.drop p)) t vs (I.drop p') t' := by
  unfold Jv
  obtain ⟨x, p1, t1, e1, hx, hp1, r1⟩ := QY hI m p t hp
  rw [e1, bnd]
  simp only
  obtain ⟨vs, p2, t2, e2, hp2, r2⟩ := JK hI x N [] p1 t1 (by omega) (by simp; omega) hp1
  exact ⟨vs, p2, t2, by simpa using e2, hp2, Rel.bind r1 r2⟩
omit hI in
theorem XN {a : List cz} (hc : JQ a = 0) (s : LX.State) {N : Nat} (hN : 100 ≤ N) : ((gN a s).bind fun DF => bif decide ((DF : Int) ≠ 0) then some (none0, DF) else (lV N s).bind fun x => (gp x s).bind fun y => bif (!y) then some (none0, 4) else some (s, 0)) = some (JF a s) := by
  rw [QP, bnd]
  unfold JF
  rw [if_neg (by omega)]
  by_cases h2 : PL a s = 0
  · have ha := Fu hc
    rw [dF (by omega), cond_false, Oi hN ((Mk.1 h2).sw ha), bnd, N9, bnd, if_neg (by omega)]
    by_cases h3 : sN s = s
    · rw [dT h3, if_pos h3]; rfl
    · rw [dF h3, if_neg h3]; rfl
  · rw [dT h2, cond_true, if_pos h2]
theorem Qc {a : List cz} (hc : JQ a = 0) {N : Nat} (hN : 200 ≤ N) (fr : List LX.Frame) (y9 rT : Int × dL) :
    ∀ (m M : Nat) (acc : List (List Val)) (p : Nat) (t : Bool), m < M → acc.length + m ≤ 100 → p ≤ I.length →
    ∃ (cs : List (List Val)) (p' : Nat) (t' : Bool), again (gq N I a fr y9 rT) M ((m : Int), (p : Int), t, acc) = (bif (t' || decide ((0 : Int) < ((I.drop p').length : Int))) then some (none0, 8) else some (JF a ⟨fr, acc ++ cs, y9.1, rT.1⟩)) ∧ p' ≤ I.length ∧ Rel (iN (yE 4) m (I.drop p)) t cs (I.drop p') t'
  | m, 0, acc, p, t, hM, _, _ => by omega
  | m, M + 1, acc, p, true, hM, hl, hp => by
    rw [oH]
    unfold gq
    simp only [Bool.not_true, Bool.and_false, cond_false]
    exact ⟨[], p, true, by simp [none0], hp, Rel.marked⟩
  | 0, M + 1, acc, p, false, hM, hl, hp => by
    rw [oH]
    unfold gq
    simp only
    rw [dF (by omega), Bool.false_and, cond_false]
    refine ⟨[], p, false, ?_, hp, Rel.pure [] _ _⟩
    rw [List.append_nil, ← XN hc ⟨fr, acc, y9.1, rT.1⟩ (N := N) (by omega), show decide ((0 : Int) < ((I.drop p).length : Int)) = decide ((p : Int) < (I.length : Int)) by
      rw [List.length_drop]
      by_cases h : p < I.length
      · rw [dT (by omega), dT (by omega)]
      · rw [dF (by omega), dF (by omega)]]
    rfl
  | m + 1, M + 1, acc, p, false, hM, hl, hp => by
    rw [oH]
    have ih := Qc hc hN fr y9 rT m M
    generalize again (gq N I a fr y9 rT) M = K at ih ⊢
    unfold gq
    simp only
    rw [dT (by omega), Bool.not_false, Bool.and_self, cond_true]
    obtain ⟨vs, p1, t1, e1, hp1, r1⟩ := rowR hI hN 4 (by omega) p false hp
    rw [show ((4 : Nat) : Int) = 4 from rfl] at e1
    rw [e1, bnd]
    simp only
    rw [mR (room_le (by simp; omega) (by decide))]
    unfold qA
    rw [gI (by omega) (by omega)]
    obtain ⟨cs, p3, t3, e3, hp3, r3⟩ := ih (acc ++ [vs]) p1 t1 (by omega) (by simp; omega) hp1
    refine ⟨vs :: cs, p3, t3, ?_, hp3, ?_⟩
    · rw [show (((m + 1 : Nat) : Int) - 1) = (m : Int) by omega, e3]; simp
    · exact Rel.bind r1 (Rel.bind r3 (Rel.pure _ _ _))
theorem QZ {a : List cz} (hc : JQ a = 0) {N : Nat} (hN : 200 ≤ N) (y9 rT : Int × dL) :
    ∀ (m M : Nat) (acc : List LX.Frame) (p : Nat) (t : Bool), m < M → acc.length + m ≤ 100 → p ≤ I.length →
    ∃ (s : LX.State) (p' : Nat) (t' : Bool), again (fP N I a y9 rT) M ((m : Int), (p : Int), t, acc) = (bif (t' || decide ((0 : Int) < ((I.drop p').length : Int))) then some (none0, 8) else some (JF a s)) ∧
      Rel (fu (iN EC m) (fun f => fu (oz 24) fun k => fu (iN (yE 4) k) fun c => rE (⟨acc ++ f, c, y9.1, rT.1⟩ : LX.State)) (I.drop p)) t s (I.drop p') t'
  | m, 0, acc, p, t, hM, _, _ => by omega
  | m, M + 1, acc, p, true, hM, hl, hp => by
    rw [oH]
    unfold fP
    simp only [Bool.not_true, Bool.and_false, cond_false]
    obtain ⟨x, p1, t1, e1, hx, hp1, r1⟩ := QY hI 24 p true hp
    rw [show ((24 : Nat) : Int) = 24 from rfl] at e1
    rw [e1, bnd]
    simp only
    have ht1 := r1.stay rfl
    subst ht1
    obtain ⟨cs, p2, t2, e2, hp2, r2⟩ := Qc hI hc hN acc y9 rT x N [] p1 true (by omega) (by simp; omega) hp1
    have ht2 := r2.stay rfl
    subst ht2
    exact ⟨⟨acc, [] ++ cs, y9.1, rT.1⟩, p2, true, e2, Rel.marked⟩
  | 0, M + 1, acc, p, false, hM, hl, hp => by
    rw [oH]
    unfold fP
    simp only
    rw [dF (by omega), Bool.false_and, cond_false]
    obtain ⟨x, p1, t1, e1, hx, hp1, r1⟩ := QY hI 24 p false hp
    rw [show ((24 : Nat) : Int) = 24 from rfl] at e1
    rw [e1, bnd]
    simp only
    obtain ⟨cs, p2, t2, e2, hp2, r2⟩ := Qc hI hc hN acc y9 rT x N [] p1 t1 (by omega) (by simp; omega) hp1
    refine ⟨⟨acc ++ [], [] ++ cs, y9.1, rT.1⟩, p2, t2, ?_, ?_⟩
    · rw [List.append_nil]; exact e2
    · exact Rel.bind (Rel.pure [] _ _) (Rel.bind r1 (Rel.bind r2 (Rel.pure _ _ _)))
  | m + 1, M + 1, acc, p, false, hM, hl, hp => by
    rw [oH]
    have ih := QZ hc hN y9 rT m M
    generalize again (fP N I a y9 rT) M = K at ih ⊢
    unfold fP
    simp only
    rw [dT (by omega), Bool.not_false, Bool.and_self, cond_true]
    obtain ⟨f1, p1, t1, e1, hp1, r1⟩ := JJ hI p false hp
    rw [e1, bnd]
    simp only
    obtain ⟨f2, p2, t2, e2, hp2, r2⟩ := JJ hI p1 t1 hp1
    rw [e2, bnd]
    simp only
    obtain ⟨f3, p3, t3, e3, hp3, r3⟩ := JJ hI p2 t2 hp2
    rw [e3, bnd]
    simp only
    obtain ⟨vs, p5, t5, e5, hp5, r5⟩ := rowR hI hN 40 (by omega) p3 t3 hp3
    rw [show ((40 : Nat) : Int) = 40 from rfl] at e5
    rw [e5, bnd]
    simp only
    rw [mR (room_le (by simp; omega) (by decide)), gI (by omega) (by omega)]
    obtain ⟨s, p6, t6, e6, r6⟩ := ih (acc ++ [⟨f1, f2, vs, f3⟩]) p5 t5 (by omega) (by simp; omega) hp5
    refine ⟨s, p6, t6, ?_, ?_⟩
    · rw [show (((m + 1 : Nat) : Int) - 1) = (m : Int) by omega, e6]
    · have hfr : Rel (EC (I.drop p)) false ⟨f1, f2, vs, f3⟩ (I.drop p5) t5 := Rel.bind r1 (Rel.bind r2 (Rel.bind r3 (Rel.bind r5 (Rel.pure _ _ _))))
      simp only [List.append_assoc, List.cons_append, List.nil_append] at r6
      rw [JG]
      exact Rel.bind (f := fun x => fu (iN EC m) fun fs => fu (oz 24) fun k => fu (iN (yE 4) k) fun c => rE (⟨acc ++ x :: fs, c, y9.1, rT.1⟩ : LX.State)) hfr r6
end
theorem Ox {a : List cz} (hc : JQ a = 0) (l : List Int) {N : Nat} (hN : 200 ≤ N) : pQ N a l = some (xc a l) := by
  unfold pQ
  by_cases hl : 1200 < l.length
  · rw [dT (by omega), cond_true]
    unfold xc
    rw [if_pos hl]; rfl
  · have hI : l.length ≤ 1200 := by omega
    rw [dF (by omega), cond_false]
    obtain ⟨st, p1, t1, e1, hp1, r1⟩ := JJ hI 0 false (by omega)
    rw [show ((0 : Nat) : Int) = 0 from rfl] at e1
    rw [e1, bnd]
    simp only
    obtain ⟨wh, p2, t2, e2, hp2, r2⟩ := JJ hI p1 t1 hp1
    rw [e2, bnd]
    simp only
    obtain ⟨x, p3, t3, e3, hx, hp3, r3⟩ := QY hI 10 p2 t2 hp2
    rw [show ((10 : Nat) : Int) = 10 from rfl] at e3
    rw [e3, bnd]
    simp only
    obtain ⟨s, p4, t4, e4, r4⟩ := QZ hI hc hN (st, ⟨(p1 : Int), t1⟩) (wh, ⟨(p2 : Int), t2⟩) x N [] p3 t3 (by omega) (by simp; omega) hp3
    rw [List.drop_zero] at r1
    exact QX hl (Rel.bind r1 (Rel.bind r2 (Rel.bind r3 r4))) e4
end Go.Proofs.YtfclkapelkhlpaaGreatDoor
namespace Go.Proofs.YtfclkapelkhlpaaGreatDoor
open Go Go.Proofs Go.LX
theorem Q0 : 200 ≤ NN := by decide
theorem Wj : 100 ≤ NN := by decide
theorem same0 : gp none0 ⟨[], [], 0, 0⟩ = some true := KO _
theorem Qd {a : List cz} (h : JQ a ≠ 0) (l : List Int) : (xc a l).1 = none0 ∧ (xc a l).2 ≠ 0 := by
  unfold xc
  by_cases hl : 1200 < l.length
  · rw [if_pos hl]; exact ⟨rfl, by simp⟩
  · rw [if_neg hl]
    cases Mw l with
    | none => exact ⟨rfl, by simp⟩
    | some q =>
      obtain ⟨s, r⟩ := q
      cases r with
      | nil => unfold JF; simp only; rw [if_pos h]; exact ⟨rfl, h⟩
      | cons x r => exact ⟨rfl, by simp⟩
theorem MC (a : List cz) (c : List Int) : iZ NN (JQ a) (xc a c) a c false = some true := by
  unfold iZ
  rw [cond_false]
  by_cases h : JQ a = 0
  · rw [dF (by omega), cond_false, Ox h c Q0, bnd, dT rfl, cond_true, KO, bnd]
  · obtain ⟨h1, h2⟩ := Qd h c
    rw [dT h, cond_true, dT h2, cond_true, h1, same0, bnd]
theorem snapSays (a : List cz) (b : LX.State) (c : List Int) : ∃ N, sQ N a b c = some true := by
  refine ⟨NN, ?_⟩
  unfold sQ
  rw [MB a b Wj, bnd, JI a c Q0, bnd, XE, bnd]
  by_cases h1 : JQ a = 0
  · rw [dT h1, cond_true, QP, bnd, if_neg (by omega)]
    unfold jS
    rw [K8, bnd, Bool.not_true, Bool.false_or]
    by_cases h2 : PL a b = 0
    · have ha := Fu h1
      rw [if_neg (by omega), dF (by simp [h2]), cond_false, dF (by omega), Bool.false_and, cond_false, dT h2, cond_true, Sw ha (Mk.1 h2) Wj, bnd, eqInt, bnd, dT rfl, Bool.not_true]
      exact MC a c
    · rw [if_pos h2, dF (by simp), cond_false]
      simp only [List.length_nil]
      rw [show (decide ((PL a b : Int) ≠ 0) && decide ((((0 : Nat) : Int) : Int) ≠ 0)) = false by simp, cond_false, dF h2, cond_false]
      exact MC a c
  · rw [dF h1, cond_false, if_pos h1]
    unfold jS
    rw [K8, bnd, Bool.not_true, Bool.false_or, dF (by simp), cond_false]
    simp only [List.length_nil]
    rw [show (decide ((JQ a : Int) ≠ 0) && decide ((((0 : Nat) : Int) : Int) ≠ 0)) = false by simp, cond_false, dF h1, cond_false]
    exact MC a c
end Go.Proofs.YtfclkapelkhlpaaGreatDoor
