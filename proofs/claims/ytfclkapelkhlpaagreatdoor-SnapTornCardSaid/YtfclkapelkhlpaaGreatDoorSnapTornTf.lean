/-
  What the law SnapTorn needs of our own library and of the walks, no more.
-/
import Derived.Test.YtfclkapelkhlpaaGreatDoorProg
import Derived.Test.YtfclkapelkhlpaaGreatDoorSnapTornTe
set_option linter.unusedSimpArgs false
set_option linter.unusedVariables false
set_option maxRecDepth 10000
namespace Go.Proofs.YtfclkapelkhlpaaGreatDoor
open Go Go.Proofs Go.LX
noncomputable section
theorem BX : eT Tryz.prog 80 0 0 := ⟨_, _, 0, Tryz.underlying80, rfl, rfl, by kernel_rfl⟩
theorem Il : eT Tryz.prog 80 1 1 := ⟨_, _, 0, Tryz.underlying80, rfl, rfl, by kernel_rfl⟩
theorem La : fE Tryz.prog 13 := ⟨_, Tryz.func13, by kernel_rfl, rfl⟩
theorem Qx : fE Tryz.prog 14 := ⟨_, Tryz.func14, by kernel_rfl, rfl⟩
theorem Im : fE Tryz.prog 15 := ⟨_, Tryz.func15, by kernel_rfl, rfl⟩
theorem U8 : fE Tryz.prog 17 := ⟨_, Tryz.func17, by kernel_rfl, rfl⟩
theorem Qy : fE Tryz.prog 38 := ⟨_, Tryz.func38, by kernel_rfl, rfl⟩
theorem ze : fE Tryz.prog 41 := ⟨_, Tryz.func41, by kernel_rfl, rfl⟩
theorem Fa : fE Tryz.prog 42 := ⟨_, Tryz.func42, by kernel_rfl, rfl⟩
theorem Io : fE Tryz.prog 43 := ⟨_, Tryz.func43, by kernel_rfl, rfl⟩
theorem Qz : Struct Tryz.prog 80 [(.slice none 0 0), (.bool (false))] [(0, 1), (1, 1)] := ⟨by kernel_rfl, _, Tryz.underlying80, by kernel_rfl⟩
def oJ (dx : Val) (x8 : List Int) (lD : List Int → Option (List Int)) : Option (List Int) :=
  gD (Room 8 x8 [dx.kind, dx.n]) (lD (x8 ++ [dx.kind, dx.n]))
def oK (x8 : List Int) : Option (List Int) :=
  some x8
def qB (sx : List Int) (a : List Val) : Option (List Int) :=
  each oJ oK a sx
theorem Ad (w0 : World) (M : BS) (hM : ∀ b, M b → b < w0.heap.size) (sv : Value) (sx : List Int) (hC : Chunk.holds w0 M (Chunk.own' (.own cu 3 sv sx : Chunk)) (.own cu 3 sv sx : Chunk)) (hap : ∀ b, Chunk.own' (.own cu 3 sv sx : Chunk) b → ¬ M b) (va : Value) (a : List Val) (ha : eB bM w0 (fun b => M b ∨ (.own cu 3 sv sx : Chunk).own' b) va a) (r : List Int) (hs : qB sx a = some r) :
    Calls Tryz.prog 38 #[sv, va] w0 (fun e w' => aO (Chunk.own' (.own cu 3 sv sx : Chunk)) w0 w' ∧ ∃ Fb, e = .returned (Fb) ∧ Chunk.holds w' M (Chunk.own' (.own cu 3 Fb r : Chunk)) (.own cu 3 Fb r : Chunk) ∧ (∀ b, Chunk.own' (.own cu 3 Fb r : Chunk) b → b < w0.heap.size → Chunk.own' (.own cu 3 sv sx : Chunk) b)) := by
 refine aH (args := [sv, va]) Tryz.func38 rfl Tryz.ntmps38 (bB rfl) ?_
 have h := SH.Eb hM hC hap
 replace h := h.Ck 2 ha yG
 generalize Iw : (.own cu 3 sv sx : Chunk).own' = K0 at h
 have tZ := ha.bG
 refine nG (aa (ae (v := (.slice none 0 0)) rfl) (nK (aa (ag (v := va) rfl) (aa (bC dz rfl (h.mY 2 rfl)) (aa (ag (v := (I6 0)) rfl) (nN (aI (fe (σ := Nat × Int × Value × List Int) (inl ([0, 6] ++ rg 9 12)) (fun ⟨k9, i10, v7, x8⟩ => [(0, v7), (9, (I6 i10))]) (fun ⟨k9, i10, v7, x8⟩ w => SH w0 M K0 w (hset [(1, .own cu 3 v7 x8), (2, .rd bM va a)]) ∧ i10 = (k9 : Int) ∧ each oJ oK (a.drop k9) x8 = some r) (fun ⟨k9, i10, v7, x8⟩ => a.length - k9) ⟨0, 0, sv, sx⟩ ⟨rfl, rfl, trivial⟩ ?_ ?_))))))))
 exact ⟨h.cn _, rfl, hs⟩
 rintro ⟨k9, i10, v7, x8⟩ w cZ ⟨h, hik, hs⟩
 refine nG ?_
 refine aa (dm rfl rfl) (nN ?_)
 refine aK (gF rfl (fun e14 => ?_) (fun e14 => ?_))
 refine aF (aj ?_)
 obtain ⟨dx, Hr, Ht⟩ := fH (hik ▸ e14)
 rw [Ht, cz] at hs
 generalize BA : each oJ oK (a.drop (k9 + 1)) = lD at hs
 have Hu := fK ((h.mY 2 rfl)).bG hik e14
 refine aK (aI (nG ?_))
 obtain ⟨b17, Yc, RF, h, Pw, i16⟩ := h.FU 2 3 rfl dz rfl (ic hik) (fJ hik Hr)
 obtain rfl := Pw
 refine aa (i16 _ _ _ _ _ _ _ _ _ rfl rfl) (aa (iH (k := 0) (vs := [(I6 dx.kind), (I6 dx.n)]) h 3 rfl ik rfl rfl rfl (bB rfl)) (bL h 4 ik fun w FE h => dS (vs := [(I6 dx.kind), (I6 dx.n)]) h 4 [(I6 dx.kind), (I6 dx.n)] rfl ik rfl rfl rfl rfl rfl (ai rfl (ai rfl aZ)) fun w h => nN (az (aa (ag (v := v7) rfl) (aa (ah Bq rfl) (aa (aC h 4 rfl aS rfl rfl) (aa (ah nU rfl) (aa (aC h 4 rfl aS rfl rfl) (pK (R := cu) (vs := [(I6 dx.kind), (I6 dx.n)]) (xs := [dx.kind, dx.n]) h 5 fM rfl rfl rfl ⟨rfl, ⟨rfl, trivial⟩⟩ rfl fun w u22 h => ?_)))))))))
 obtain ⟨a23, hs⟩ := aW hs
 refine jm (R := cu) (m := [dx.kind, dx.n]) h 1 rfl (h.dE 5 rfl) fM rfl rfl rfl a23.1 a23.2 fun w u24 h => aa (ae (v := u24) rfl) (aB (au (aj (az (aa (bU rfl rfl Hu) (aa (ag (v := (I6 ((i10 + 1)))) rfl) (aB (ak ?_))))))))
 subst BA
 exact iW ⟨k9 + 1, i10 + 1, u24, (x8 ++ [dx.kind, dx.n])⟩ ⟨h.cn _, by omega, hs⟩ (by have := nX e14; dsimp only; omega)
 rw [fI (hik ▸ e14), fw] at hs
 refine nE (aa (ag (v := v7) rfl) (aa (ae (v := v7) rfl) (nR (bE (v := v7) Tryz.results38 rfl ?_))))
 obtain rfl := gM hs
 subst Iw
 obtain ⟨o1, o2, o3⟩ := h.Ah 1 (C := (.own cu 3 v7 x8 : Chunk)) rfl trivial
 exact ⟨o2, v7, rfl, o1, o3⟩
def uQ (y6 : LX.State) (i60 : Int) (vE : List Int) (XG : List Int → Option (List Int × Int)) : Option (List Int × Int) :=
  (idx y6.cells i60).bind fun x66 => gD (Room 8 vE [(x66.length : Int)]) ((qB (vE ++ [(x66.length : Int)]) x66).bind fun Yj => XG Yj)
def uR (vE : List Int) : Option (List Int × Int) :=
  bif decide ((1200 : Int) < (vE.length : Int)) then some ([], 2) else some (vE, 0)
def rC (y6 : LX.State) (i25 : Int) (rM : List Int) (XH : List Int → Option (List Int × Int)) : Option (List Int × Int) :=
  (idx y6.frames i25).bind fun x31 => gD (Room 8 rM [x31.proc, x31.at_, x31.kL, (x31.regs.length : Int)]) ((qB (rM ++ [x31.proc, x31.at_, x31.kL, (x31.regs.length : Int)]) x31.regs).bind fun zN => XH zN)
def rD (y6 : LX.State) (rM : List Int) : Option (List Int × Int) :=
  gD (Room 8 rM [(y6.cells.length : Int)]) (upto (uQ y6) uR 0 ((y6.cells.length : Int)).toNat (rM ++ [(y6.cells.length : Int)]))
def uU (N : Nat) (a : List bR) (b : LX.State) : Option (List Int × Int) :=
  (wV a b).bind fun y2 => bif decide ((y2 : Int) ≠ 0) then some ([], y2) else (tO N b).bind fun y6 => upto (rC y6) (rD y6) 0 ((y6.frames.length : Int)).toNat [y6.status, y6.bN, (y6.frames.length : Int)]
theorem zf (N : Nat) (w0 : World) (M : BS) (hM : ∀ b, M b → b < w0.heap.size) (va : Value) (a : List bR) (ha : eY lH w0 BE M va a) (b : LX.State) (vb0 vb1 : Value) (hb0 : eY eG w0 BE M vb0 b.frames) (hb1 : eY (oN bM) w0 BE M vb1 b.cells) (r : List Int × Int) (hs : uU N a b = some r) :
    Calls Tryz.prog 13 #[va, (.agg #[vb0, vb1, (I6 b.status), (I6 b.bN)])] w0 (fun e w' => Grow w0 w' ∧ ∃ u0, e = .returned (.tuple #[u0, .int .i64 r.2]) ∧ dC cu 3 w' M u0 r.1 ∧ (∀ b, ob u0 b → w0.heap.size ≤ b)) := by
 refine aH (args := [va, (.agg #[vb0, vb1, (I6 b.status), (I6 b.bN)])]) Tryz.func13 rfl Tryz.ntmps13 (bB rfl) ?_
 have h := SH.init hM
 replace h := h.dR 1 ha aT
 replace h := h.dR 2 hb0 (bA aT)
 replace h := h.dR 3 hb1 (bA (bA aT))
 have tZ := ha.bG
 refine nG (ql (cs := [vb0, vb1, (I6 b.status), (I6 b.bN)]) h 4 rfl rfl fun w b1 h => aa (ae (v := (.slice none 0 0)) rfl) (aa (ae (v := (I6 0)) rfl) (nK (aa (ag (v := va) rfl) (aa (fu (vs := [vb0, vb1, (I6 b.status), (I6 b.bN)]) h 4 rfl cO rfl rfl rfl) ?_)))))
 obtain ⟨y2, e3, hs⟩ := aJ hs
 refine aM OU rfl rfl (ED _ _ h.lt va a (h.fT 1 rfl) b vb0 vb1 (h.fT 2 rfl) (h.fT 3 rfl) _ e3) ?_
 rintro _ w ⟨k4, rfl⟩
 refine ⟨_, rfl, ?_⟩
 replace h := h.grow k4
 refine aa (ae (v := (I6 y2)) rfl) (nJ (aa (ag (v := (I6 y2)) rfl) (aa (iK rfl rfl) (nN (aG hs rfl (fun c5 hs => ?_) (fun c5 hs => ?_))))))
 refine nG (aa (ag (v := (I6 y2)) rfl) (aa (ae (v := (.slice none 0 0)) rfl) (aa (ae (v := (I6 y2)) rfl) (nR (ax (zR (v1 := (.slice none 0 0)) (v2 := (I6 y2)) Tryz.results13 rfl rfl ?_))))))
 obtain rfl := gM hs
 exact ⟨h.grown, _, rfl, dC.nil, kX⟩
 refine nS (aa (fu (vs := [vb0, vb1, (I6 b.status), (I6 b.bN)]) h 4 rfl cO rfl rfl rfl) ?_)
 obtain ⟨y6, e7, hs⟩ := aJ hs
 refine aM Hm rfl rfl (xV N _ _ h.lt b vb0 vb1 (h.fT 2 rfl) (h.fT 3 rfl) _ e7) ?_
 rintro _ w ⟨k14, u8, VG, us9, Az, rfl, h12, h13⟩
 refine ⟨_, rfl, ?_⟩
 replace h := h.IZ 5 (C := (cU u8 VG y6.frames us9 y6.cells Az)) k14 ⟨⟨⟨trivial, trivial⟩, trivial⟩, trivial⟩ h12 h13
 replace h := h.iX 5 8 (by decide) rfl rfl
 replace h := h.iX 5 7 (by decide) rfl rfl
 replace h := h.iX 5 6 (by decide) rfl rfl
 refine dS (vs := [u8, VG, (I6 y6.status), (I6 y6.bN)]) h 4 [u8, VG, (I6 y6.status), (I6 y6.bN)] rfl cO rfl rfl rfl rfl rfl (ai (h.fD 5 rfl).one (ai (h.fD 7 rfl).one (ai rfl (ai rfl aZ)))) fun w h => nJ (aa (ah vN rfl) (aa (aC h 4 rfl aS rfl rfl) (aa (ah xE rfl) (aa (aC h 4 rfl aS rfl rfl) (aa (ah kG rfl) (aa (aC h 4 rfl qJ rfl rfl) (aa (yF (N := gN) fB rfl (h.dE 5 rfl) (h.pz 6 rfl)) (pK (R := cu) (vs := [(I6 y6.status), (I6 y6.bN), (I6 ((y6.frames.length : Int)))]) (xs := [y6.status, y6.bN, (y6.frames.length : Int)]) h 9 fM rfl rfl rfl ⟨rfl, ⟨rfl, ⟨rfl, trivial⟩⟩⟩ rfl fun w A8 h => aa (ae (v := A8) rfl) (nK (aa (ah kG rfl) (aa (aC h 4 rfl qJ rfl rfl) (aa (yF (N := gN) fB rfl (h.dE 5 rfl) (h.pz 6 rfl)) (aa (ag (v := (I6 0)) rfl) (aB ?_))))))))))))))
 refine aj (aI ?_)
 have XI := El (h.dE 5 rfl) (h.pz 6 rfl)
 refine fe (σ := Nat × Int × Value × List Int) (inl ([7, 9] ++ rg 31 20)) (fun ⟨k24, i25, v22, rM⟩ => [(7, v22), (31, (I6 i25))]) (fun ⟨k24, i25, v22, rM⟩ w => SH w0 M BE w (hset [(4, .blk b1 [u8, VG, (I6 y6.status), (I6 y6.bN)]), (5, .own gN.raw 49 u8 (List.zip y6.frames us9)), (6, .gZ (dM bM 51 hn us9 (List.map gN.sub y6.frames))), (7, .own (iI Val).raw 47 VG (List.zip y6.cells Az)), (8, .gZ (dM bM 51 hn Az (List.map (iI Val).sub y6.cells))), (9, .own cu 3 v22 rM)]) ∧ i25 = (k24 : Int) ∧ upto (rC y6) (rD y6) i25 (((y6.frames.length : Int)).toNat - k24) rM = some r) (fun ⟨k24, i25, v22, rM⟩ => ((y6.frames.length : Int)).toNat - k24) ⟨0, 0, A8, [y6.status, y6.bN, (y6.frames.length : Int)]⟩ ⟨rfl, rfl, trivial⟩ ?_ ?_
 exact ⟨h.cn _, rfl, hs⟩
 rintro ⟨k24, i25, v22, rM⟩ w cZ ⟨h, hik, hs⟩
 refine nG ?_
 refine aa (dm rfl rfl) (nN ?_)
 refine aK (gF rfl (fun e29 => ?_) (fun e29 => ?_))
 refine aF (aj ?_)
 rw [pW (by have := nX e29; omega)] at hs
 generalize XJ : upto (rC y6) (rD y6) (i25 + 1) (((y6.frames.length : Int)).toNat - (k24 + 1)) = XH at hs
 have e30r : jg (i25 + 1) := (by have := nX e29; have := XI; exact jg.mk (by omega) (by omega))
 refine aK (aI (nG ?_))
 obtain ⟨x31, e32, hs⟩ := aJ hs
 obtain ⟨u36, e37, h⟩ := h.DL 6 10 x31.regs rfl rfl (by decide) (aU e32).2 rfl
 obtain ⟨Yd, q35, i33⟩ := h.II 5 rfl fB rfl (aU e32).1 (mo (aU e32).2 e37)
 refine aa (i33 _ _ _ _ _ _ _ _ _ rfl rfl) ?_
 obtain ⟨cs38, UK, r40⟩ := h.NT 5 rfl q35 (mo (aU e32).2 e37)
 obtain ⟨rfl, -⟩ := r40
 refine aa (Cg (k := 0) (vs := [(I6 x31.proc), (I6 x31.at_), u36, (I6 x31.kL)]) UK ja rfl rfl rfl (bB rfl)) (bL h 11 ja fun w b41 h => dS (vs := [(I6 x31.proc), (I6 x31.at_), u36, (I6 x31.kL)]) h 11 [(I6 x31.proc), (I6 x31.at_), u36, (I6 x31.kL)] rfl ja rfl rfl rfl rfl rfl (ai rfl (ai rfl (ai (h.fD 10 rfl).one (ai rfl aZ)))) fun w h => nN (sJ (L := (ob v22)) mixed h fun w h => dn 0 (aO.refl _ _) rfl ay (by kernel_rfl) (by kernel_rfl) (by kernel_rfl) (fun w hk => ag (v := v22) rfl) (dn 1 (aO.refl _ _) rfl ay (by kernel_rfl) (by kernel_rfl) (by kernel_rfl) (fun w hk => ah xG rfl) (dn 2 (aO.refl _ _) rfl ay (by kernel_rfl) (by kernel_rfl) (by kernel_rfl) (fun w hk => have h := h.uw 9 rfl hk; aC h 11 rfl aS rfl rfl) (dn 3 (aO.refl _ _) rfl ay (by kernel_rfl) (by kernel_rfl) (by kernel_rfl) (fun w hk => ah zx rfl) (dn 4 (aO.refl _ _) rfl ay (by kernel_rfl) (by kernel_rfl) (by kernel_rfl) (fun w hk => have h := h.uw 9 rfl hk; aC h 11 rfl aS rfl rfl) (dn 5 (aO.refl _ _) rfl ay (by kernel_rfl) (by kernel_rfl) (by kernel_rfl) (fun w hk => ah xH rfl) (dn 6 (aO.refl _ _) rfl ay (by kernel_rfl) (by kernel_rfl) (by kernel_rfl) (fun w hk => have h := h.uw 9 rfl hk; aC h 11 rfl aS rfl rfl) (dn 7 (aO.refl _ _) rfl ay (by kernel_rfl) (by kernel_rfl) (by kernel_rfl) (fun w hk => ah p9 rfl) (dn 8 (aO.refl _ _) rfl ay (by kernel_rfl) (by kernel_rfl) (by kernel_rfl) (fun w hk => have h := h.uw 9 rfl hk; aC h 11 rfl pM rfl rfl) (dn 9 (aO.refl _ _) rfl ay (by kernel_rfl) (by kernel_rfl) (by kernel_rfl) (fun w hk => bC dz rfl (h.dE 10 rfl)) (dn 12 (aO.refl _ _) rfl ay (by kernel_rfl) (by kernel_rfl) (by kernel_rfl) (fun w hk => ah p9 rfl) (dn 13 (aO.refl _ _) rfl ay (by kernel_rfl) (by kernel_rfl) (by kernel_rfl) (fun w hk => have h := h.uw 9 rfl hk; aC h 11 rfl pM rfl rfl) ?_)))))))))))))
 obtain ⟨R3, Tc⟩ : ∃ x, x = w := ⟨_, rfl⟩
 have AJ : aO (ob v22) R3 w := Tc ▸ aO.refl (ob v22) w
 refine yB Tc.symm (bS 10 (by kernel_rfl) rfl ay (zZ (R := cu) (vs := [(I6 x31.proc), (I6 x31.at_), (I6 x31.kL), (I6 ((x31.regs.length : Int)))]) (xs := [x31.proc, x31.at_, x31.kL, (x31.regs.length : Int)]) h 132 fM rfl rfl rfl ⟨rfl, ⟨rfl, ⟨rfl, ⟨rfl, trivial⟩⟩⟩⟩ rfl fun w Nw h Lb Lc => ?_))
 have U9 : ∀ b, ob Nw b → R3.heap.size ≤ b := fun b hb => Nat.le_trans AJ.size (Lc b hb)
 replace AJ := AJ.grow Lb
 refine aB (aV AJ (bS 11 (by kernel_rfl) rfl ay ?_))
 obtain ⟨Gt, hs⟩ := aW hs
 have Va := AJ.size
 refine pY (R := cu) (m := [x31.proc, x31.at_, x31.kL, (x31.regs.length : Int)]) h 9 rfl (h.dE 132 rfl) fM rfl rfl rfl Gt.1 Gt.2 fun w zO h Ld Le => ?_
 have Fe : ∀ b, ob zO b → b < R3.heap.size → ob v22 b := fun b hb hl => Le b hb (Nat.lt_of_lt_of_le hl (AJ).size)
 replace AJ := AJ.same Ld
 refine aB (aV AJ (bS 14 (by kernel_rfl) rfl ay ?_))
 obtain ⟨Lf, Vb, Vd⟩ := h.mf 9 (C := (.own cu 3 zO (rM ++ [x31.proc, x31.at_, x31.kL, (x31.regs.length : Int)]) : Chunk)) rfl trivial
 obtain ⟨zN, Ny, hs⟩ := aJ hs
 have VH := AJ.size
 refine aM Qy rfl rfl (Ad _ BE (fun _ h => h.elim) zO (rM ++ [x31.proc, x31.at_, x31.kL, (x31.regs.length : Int)]) (Chunk.flatten (fun _ _ _ _ _ h => h) Lf) SB u36 x31.regs (h.OQ 9 10 (by decide) rfl rfl) _ Ny) ?_
 rintro _ w ⟨Gu, zP, rfl, Nz, Gv⟩
 refine ⟨_, rfl, ?_⟩
 replace h := h.back 9 (C := (.own cu 3 zO (rM ++ [x31.proc, x31.at_, x31.kL, (x31.regs.length : Int)]) : Chunk)) (C' := (.own cu 3 zP zN : Chunk)) rfl trivial (Chunk.flatten (fun _ _ _ _ _ h => h) Nz) Gu Gv
 have Lg := Gu
 have Lh := Gv
 have Ve : ∀ b, ob zP b → b < R3.heap.size → ob v22 b := fun b hb hl => Fe b (Lh b hb (Nat.lt_of_lt_of_le hl (AJ).size)) hl
 replace AJ := aO.step AJ Lg (fun x hx hl => Fe x hx hl)
 refine aB (aV AJ (gQ 15 AJ rfl (by kernel_rfl) (fun w hk => ae (v := zP) rfl) (jG (by kernel_rfl) (au (aj (az (aa (bU rfl rfl e30r) (aa (ag (v := (I6 ((i25 + 1)))) rfl) (aB ?_)))))))))
 replace h := h.IX 6 10 rfl rfl (by decide) (aU e32).2 e37 rfl
 refine ak ?_
 subst XJ
 exact iW ⟨k24 + 1, i25 + 1, zP, zN⟩ ⟨h.cn _, by omega, hs⟩ (by have := nX e29; dsimp only; omega)
 rw [pX (by have := of_decide_eq_false e29; omega)] at hs
 refine nE (aa (ag (v := v22) rfl) (aa (ah kH rfl) (aa (aC h 4 rfl oh rfl rfl) (aa (yF (N := (iI Val)) eZ rfl (h.dE 7 rfl) (h.pz 8 rfl)) (pK (R := cu) (vs := [(I6 ((y6.cells.length : Int)))]) (xs := [(y6.cells.length : Int)]) h 216 fM rfl rfl rfl ⟨rfl, trivial⟩ rfl fun w u48 h => ?_)))))
 obtain ⟨a49, hs⟩ := aW hs
 refine jm (R := cu) (m := [(y6.cells.length : Int)]) h 9 rfl (h.dE 216 rfl) fM rfl rfl rfl a49.1 a49.2 fun w u50 h => aa (ae (v := u50) rfl) (nK (aa (ah kH rfl) (aa (aC h 4 rfl oh rfl rfl) (aa (yF (N := (iI Val)) eZ rfl (h.dE 7 rfl) (h.pz 8 rfl)) (aa (ag (v := (I6 0)) rfl) (nN (aI ?_)))))))
 have XK := El (h.dE 7 rfl) (h.pz 8 rfl)
 refine fe (σ := Nat × Int × Value × List Int) (inl ([7, 11] ++ rg 60 12)) (fun ⟨Td, i60, v57, vE⟩ => [(7, v57), (60, (I6 i60))]) (fun ⟨Td, i60, v57, vE⟩ w => SH w0 M BE w (hset [(7, .own (iI Val).raw 47 VG (List.zip y6.cells Az)), (8, .gZ (dM bM 51 hn Az (List.map (iI Val).sub y6.cells))), (9, .own cu 3 v57 vE)]) ∧ i60 = (Td : Int) ∧ upto (uQ y6) uR i60 (((y6.cells.length : Int)).toNat - Td) vE = some r) (fun ⟨Td, i60, v57, vE⟩ => ((y6.cells.length : Int)).toNat - Td) ⟨0, 0, u50, (rM ++ [(y6.cells.length : Int)])⟩ ⟨rfl, rfl, trivial⟩ ?_ ?_
 exact ⟨h.cn _, rfl, hs⟩
 rintro ⟨Td, i60, v57, vE⟩ w cZ ⟨h, hik, hs⟩
 refine nG ?_
 refine aa (dm rfl rfl) (nN ?_)
 refine aK (gF rfl (fun e64 => ?_) (fun e64 => ?_))
 refine aF (aj ?_)
 rw [pW (by have := nX e64; omega)] at hs
 generalize XL : upto (uQ y6) uR (i60 + 1) (((y6.cells.length : Int)).toNat - (Td + 1)) = XG at hs
 have e65r : jg (i60 + 1) := (by have := nX e64; have := XK; exact jg.mk (by omega) (by omega))
 refine aK (aI (nG ?_))
 obtain ⟨x66, XM, hs⟩ := aJ hs
 obtain ⟨Yk, XN, h⟩ := h.DL 8 217 x66 rfl rfl (by decide) (aU XM).2 rfl
 obtain ⟨b69, q70, i68⟩ := h.II 7 rfl eZ rfl (aU XM).1 (mo (aU XM).2 XN)
 refine aa (i68 _ _ _ _ _ _ _ _ _ rfl rfl) ?_
 obtain ⟨cs73, UU, r75⟩ := h.NT 7 rfl q70 (mo (aU XM).2 XN)
 obtain ⟨rfl, -⟩ := r75
 refine aa (CZ (k := 0) UU pM rfl rfl) (aa (ae (v := Yk) rfl) (nN (az (aa (ag (v := v57) rfl) (aa (ag (v := Yk) rfl) (aa (bC dz rfl (h.dE 217 rfl)) (pK (R := cu) (vs := [(I6 ((x66.length : Int)))]) (xs := [(x66.length : Int)]) h 218 fM rfl rfl rfl ⟨rfl, trivial⟩ rfl fun w u76 h => ?_)))))))
 obtain ⟨a77, hs⟩ := aW hs
 refine jm (R := cu) (m := [(x66.length : Int)]) h 9 rfl (h.dE 218 rfl) fM rfl rfl rfl a77.1 a77.2 fun w Fv h => aa (ag (v := Yk) rfl) ?_
 obtain ⟨l79a, l79b, l79c⟩ := h.mf 9 (C := (.own cu 3 Fv (vE ++ [(x66.length : Int)]) : Chunk)) rfl trivial
 obtain ⟨Yj, e81, hs⟩ := aJ hs
 refine aM Qy rfl rfl (Ad _ BE (fun _ h => h.elim) Fv (vE ++ [(x66.length : Int)]) (Chunk.flatten (fun _ _ _ _ _ h => h) l79a) SB Yk x66 (h.OQ 9 217 (by decide) rfl rfl) _ e81) ?_
 rintro _ w ⟨k82, SI, rfl, ZJ, h84⟩
 refine ⟨_, rfl, ?_⟩
 replace h := h.back 9 (C := (.own cu 3 Fv (vE ++ [(x66.length : Int)]) : Chunk)) (C' := (.own cu 3 SI Yj : Chunk)) rfl trivial (Chunk.flatten (fun _ _ _ _ _ h => h) ZJ) k82 h84
 refine aa (ae (v := SI) rfl) (aB (au (aj (az (aa (bU rfl rfl e65r) (aa (ag (v := (I6 ((i60 + 1)))) rfl) (aB ?_)))))))
 replace h := h.IX 8 217 rfl rfl (by decide) (aU XM).2 XN rfl
 refine ak ?_
 subst XL
 exact iW ⟨Td + 1, i60 + 1, SI, Yj⟩ ⟨h.cn _, by omega, hs⟩ (by have := nX e64; dsimp only; omega)
 rw [pX (by have := of_decide_eq_false e64; omega)] at hs
 refine jd (bK (bK (eF (aj (aK (nG (aa (ag (v := v57) rfl) (aa (bC bP rfl (h.dE 9 rfl)) (aa (iV rfl rfl) (nN (aG hs rfl (fun c86 hs => ?_) (fun c86 hs => ?_))))))))))))
 refine nG (aa (ae (v := (.slice none 0 0)) rfl) (aa (ae (v := (I6 2)) rfl) (nR (ax (zR (v1 := (.slice none 0 0)) (v2 := (I6 2)) Tryz.results13 rfl rfl ?_)))))
 obtain rfl := gM hs
 exact ⟨h.grown, _, rfl, dC.nil, kX⟩
 refine nS (aa (ag (v := v57) rfl) (aa (ae (v := v57) rfl) (aa (ae (v := (I6 0)) rfl) (nR (zR (v1 := v57) (v2 := (I6 0)) Tryz.results13 rfl rfl ?_)))))
 obtain rfl := gM hs
 exact ⟨h.grown, _, rfl, (h.kM 9 rfl).1, (h.kM 9 rfl).2⟩
def eQ (sx : ig) : Option (Int × ig) :=
  bif decide (((sx.l.length : Int) : Int) = 0) then some (0, (⟨sx.l, true⟩ : ig)) else (idx sx.l 0).bind fun x2 => (sub? sx.l 1 (sx.l.length : Int)).bind fun x9 => some (x2, (⟨x9, sx.bad⟩ : ig))
theorem gB (w0 : World) (M : BS) (hM : ∀ b, M b → b < w0.heap.size) (sb : Nat) (sx : ig) (zQ : Value) (hC : Chunk.holds w0 M (Chunk.own' (.blk sb [zQ, (.bool (sx.bad))] : Chunk)) (.blk sb [zQ, (.bool (sx.bad))] : Chunk)) (hap : ∀ b, Chunk.own' (.blk sb [zQ, (.bool (sx.bad))] : Chunk) b → ¬ M b) (QA : eB cu w0 (fun b => M b ∨ Chunk.own' (.blk sb [zQ, (.bool (sx.bad))] : Chunk) b) zQ sx.l) (r : Int × ig) (hs : eQ sx = some r) :
    Calls Tryz.prog 41 #[(.pointer (some ⟨sb, 0, none⟩))] w0 (fun e w' => aO (Chunk.own' (.blk sb [zQ, (.bool (sx.bad))] : Chunk)) w0 w' ∧ ∃ Fb, e = .returned (.int .i64 r.1) ∧ Chunk.holds w' M (Chunk.own' (.blk sb [Fb, .bool r.2.bad] : Chunk)) (.blk sb [Fb, .bool r.2.bad] : Chunk) ∧ (∀ b, Chunk.own' (.blk sb [Fb, .bool r.2.bad] : Chunk) b → b < w0.heap.size → Chunk.own' (.blk sb [zQ, (.bool (sx.bad))] : Chunk) b) ∧ eB cu w' (fun b => M b ∨ Chunk.own' (.blk sb [Fb, .bool r.2.bad] : Chunk) b) Fb r.2.l) := by
 refine aH (args := [(.pointer (some ⟨sb, 0, none⟩))]) Tryz.func41 rfl Tryz.ntmps41 (bB rfl) ?_
 have h := SH.Eb hM hC hap
 replace h := h.Ck 2 QA yG
 generalize Iw : (.blk sb [zQ, (.bool (sx.bad))] : Chunk).own' = K0 at h
 refine nG (aa (ae (v := (I6 0)) rfl) (nK (aa (ag (v := (.pointer (some ⟨sb, 0, none⟩))) rfl) (aa (nY rfl) (aa (ah BX rfl) (aa (aC h 1 rfl qK rfl rfl) (aa (bC bP rfl (h.mY 2 rfl)) (aa (bH rfl rfl) (nN (aG hs rfl (fun c1 hs => ?_) (fun c1 hs => ?_)))))))))))
 refine nG (aa (ag (v := (.pointer (some ⟨sb, 0, none⟩))) rfl) (aa (nY rfl) (aa (ah Il rfl) (dV h 1 [zQ, (.bool (true))] rfl vU rfl rfl rfl rfl rfl fun w h => nJ (aa (ae (v := (I6 0)) rfl) (nR (ax (bE (v := (I6 0)) Tryz.results41 rfl ?_))))))))
 obtain rfl := gM hs
 subst Iw
 obtain ⟨o1, o2, o3⟩ := h.Ah 1 (C := (.blk sb [zQ, (.bool (true))] : Chunk)) rfl trivial
 exact ⟨o2, zQ, rfl, o1, o3, h.xB 1 2 rfl rfl⟩
 refine nS (aa (ag (v := (.pointer (some ⟨sb, 0, none⟩))) rfl) (aa (nY rfl) (aa (ah BX rfl) (aa (aC h 1 rfl qK rfl rfl) ?_))))
 obtain ⟨x2, e3, hs⟩ := aJ hs
 obtain ⟨b5, o6, cs7, h, r8, i4⟩ := h.FU 2 3 rfl bP rfl (aU e3).1 (aU e3).2
 obtain rfl := r8
 refine aa (i4 _ _ _ _ _ _ _ _ _ rfl rfl) (aa (dY (k := 0) h 3 rfl aS rfl rfl) (aa (ae (v := (I6 x2)) rfl) (nJ (aa (ag (v := (.pointer (some ⟨sb, 0, none⟩))) rfl) (aa (ag (v := (.pointer (some ⟨sb, 0, none⟩))) rfl) (aa (nY rfl) (aa (ah BX rfl) (aa (aC h 1 rfl qK rfl rfl) ?_))))))))
 obtain ⟨x9, e10, hs⟩ := aJ hs
 obtain ⟨e13, UQ, UR, e13c⟩ := IC e10
 obtain ⟨u11, h, i12⟩ := h.Yn 2 4 rfl bP rfl UQ UR e13c
 rw [← e13] at h
 refine aa (i12 _ _ _ _ _ _ _ _ _ _ rfl (.inr (congrArg some rfl)) (.inl ⟨rfl, rfl⟩)) (aa (nY rfl) (aa (ah BX rfl) (dV h 1 [u11, (.bool (sx.bad))] rfl qK rfl rfl rfl rfl (h.fq 4 rfl).one fun w h => nJ (aa (ag (v := (I6 x2)) rfl) (aa (ae (v := (I6 x2)) rfl) (nR (bE (v := (I6 x2)) Tryz.results41 rfl ?_)))))))
 obtain rfl := gM hs
 subst Iw
 obtain ⟨o1, o2, o3⟩ := h.Ah 1 (C := (.blk sb [u11, (.bool (sx.bad))] : Chunk)) rfl trivial
 exact ⟨o2, u11, rfl, o1, o3, h.xB 1 4 rfl rfl⟩
def iP (sx : ig) (a : Int) : Option (Int × ig) :=
  (eQ sx).bind fun y2 => bif (decide ((y2.1 : Int) < 0) || decide ((a : Int) < y2.1)) then some (0, (⟨y2.2.l, true⟩ : ig)) else some (y2.1, y2.2)
theorem ky (w0 : World) (M : BS) (hM : ∀ b, M b → b < w0.heap.size) (sb : Nat) (sx : ig) (zQ : Value) (hC : Chunk.holds w0 M (Chunk.own' (.blk sb [zQ, (.bool (sx.bad))] : Chunk)) (.blk sb [zQ, (.bool (sx.bad))] : Chunk)) (hap : ∀ b, Chunk.own' (.blk sb [zQ, (.bool (sx.bad))] : Chunk) b → ¬ M b) (QA : eB cu w0 (fun b => M b ∨ Chunk.own' (.blk sb [zQ, (.bool (sx.bad))] : Chunk) b) zQ sx.l) (a : Int) (r : Int × ig) (hs : iP sx a = some r) :
    Calls Tryz.prog 42 #[(.pointer (some ⟨sb, 0, none⟩)), (I6 a)] w0 (fun e w' => aO (Chunk.own' (.blk sb [zQ, (.bool (sx.bad))] : Chunk)) w0 w' ∧ ∃ Fb, e = .returned (.int .i64 r.1) ∧ Chunk.holds w' M (Chunk.own' (.blk sb [Fb, .bool r.2.bad] : Chunk)) (.blk sb [Fb, .bool r.2.bad] : Chunk) ∧ (∀ b, Chunk.own' (.blk sb [Fb, .bool r.2.bad] : Chunk) b → b < w0.heap.size → Chunk.own' (.blk sb [zQ, (.bool (sx.bad))] : Chunk) b) ∧ eB cu w' (fun b => M b ∨ Chunk.own' (.blk sb [Fb, .bool r.2.bad] : Chunk) b) Fb r.2.l) := by
 refine aH (args := [(.pointer (some ⟨sb, 0, none⟩)), (I6 a)]) Tryz.func42 rfl Tryz.ntmps42 (bB rfl) ?_
 have h := SH.Eb hM hC hap
 replace h := h.Ck 2 QA yG
 generalize Iw : (.blk sb [zQ, (.bool (sx.bad))] : Chunk).own' = K0 at h
 refine nG (aa (ae (v := (I6 0)) rfl) (nJ (aa (ag (v := (.pointer (some ⟨sb, 0, none⟩))) rfl) ?_)))
 obtain ⟨l1a, l1b, l1c⟩ := h.mf 1 (C := (.blk sb [zQ, (.bool (sx.bad))] : Chunk)) rfl trivial
 obtain ⟨y2, e3, hs⟩ := aJ hs
 refine aM ze rfl rfl (gB _ _ l1c sb sx zQ l1a l1b (h.Fs 1 2 rfl rfl) _ e3) ?_
 rintro _ w ⟨k6, u4, rfl, h7, h8, g5⟩
 refine ⟨_, rfl, ?_⟩
 replace h := h.back 1 (C := (.blk sb [zQ, (.bool (sx.bad))] : Chunk)) (C' := (.blk sb [u4, (.bool (y2.2.bad))] : Chunk)) rfl trivial h7 k6 h8
 replace h := h.bD 3 (iY g5)
 refine aa (ae (v := (I6 y2.1)) rfl) (nK (aa (ag (v := (I6 y2.1)) rfl) (aa (dm rfl rfl) (aa (ag (v := (.bool (decide ((y2.1 : Int) < 0)))) rfl) (aA rfl rfl (fun q => ag (v := (I6 y2.1)) rfl) (aA rfl rfl (fun q => ag (v := (I6 a)) rfl) (aA rfl rfl (fun q => iV (bZ q) (bZ q)) (aa (gK rfl rfl mX) (nN (aG hs rfl (fun c9 hs => ?_) (fun c9 hs => ?_)))))))))))
 refine nG (aa (ag (v := (.pointer (some ⟨sb, 0, none⟩))) rfl) (aa (nY rfl) (aa (ah Il rfl) (dV h 1 [u4, (.bool (true))] rfl vU rfl rfl rfl rfl rfl fun w h => nJ (aa (ae (v := (I6 0)) rfl) (nR (ax (bE (v := (I6 0)) Tryz.results42 rfl ?_))))))))
 obtain rfl := gM hs
 subst Iw
 obtain ⟨o1, o2, o3⟩ := h.Ah 1 (C := (.blk sb [u4, (.bool (true))] : Chunk)) rfl trivial
 exact ⟨o2, u4, rfl, o1, o3, h.xB 1 3 rfl rfl⟩
 refine nS (aa (ag (v := (I6 y2.1)) rfl) (aa (ae (v := (I6 y2.1)) rfl) (nR (bE (v := (I6 y2.1)) Tryz.results42 rfl ?_))))
 obtain rfl := gM hs
 subst Iw
 obtain ⟨o1, o2, o3⟩ := h.Ah 1 (C := (.blk sb [u4, (.bool (y2.2.bad))] : Chunk)) rfl trivial
 exact ⟨o2, u4, rfl, o1, o3, h.xB 1 3 rfl rfl⟩
def fG (a : Int) (s : List Val × Int × List Int × Bool) (XO : List Val × Int × List Int × Bool → Option (List Val × ig)) : Option (List Val × ig) :=
  match s with | (x20, wT, y23, y24) => bif decide ((wT : Int) < a) then (eQ (⟨y23, y24⟩ : ig)).bind fun y34 => (eQ y34.2).bind fun nL => gD (Room 16 x20 [(⟨y34.1, nL.1⟩ : Val)]) (gD (jg (wT + 1)) (XO ((x20 ++ [(⟨y34.1, nL.1⟩ : Val)]), (wT + 1), nL.2.l, nL.2.bad))) else some (x20, (⟨y23, y24⟩ : ig))
def kz (N : Nat) (sx : ig) (a : Int) : Option (List Val × ig) :=
  again (fG a) N ([], 0, sx.l, sx.bad)
theorem lu (N : Nat) (w0 : World) (M : BS) (hM : ∀ b, M b → b < w0.heap.size) (sb : Nat) (sx : ig) (zQ : Value) (hC : Chunk.holds w0 M (Chunk.own' (.blk sb [zQ, (.bool (sx.bad))] : Chunk)) (.blk sb [zQ, (.bool (sx.bad))] : Chunk)) (hap : ∀ b, Chunk.own' (.blk sb [zQ, (.bool (sx.bad))] : Chunk) b → ¬ M b) (QA : eB cu w0 (fun b => M b ∨ Chunk.own' (.blk sb [zQ, (.bool (sx.bad))] : Chunk) b) zQ sx.l) (a : Int) (r : List Val × ig) (hs : kz N sx a = some r) :
    Calls Tryz.prog 43 #[(.pointer (some ⟨sb, 0, none⟩)), (I6 a)] w0 (fun e w' => aO (Chunk.own' (.blk sb [zQ, (.bool (sx.bad))] : Chunk)) w0 w' ∧ ∃ u0, ∃ Fb, e = .returned (u0) ∧ Chunk.holds w' M (Chunk.own' (.blk sb [Fb, .bool r.2.bad] : Chunk)) (.blk sb [Fb, .bool r.2.bad] : Chunk) ∧ (∀ b, Chunk.own' (.blk sb [Fb, .bool r.2.bad] : Chunk) b → b < w0.heap.size → Chunk.own' (.blk sb [zQ, (.bool (sx.bad))] : Chunk) b) ∧ eB bM w' (fun b => M b ∨ Chunk.own' (.blk sb [Fb, .bool r.2.bad] : Chunk) b) u0 r.1 ∧ eB cu w' (fun b => M b ∨ Chunk.own' (.blk sb [Fb, .bool r.2.bad] : Chunk) b) Fb r.2.l) := by
 refine aH (args := [(.pointer (some ⟨sb, 0, none⟩)), (I6 a)]) Tryz.func43 rfl Tryz.ntmps43 (bB rfl) ?_
 have h := SH.Eb hM hC hap
 replace h := h.Ck 2 QA yG
 generalize Iw : (.blk sb [zQ, (.bool (sx.bad))] : Chunk).own' = K0 at h
 refine nG (aa (ae (v := (.slice none 0 0)) rfl) (nJ (aa (ae (v := (.slice none 0 0)) rfl) (nK (aa (ag (v := (I6 a)) rfl) (aa (ag (v := (I6 0)) rfl) (nN (aI ?_))))))))
 replace h := h.vS (R := bM) (E := 51) 9
 replace h := h.vI 2 10 rfl
 refine fe (σ := Nat × Value × List Val × Int × Value × List Int × Bool) (inl ([5, 6] ++ rg 8 12)) (fun ⟨UT, v19, x20, wT, v22, y23, y24⟩ => [(5, v19), (8, (I6 wT))]) (fun ⟨UT, v19, x20, wT, v22, y23, y24⟩ w => SH w0 M K0 w (hset [(1, .blk sb [v22, (.bool (y24))]), (9, .own bM 51 v19 x20), (10, .rd cu v22 y23)]) ∧ again (fG a) UT (x20, wT, y23, y24) = some r) (fun ⟨UT, v19, x20, wT, v22, y23, y24⟩ => UT) ⟨N, (.slice none 0 0), [], 0, zQ, sx.l, sx.bad⟩ ⟨rfl, rfl, trivial⟩ ?_ ?_
 exact ⟨h.cn _, hs⟩
 rintro ⟨UT, v19, x20, wT, v22, y23, y24⟩ w cZ ⟨h, hs⟩
 obtain ⟨XP, m28e, m28h⟩ := nC hs
 subst m28e
 replace hs := m28h
 generalize XQ : again (fG a) XP = XO at hs
 refine nG (aa (dm rfl rfl) (nN (aK (aG hs rfl (fun c32 hs => ?_) (fun c32 hs => ?_)))))
 refine aF (aj (aK (aI (nG (aa (ag (v := (.pointer (some ⟨sb, 0, none⟩))) rfl) ?_)))))
 obtain ⟨l33a, l33b, l33c⟩ := h.mf 1 (C := (.blk sb [v22, (.bool (y24))] : Chunk)) rfl trivial
 obtain ⟨y34, e35, hs⟩ := aJ hs
 refine aM ze rfl rfl (gB _ _ l33c sb (⟨y23, y24⟩ : ig) v22 l33a l33b (h.Fs 1 10 rfl rfl) _ e35) ?_
 rintro _ w ⟨RD, u36, rfl, h39, h40, g37⟩
 refine ⟨_, rfl, ?_⟩
 replace h := h.back 1 (C := (.blk sb [v22, (.bool (y24))] : Chunk)) (C' := (.blk sb [u36, (.bool (y34.2.bad))] : Chunk)) rfl trivial h39 RD h40
 replace h := h.bD 11 (iY g37)
 refine aa (ae (v := (I6 y34.1)) rfl) (nN (az (aa (ag (v := v19) rfl) (aa (ag (v := (I6 y34.1)) rfl) (aa (ag (v := (.pointer (some ⟨sb, 0, none⟩))) rfl) ?_)))))
 obtain ⟨l41a, l41b, l41c⟩ := h.mf 1 (C := (.blk sb [u36, (.bool (y34.2.bad))] : Chunk)) rfl trivial
 obtain ⟨nL, e43, hs⟩ := aJ hs
 refine aM ze rfl rfl (gB _ _ l41c sb y34.2 u36 l41a l41b (h.Fs 1 11 rfl rfl) _ e43) ?_
 rintro _ w ⟨Y3, u44, rfl, h47, h48, g45⟩
 refine ⟨_, rfl, ?_⟩
 replace h := h.back 1 (C := (.blk sb [u36, (.bool (y34.2.bad))] : Chunk)) (C' := (.blk sb [u44, (.bool (nL.2.bad))] : Chunk)) rfl trivial h47 Y3 h48
 replace h := h.bD 12 (iY g45)
 refine aa (ek (pv := [(0, (I6 y34.1)), (1, (I6 nL.1))]) (out := [(I6 y34.1), (I6 nL.1)]) O1 rfl ⟨0, 1, [(I6 y34.1)], rfl, rfl, rfl, bB rfl, ⟨1, 1, [(I6 nL.1)], rfl, rfl, rfl, bB rfl, rfl⟩⟩) (pK (R := bM) (vs := [(.agg #[(I6 y34.1), (I6 nL.1)])]) (xs := [(⟨y34.1, nL.1⟩ : Val)]) h 13 wE rfl rfl rfl ⟨rfl, trivial⟩ rfl fun w u49 h => ?_)
 obtain ⟨a50, hs⟩ := aW hs
 refine jm (R := bM) (m := [(⟨y34.1, nL.1⟩ : Val)]) h 9 rfl (h.dE 13 rfl) wE rfl rfl rfl a50.1 a50.2 fun w u51 h => aa (ae (v := u51) rfl) (aB (au (aj (az ?_))))
 obtain ⟨a52, hs⟩ := aW hs
 refine aa (bU rfl rfl a52) (aa (ag (v := (I6 ((wT + 1)))) rfl) (aB (ak ?_)))
 replace h := h.vI 12 10 rfl
 subst XQ
 exact iW ⟨XP, u51, (x20 ++ [(⟨y34.1, nL.1⟩ : Val)]), (wT + 1), u44, nL.2.l, nL.2.bad⟩ ⟨h.cn _, hs⟩
 refine nE (aa (ag (v := v19) rfl) (aa (ae (v := v19) rfl) (nR (bE (v := v19) Tryz.results43 rfl ?_))))
 replace h := h.freeze 9 rfl
 obtain rfl := gM hs
 subst Iw
 obtain ⟨o1, o2, o3⟩ := h.Ah 1 (C := (.blk sb [v22, (.bool (y24))] : Chunk)) rfl trivial
 exact ⟨o2, v19, v22, rfl, o1, o3, h.xB 1 9 rfl rfl, h.xB 1 10 rfl rfl⟩
def vv (BZ : Int) (JU : (Int × List Int × Bool × List (List Val)) → Option (LX.State × Int)) (Li : List Int) (y150 : Bool) (y152 : List (List Val)) : Option (LX.State × Int) :=
  gD (jg (BZ + 1)) (JU ((BZ + 1), Li, y150, y152))
def kC (N : Nat) (nk : Int × ig) (a : List bR) (rG : List LX.Frame) (y6 : Int × ig) (qa : Int × ig) (s : Int × List Int × Bool × List (List Val)) (JU : Int × List Int × Bool × List (List Val) → Option (LX.State × Int)) : Option (LX.State × Int) :=
  match s with | (BZ, FQ, AL, xZ) => bif decide ((BZ : Int) < nk.1) then (iP (⟨FQ, AL⟩ : ig) 4).bind fun gU => (kz N gU.2 gU.1).bind fun dA => gD (Room 24 xZ [dA.1]) (vv BZ JU dA.2.l dA.2.bad (xZ ++ [dA.1])) else bif (AL || decide ((0 : Int) < (FQ.length : Int))) then some ((⟨[], [], 0, 0⟩ : LX.State), 8) else (wV a (⟨rG, xZ, y6.1, qa.1⟩ : LX.State)).bind fun y168 => bif decide ((y168 : Int) ≠ 0) then some ((⟨[], [], 0, 0⟩ : LX.State), y168) else (tO N (⟨rG, xZ, y6.1, qa.1⟩ : LX.State)).bind fun wZ => (xX wZ (⟨rG, xZ, y6.1, qa.1⟩ : LX.State)).bind fun Gw => bif (!Gw) then some ((⟨[], [], 0, 0⟩ : LX.State), 4) else some ((⟨rG, xZ, y6.1, qa.1⟩ : LX.State), 0)
def jl (N : Nat) (y22 : Int × ig) (a : List bR) (y6 : Int × ig) (qa : Int × ig) (s : Int × List Int × Bool × List LX.Frame) (XR : Int × List Int × Bool × List LX.Frame → Option (LX.State × Int)) : Option (LX.State × Int) :=
  match s with | (QB, Ab, qp, rG) => bif decide ((QB : Int) < y22.1) then (eQ (⟨Ab, qp⟩ : ig)).bind fun JV => (eQ JV.2).bind fun J9 => (eQ J9.2).bind fun Lj => (iP Lj.2 40).bind fun Te => (kz N Te.2 Te.1).bind fun y95 => gD (Room 48 rG [(⟨JV.1, J9.1, y95.1, Lj.1⟩ : LX.Frame)]) (gD (jg (QB + 1)) (XR ((QB + 1), y95.2.l, y95.2.bad, (rG ++ [(⟨JV.1, J9.1, y95.1, Lj.1⟩ : LX.Frame)])))) else (iP (⟨Ab, qp⟩ : ig) 24).bind fun nk => again (kC N nk a rG y6 qa) N (0, nk.2.l, nk.2.bad, [])
def oL (N : Nat) (a : List bR) (b : List Int) : Option (LX.State × Int) :=
  bif decide ((1200 : Int) < (b.length : Int)) then some ((⟨[], [], 0, 0⟩ : LX.State), 2) else (eQ (⟨b, false⟩ : ig)).bind fun y6 => (eQ y6.2).bind fun qa => (iP qa.2 10).bind fun y22 => again (jl N y22 a y6 qa) N (0, y22.2.l, y22.2.bad, [])
theorem sF (N : Nat) (w0 : World) (M : BS) (hM : ∀ b, M b → b < w0.heap.size) (va : Value) (a : List bR) (ha : eY lH w0 BE M va a) (vb : Value) (b : List Int) (hb : eB cu w0 M vb b) (r : LX.State × Int) (hs : oL N a b = some r) :
    Calls Tryz.prog 15 #[va, vb] w0 (fun e w' => Grow w0 w' ∧ ∃ wU, ∃ Aw, e = .returned (.tuple #[.agg #[wU, Aw, .int .i64 r.1.status, .int .i64 r.1.bN], .int .i64 r.2]) ∧ eB eG w' M wU r.1.frames ∧ eB (oN bM) w' M Aw r.1.cells) := by
 refine aH (args := [va, vb]) Tryz.func15 rfl Tryz.ntmps15 (bB rfl) ?_
 have h := SH.init hM
 replace h := h.dR 1 ha aT
 replace h := h.VK 2 hb (bA aT)
 have tZ := ha.bG
 have FB := hb.bG
 refine nG (bL h 3 cO fun w b1 h => aa (ae (v := (I6 0)) rfl) (nK (aa (ag (v := vb) rfl) (aa (bC bP rfl (h.mY 2 rfl)) (aa (iV rfl rfl) (nN (aG hs rfl (fun c2 hs => ?_) (fun c2 hs => ?_))))))))
 refine nG (aa (ek (pv := []) (out := [(.slice none 0 0), (.slice none 0 0), (I6 0), (I6 0)]) vg rfl rfl) (dS (vs := [(.slice none 0 0), (.slice none 0 0), (I6 0), (I6 0)]) h 3 [(.slice none 0 0), (.slice none 0 0), (I6 0), (I6 0)] rfl cO rfl rfl rfl rfl rfl (ai rfl (ai rfl (ai rfl (ai rfl aZ)))) fun w h => aa (ae (v := (I6 2)) rfl) (nR (ax (Ag (vs := [(.slice none 0 0), (.slice none 0 0), (I6 0), (I6 0)]) (v2 := (I6 2)) Tryz.results15 rfl rfl h 3 rfl cO rfl ?_)))))
 obtain rfl := gM hs
 exact ⟨h.grown, _, _, rfl, eY.nil, eY.nil⟩
 refine nS (aa (ag (v := vb) rfl) (aa (ek (pv := [(0, vb)]) (out := [vb, (.bool (false))]) Qz rfl ⟨0, 1, [vb], rfl, (nA (h.fq 2 rfl).one), rfl, bB rfl, rfl⟩) (ql (cs := [vb, (.bool (false))]) h 4 rfl rfl fun w b3 h => aa (ae (v := (.pointer (some ⟨b3, 0, none⟩))) rfl) (nJ (aa (ek (pv := []) (out := [(.slice none 0 0), (.slice none 0 0), (I6 0), (I6 0)]) vg rfl rfl) (bL h 5 cO fun w b4 h => dS (vs := [(.slice none 0 0), (.slice none 0 0), (I6 0), (I6 0)]) h 5 [(.slice none 0 0), (.slice none 0 0), (I6 0), (I6 0)] rfl cO rfl rfl rfl rfl rfl (ai rfl (ai rfl (ai rfl (ai rfl aZ)))) fun w h => nJ (aa (ag (v := (.pointer (some ⟨b3, 0, none⟩))) rfl) ?_)))))))
 obtain ⟨l5a, l5b, l5c⟩ := h.mf 4 (C := (.blk b3 [vb, (.bool (false))] : Chunk)) rfl trivial
 obtain ⟨y6, e7, hs⟩ := aJ hs
 refine aM ze rfl rfl (gB _ _ l5c b3 (⟨b, false⟩ : ig) vb l5a l5b (h.Fs 4 2 rfl rfl) _ e7) ?_
 rintro _ w ⟨k10, u8, rfl, h11, h12, g9⟩
 refine ⟨_, rfl, ?_⟩
 replace h := h.back 4 (C := (.blk b3 [vb, (.bool (false))] : Chunk)) (C' := (.blk b3 [u8, (.bool (y6.2.bad))] : Chunk)) rfl trivial h11 k10 h12
 replace h := h.bD 6 (iY g9)
 refine aa (ah vN rfl) (dV h 5 [(.slice none 0 0), (.slice none 0 0), (I6 y6.1), (I6 0)] rfl aS rfl rfl rfl rfl rfl fun w h => nJ (aa (ag (v := (.pointer (some ⟨b3, 0, none⟩))) rfl) ?_))
 obtain ⟨l13a, l13b, l13c⟩ := h.mf 4 (C := (.blk b3 [u8, (.bool (y6.2.bad))] : Chunk)) rfl trivial
 obtain ⟨qa, e15, hs⟩ := aJ hs
 refine aM ze rfl rfl (gB _ _ l13c b3 y6.2 u8 l13a l13b (h.Fs 4 6 rfl rfl) _ e15) ?_
 rintro _ w ⟨k18, u16, rfl, h19, h20, g17⟩
 refine ⟨_, rfl, ?_⟩
 replace h := h.back 4 (C := (.blk b3 [u8, (.bool (y6.2.bad))] : Chunk)) (C' := (.blk b3 [u16, (.bool (qa.2.bad))] : Chunk)) rfl trivial h19 k18 h20
 replace h := h.bD 7 (iY g17)
 refine aa (ah xE rfl) (dV h 5 [(.slice none 0 0), (.slice none 0 0), (I6 y6.1), (I6 qa.1)] rfl aS rfl rfl rfl rfl rfl fun w h => nK (aa (ag (v := (.pointer (some ⟨b3, 0, none⟩))) rfl) ?_))
 obtain ⟨l21a, l21b, l21c⟩ := h.mf 4 (C := (.blk b3 [u16, (.bool (qa.2.bad))] : Chunk)) rfl trivial
 obtain ⟨y22, e23, hs⟩ := aJ hs
 refine aM Fa rfl rfl (ky _ _ l21c b3 qa.2 u16 l21a l21b (h.Fs 4 7 rfl rfl) 10 _ e23) ?_
 rintro _ w ⟨k26, u24, rfl, h27, h28, Uj⟩
 refine ⟨_, rfl, ?_⟩
 replace h := h.back 4 (C := (.blk b3 [u16, (.bool (qa.2.bad))] : Chunk)) (C' := (.blk b3 [u24, (.bool (y22.2.bad))] : Chunk)) rfl trivial h27 k26 h28
 replace h := h.bD 8 (iY Uj)
 refine aa (ag (v := (I6 0)) rfl) (nN (aI ?_))
 replace h := h.vI 8 15 rfl
 replace h := h.vS (R := eG) (E := 49) 16
 refine fe (σ := Nat × Int × Value × List Int × Bool × Value × List LX.Frame) (inl ([8] ++ rg 26 24)) (fun ⟨XT, QB, v48, Ab, qp, v51, rG⟩ => [(26, (I6 QB))]) (fun ⟨XT, QB, v48, Ab, qp, v51, rG⟩ w => SH w0 M BE w (hset [(1, .sr lH va a), (3, .blk b1 [(.slice none 0 0), (.slice none 0 0), (I6 0), (I6 0)]), (4, .blk b3 [v48, (.bool (qp))]), (5, .blk b4 [v51, (.slice none 0 0), (I6 y6.1), (I6 qa.1)]), (15, .rd cu v48 Ab), (16, .own eG 49 v51 rG)]) ∧ again (jl N y22 a y6 qa) XT (QB, Ab, qp, rG) = some r) (fun ⟨XT, QB, v48, Ab, qp, v51, rG⟩ => XT) ⟨N, 0, u24, y22.2.l, y22.2.bad, (.slice none 0 0), []⟩ ⟨rfl, trivial⟩ ?_ ?_
 exact ⟨h.cn _, hs⟩
 rintro ⟨XT, QB, v48, Ab, qp, v51, rG⟩ w cZ ⟨h, hs⟩
 obtain ⟨XU, m56e, m56h⟩ := nC hs
 subst m56e
 replace hs := m56h
 generalize XV : again (jl N y22 a y6 qa) XU = XR at hs
 refine nG (aa (dm rfl rfl) (nN (aK (aG hs rfl (fun KQ hs => ?_) (fun KQ hs => ?_)))))
 refine aF (aj (aK (aI (nG (aa (ek (pv := []) (out := [(I6 0), (I6 0), (.slice none 0 0), (I6 0)]) I9 rfl rfl) (bL h 17 ja fun w b61 h => dS (vs := [(I6 0), (I6 0), (.slice none 0 0), (I6 0)]) h 17 [(I6 0), (I6 0), (.slice none 0 0), (I6 0)] rfl ja rfl rfl rfl rfl rfl (ai rfl (ai rfl (ai rfl (ai rfl aZ)))) fun w h => nJ (aa (ag (v := (.pointer (some ⟨b3, 0, none⟩))) rfl) ?_)))))))
 obtain ⟨l62a, l62b, l62c⟩ := h.mf 4 (C := (.blk b3 [v48, (.bool (qp))] : Chunk)) rfl trivial
 obtain ⟨JV, e64, hs⟩ := aJ hs
 refine aM ze rfl rfl (gB _ _ l62c b3 (⟨Ab, qp⟩ : ig) v48 l62a l62b (h.Fs 4 15 rfl rfl) _ e64) ?_
 rintro _ w ⟨k67, Yl, rfl, h68, h69, g66⟩
 refine ⟨_, rfl, ?_⟩
 replace h := h.back 4 (C := (.blk b3 [v48, (.bool (qp))] : Chunk)) (C' := (.blk b3 [Yl, (.bool (JV.2.bad))] : Chunk)) rfl trivial h68 k67 h69
 replace h := h.bD 18 (iY g66)
 refine aa (ah xG rfl) (dV h 17 [(I6 JV.1), (I6 0), (.slice none 0 0), (I6 0)] rfl aS rfl rfl rfl rfl rfl fun w h => nJ (aa (ag (v := (.pointer (some ⟨b3, 0, none⟩))) rfl) ?_))
 obtain ⟨l70a, l70b, l70c⟩ := h.mf 4 (C := (.blk b3 [Yl, (.bool (JV.2.bad))] : Chunk)) rfl trivial
 obtain ⟨J9, XN, hs⟩ := aJ hs
 refine aM ze rfl rfl (gB _ _ l70c b3 JV.2 Yl l70a l70b (h.Fs 4 18 rfl rfl) _ XN) ?_
 rintro _ w ⟨k75, u73, rfl, h76, h77, g74⟩
 refine ⟨_, rfl, ?_⟩
 replace h := h.back 4 (C := (.blk b3 [Yl, (.bool (JV.2.bad))] : Chunk)) (C' := (.blk b3 [u73, (.bool (J9.2.bad))] : Chunk)) rfl trivial h76 k75 h77
 replace h := h.bD 19 (iY g74)
 refine aa (ah zx rfl) (dV h 17 [(I6 JV.1), (I6 J9.1), (.slice none 0 0), (I6 0)] rfl aS rfl rfl rfl rfl rfl fun w h => nJ (aa (ag (v := (.pointer (some ⟨b3, 0, none⟩))) rfl) ?_))
 obtain ⟨l78a, l78b, l78c⟩ := h.mf 4 (C := (.blk b3 [u73, (.bool (J9.2.bad))] : Chunk)) rfl trivial
 obtain ⟨Lj, Xd, hs⟩ := aJ hs
 refine aM ze rfl rfl (gB _ _ l78c b3 J9.2 u73 l78a l78b (h.Fs 4 19 rfl rfl) _ Xd) ?_
 rintro _ w ⟨Zn, Ym, rfl, h84, h85, g82⟩
 refine ⟨_, rfl, ?_⟩
 replace h := h.back 4 (C := (.blk b3 [u73, (.bool (J9.2.bad))] : Chunk)) (C' := (.blk b3 [Ym, (.bool (Lj.2.bad))] : Chunk)) rfl trivial h84 Zn h85
 replace h := h.bD 20 (iY g82)
 refine aa (ah xH rfl) (dV h 17 [(I6 JV.1), (I6 J9.1), (.slice none 0 0), (I6 Lj.1)] rfl aS rfl rfl rfl rfl rfl fun w h => nJ (aa (ag (v := (.pointer (some ⟨b3, 0, none⟩))) rfl) (aa (ag (v := (.pointer (some ⟨b3, 0, none⟩))) rfl) ?_)))
 obtain ⟨l86a, l86b, l86c⟩ := h.mf 4 (C := (.blk b3 [Ym, (.bool (Lj.2.bad))] : Chunk)) rfl trivial
 obtain ⟨Te, Yh, hs⟩ := aJ hs
 refine aM Fa rfl rfl (ky _ _ l86c b3 Lj.2 Ym l86a l86b (h.Fs 4 20 rfl rfl) 40 _ Yh) ?_
 rintro _ w ⟨k91, Xq, rfl, ZN, h93, g90⟩
 refine ⟨_, rfl, ?_⟩
 replace h := h.back 4 (C := (.blk b3 [Ym, (.bool (Lj.2.bad))] : Chunk)) (C' := (.blk b3 [Xq, (.bool (Te.2.bad))] : Chunk)) rfl trivial ZN k91 h93
 replace h := h.bD 21 (iY g90)
 obtain ⟨l94a, l94b, UC⟩ := h.mf 4 (C := (.blk b3 [Xq, (.bool (Te.2.bad))] : Chunk)) rfl trivial
 obtain ⟨y95, ZO, hs⟩ := aJ hs
 refine aM Io rfl rfl (lu N _ _ UC b3 Te.2 Xq l94a l94b (h.Fs 4 21 rfl rfl) Te.1 _ ZO) ?_
 rintro _ w ⟨k101, Vy, u99, rfl, h102, h103, ZR, g100⟩
 refine ⟨_, rfl, ?_⟩
 replace h := h.back 4 (C := (.blk b3 [Xq, (.bool (Te.2.bad))] : Chunk)) (C' := (.blk b3 [u99, (.bool (y95.2.bad))] : Chunk)) rfl trivial h102 k101 h103
 replace h := h.bD 22 (iY ZR)
 replace h := h.bD 23 (iY g100).up
 refine aa (ah p9 rfl) (dV h 17 [(I6 JV.1), (I6 J9.1), Vy, (I6 Lj.1)] rfl pM rfl rfl rfl rfl (h.fq 22 rfl).one fun w h => nN (az (aa (ah kG rfl) (aa (aC h 5 rfl qJ rfl rfl) (aa (fu (vs := [(I6 JV.1), (I6 J9.1), Vy, (I6 Lj.1)]) h 17 rfl ja rfl rfl rfl) (pK (R := eG) (vs := [(.agg #[(I6 JV.1), (I6 J9.1), Vy, (I6 Lj.1)])]) (xs := [(⟨JV.1, J9.1, y95.1, Lj.1⟩ : LX.Frame)]) h 24 yI rfl rfl rfl ⟨⟨_, rfl, (h.fq 22 rfl)⟩, trivial⟩ rfl fun w u104 h => ?_))))))
 obtain ⟨a105, hs⟩ := aW hs
 refine jm (R := eG) (m := [(⟨JV.1, J9.1, y95.1, Lj.1⟩ : LX.Frame)]) h 16 rfl (h.dE 24 rfl) yI rfl rfl rfl a105.1 a105.2 fun w Jo h => aa (ah kG rfl) (dV h 5 [Jo, (.slice none 0 0), (I6 y6.1), (I6 qa.1)] rfl qJ rfl rfl rfl rfl (h.fD 16 rfl).one fun w h => aB (au (aj (az ?_))))
 obtain ⟨a107, hs⟩ := aW hs
 refine aa (bU rfl rfl a107) (aa (ag (v := (I6 ((QB + 1)))) rfl) (aB (ak ?_)))
 replace h := h.vI 23 15 rfl
 subst XV
 exact iW ⟨XU, (QB + 1), u99, y95.2.l, y95.2.bad, Jo, (rG ++ [(⟨JV.1, J9.1, y95.1, Lj.1⟩ : LX.Frame)])⟩ ⟨h.cn _, hs⟩
 refine jd (bK (bK (eF (aj (aK (nG (aa (ag (v := (.pointer (some ⟨b3, 0, none⟩))) rfl) ?_)))))))
 obtain ⟨XW, XX, XY⟩ := h.mf 4 (C := (.blk b3 [v48, (.bool (qp))] : Chunk)) rfl trivial
 obtain ⟨nk, e110, hs⟩ := aJ hs
 refine aM Fa rfl rfl (ky _ _ XY b3 (⟨Ab, qp⟩ : ig) v48 XW XX (h.Fs 4 15 rfl rfl) 24 _ e110) ?_
 rintro _ w ⟨k113, XZ, rfl, h114, h115, g112⟩
 refine ⟨_, rfl, ?_⟩
 replace h := h.back 4 (C := (.blk b3 [v48, (.bool (qp))] : Chunk)) (C' := (.blk b3 [XZ, (.bool (nk.2.bad))] : Chunk)) rfl trivial h114 k113 h115
 replace h := h.bD 25 (iY g112)
 refine aa (ag (v := (I6 0)) rfl) (nN (aI ?_))
 replace h := h.vI 25 32 rfl
 replace h := h.vS (R := (oN bM)) (E := 47) 33
 refine fe (σ := Nat × Int × Value × List Int × Bool × Value × List (List Val)) (inl (rg 52 12)) (fun ⟨QC, BZ, Ff, FQ, AL, v138, xZ⟩ => [(52, (I6 BZ))]) (fun ⟨QC, BZ, Ff, FQ, AL, v138, xZ⟩ w => SH w0 M BE w (hset [(1, .sr lH va a), (3, .blk b1 [(.slice none 0 0), (.slice none 0 0), (I6 0), (I6 0)]), (4, .blk b3 [Ff, (.bool (AL))]), (5, .blk b4 [v51, v138, (I6 y6.1), (I6 qa.1)]), (16, .own eG 49 v51 rG), (32, .rd cu Ff FQ), (33, .own (oN bM) 47 v138 xZ)]) ∧ again (kC N nk a rG y6 qa) QC (BZ, FQ, AL, xZ) = some r) (fun ⟨QC, BZ, Ff, FQ, AL, v138, xZ⟩ => QC) ⟨N, 0, XZ, nk.2.l, nk.2.bad, (.slice none 0 0), []⟩ ⟨rfl, trivial⟩ ?_ ?_
 exact ⟨h.cn _, hs⟩
 rintro ⟨QC, BZ, Ff, FQ, AL, v138, xZ⟩ w cZ ⟨h, hs⟩
 obtain ⟨Tf, X0, X3⟩ := nC hs
 subst X0
 replace hs := X3
 generalize Vf : again (kC N nk a rG y6 qa) Tf = JU at hs
 refine nG (aa (dm rfl rfl) (nN (aK (aG hs rfl (fun c147 hs => ?_) (fun c147 hs => ?_)))))
 refine aF (aj (bQ (σ := Value × List Int × Bool × Value × List (List Val)) (inl (rg 54 9)) (fun ⟨v148, Li, y150, QD, y152⟩ => []) (fun ⟨v148, Li, y150, QD, y152⟩ w => SH w0 M BE w (hset [(1, .sr lH va a), (3, .blk b1 [(.slice none 0 0), (.slice none 0 0), (I6 0), (I6 0)]), (4, .blk b3 [v148, (.bool (y150))]), (5, .blk b4 [v51, QD, (I6 y6.1), (I6 qa.1)]), (16, .own eG 49 v51 rG), (33, .own (oN bM) 47 QD y152), (95, .rd cu v148 Li)]) ∧ vv BZ JU Li y150 y152 = some r) ?_ ?_))
 rintro ⟨v148, Li, y150, QD, y152⟩ w cZ ⟨h, hs⟩
 refine az ?_
 obtain ⟨a153, hs⟩ := aW hs
 refine aa (bU rfl rfl a153) (aa (ag (v := (I6 ((BZ + 1)))) rfl) (aB (ak ?_)))
 replace h := h.vI 95 32 rfl
 subst Vf
 exact iW ⟨Tf, (BZ + 1), v148, Li, y150, QD, y152⟩ ⟨h.cn _, hs⟩
 refine aI (sJ (L := (fun b => b = b3 ∨ ob v138 b ∨ b = b4)) mixed h fun w h => dn 0 (aO.refl _ _) rfl ay (by kernel_rfl) (by kernel_rfl) (by kernel_rfl) (fun w hk => ah kH rfl) (dn 2 (aO.refl _ _) rfl ay (by kernel_rfl) (by kernel_rfl) (by kernel_rfl) (fun w hk => ag (v := (.pointer (some ⟨b3, 0, none⟩))) rfl) (dn 3 (aO.refl _ _) rfl ay (by kernel_rfl) (by kernel_rfl) (by kernel_rfl) (fun w hk => ag (v := (.pointer (some ⟨b3, 0, none⟩))) rfl) ?_)))
 obtain ⟨gU, Gx, hs⟩ := aJ hs
 obtain ⟨dA, CS, hs⟩ := aJ hs
 obtain ⟨qC, hs⟩ := aW hs
 obtain ⟨Ca, QE⟩ : ∃ x, x = w := ⟨_, rfl⟩
 have di : aO (fun b => b = b3 ∨ ob v138 b ∨ b = b4) Ca w := QE ▸ aO.refl (fun b => b = b3 ∨ ob v138 b ∨ b = b4) w
 refine yB QE.symm (uX 1 4 (by kernel_rfl) rfl ay rfl ay ?_ ?_)
 refine aa (aC h 5 rfl oh rfl rfl) (aB (aV di (bS 4 (by kernel_rfl) rfl ay ?_)))
 obtain ⟨AO, AP, AQ⟩ := h.mf 4 (C := (.blk b3 [Ff, (.bool (AL))] : Chunk)) rfl trivial
 refine aM Fa rfl rfl (ky _ _ AQ b3 (⟨FQ, AL⟩ : ig) Ff AO AP (h.Fs 4 32 rfl rfl) 4 _ Gx) ?_
 rintro _ w ⟨w9, kY, rfl, CU, CV, CW⟩
 refine ⟨_, rfl, ?_⟩
 replace h := h.back 4 (C := (.blk b3 [Ff, (.bool (AL))] : Chunk)) (C' := (.blk b3 [kY, (.bool (gU.2.bad))] : Chunk)) rfl trivial CU w9 CV
 replace h := h.bD 144 (iY CW)
 replace di := aO.step di w9 (fun _ hx _ => .inl (hx))
 refine aB (aV di (bS 5 (by kernel_rfl) rfl ay ?_))
 obtain ⟨vw, vz, vB⟩ := h.mf 4 (C := (.blk b3 [kY, (.bool (gU.2.bad))] : Chunk)) rfl trivial
 refine aM Io rfl rfl (lu N _ _ vB b3 gU.2 kY vw vz (h.Fs 4 144 rfl rfl) gU.1 _ CS) ?_
 rintro _ w ⟨qD, uV, pg, rfl, xc, vC, xe, xg⟩
 refine ⟨_, rfl, ?_⟩
 replace h := h.back 4 (C := (.blk b3 [kY, (.bool (gU.2.bad))] : Chunk)) (C' := (.blk b3 [pg, (.bool (dA.2.bad))] : Chunk)) rfl trivial xc qD vC
 replace h := h.bD 156 (iY xe)
 replace h := h.bD 157 (iY xg).up
 replace di := aO.step di qD (fun _ hx _ => .inl (hx))
 refine aB (aV di (bS 6 (by kernel_rfl) rfl ay (zZ (R := (oN bM)) (vs := [uV]) (xs := [dA.1]) h 168 ng rfl rfl rfl ⟨(h.fq 156 rfl).Vn, trivial⟩ rfl fun w rV h qg qh => ?_)))
 have AR : ∀ b, ob rV b → Ca.heap.size ≤ b := fun b hb => Nat.le_trans di.size (qh b hb)
 replace di := di.grow qg
 refine aB (aV di (bS 7 (by kernel_rfl) rfl ay ?_))
 have AU := di.size
 refine pY (R := (oN bM)) (m := [dA.1]) h 33 rfl (h.dE 168 rfl) ng rfl rfl rfl qC.1 qC.2 fun w iQ h qi qj => ?_
 have AV : ∀ b, ob iQ b → b < Ca.heap.size → ob v138 b := fun b hb hl => qj b hb (Nat.lt_of_lt_of_le hl (di).size)
 replace di := aO.step di qi (fun _ hx _ => .inr (.inl (hx)))
 refine aB (aV di (gQ 8 di rfl (by kernel_rfl) (fun w hk => ah kH rfl) (bS 9 (by kernel_rfl) rfl ay (tX h 5 [v51, iQ, (I6 y6.1), (I6 qa.1)] rfl oh rfl rfl rfl rfl (h.fD 33 rfl).one fun w h rW => ?_))))
 replace di := aO.step di rW (fun _ hx _ => .inr (.inr (hx)))
 refine aB (aV di (jG (by kernel_rfl) (au (ak ?_))))
 replace h := h.vI 157 95 rfl
 exact bO (pg, dA.2.l, dA.2.bad, iQ, (xZ ++ [dA.1])) ⟨h.cn _, hs⟩
 obtain ⟨AO, AP, AQ⟩ := h.mf 4 (C := (.blk b3 [Ff, (.bool (AL))] : Chunk)) rfl trivial
 refine aM Fa rfl rfl (ky _ _ AQ b3 (⟨FQ, AL⟩ : ig) Ff AO AP (h.Fs 4 32 rfl rfl) 4 _ Gx) ?_
 rintro _ w ⟨w9, kY, rfl, CU, CV, CW⟩
 refine ⟨_, rfl, ?_⟩
 replace h := h.back 4 (C := (.blk b3 [Ff, (.bool (AL))] : Chunk)) (C' := (.blk b3 [kY, (.bool (gU.2.bad))] : Chunk)) rfl trivial CU w9 CV
 replace h := h.bD 144 (iY CW)
 replace di := aO.step di w9 (fun _ hx _ => .inl (hx))
 refine aB (aV di (uX 1 5 (by kernel_rfl) rfl ay rfl ay ?_ ?_))
 refine aa (aC h 5 rfl oh rfl rfl) (aB (aV di (bS 5 (by kernel_rfl) rfl ay ?_)))
 obtain ⟨vw, vz, vB⟩ := h.mf 4 (C := (.blk b3 [kY, (.bool (gU.2.bad))] : Chunk)) rfl trivial
 refine aM Io rfl rfl (lu N _ _ vB b3 gU.2 kY vw vz (h.Fs 4 144 rfl rfl) gU.1 _ CS) ?_
 rintro _ w ⟨qD, uV, pg, rfl, xc, vC, xe, xg⟩
 refine ⟨_, rfl, ?_⟩
 replace h := h.back 4 (C := (.blk b3 [kY, (.bool (gU.2.bad))] : Chunk)) (C' := (.blk b3 [pg, (.bool (dA.2.bad))] : Chunk)) rfl trivial xc qD vC
 replace h := h.bD 156 (iY xe)
 replace h := h.bD 157 (iY xg).up
 replace di := aO.step di qD (fun _ hx _ => .inl (hx))
 refine aB (aV di (bS 6 (by kernel_rfl) rfl ay (zZ (R := (oN bM)) (vs := [uV]) (xs := [dA.1]) h 168 ng rfl rfl rfl ⟨(h.fq 156 rfl).Vn, trivial⟩ rfl fun w rV h qg qh => ?_)))
 have AR : ∀ b, ob rV b → Ca.heap.size ≤ b := fun b hb => Nat.le_trans di.size (qh b hb)
 replace di := di.grow qg
 refine aB (aV di (bS 7 (by kernel_rfl) rfl ay ?_))
 have AU := di.size
 refine pY (R := (oN bM)) (m := [dA.1]) h 33 rfl (h.dE 168 rfl) ng rfl rfl rfl qC.1 qC.2 fun w iQ h qi qj => ?_
 have AV : ∀ b, ob iQ b → b < Ca.heap.size → ob v138 b := fun b hb hl => qj b hb (Nat.lt_of_lt_of_le hl (di).size)
 replace di := aO.step di qi (fun _ hx _ => .inr (.inl (hx)))
 refine aB (aV di (gQ 8 di rfl (by kernel_rfl) (fun w hk => ah kH rfl) (bS 9 (by kernel_rfl) rfl ay (tX h 5 [v51, iQ, (I6 y6.1), (I6 qa.1)] rfl oh rfl rfl rfl rfl (h.fD 33 rfl).one fun w h rW => ?_))))
 replace di := aO.step di rW (fun _ hx _ => .inr (.inr (hx)))
 refine aB (aV di (jG (by kernel_rfl) (au (ak ?_))))
 replace h := h.vI 157 95 rfl
 exact bO (pg, dA.2.l, dA.2.bad, iQ, (xZ ++ [dA.1])) ⟨h.cn _, hs⟩
 obtain ⟨vw, vz, vB⟩ := h.mf 4 (C := (.blk b3 [kY, (.bool (gU.2.bad))] : Chunk)) rfl trivial
 refine aM Io rfl rfl (lu N _ _ vB b3 gU.2 kY vw vz (h.Fs 4 144 rfl rfl) gU.1 _ CS) ?_
 rintro _ w ⟨qD, uV, pg, rfl, xc, vC, xe, xg⟩
 refine ⟨_, rfl, ?_⟩
 replace h := h.back 4 (C := (.blk b3 [kY, (.bool (gU.2.bad))] : Chunk)) (C' := (.blk b3 [pg, (.bool (dA.2.bad))] : Chunk)) rfl trivial xc qD vC
 replace h := h.bD 156 (iY xe)
 replace h := h.bD 157 (iY xg).up
 replace di := aO.step di qD (fun _ hx _ => .inl (hx))
 refine aB (aV di (uX 1 6 (by kernel_rfl) rfl ay rfl ay ?_ ?_))
 refine aa (aC h 5 rfl oh rfl rfl) (aB (aV di (bS 6 (by kernel_rfl) rfl ay (zZ (R := (oN bM)) (vs := [uV]) (xs := [dA.1]) h 168 ng rfl rfl rfl ⟨(h.fq 156 rfl).Vn, trivial⟩ rfl fun w rV h qg qh => ?_))))
 have AR : ∀ b, ob rV b → Ca.heap.size ≤ b := fun b hb => Nat.le_trans di.size (qh b hb)
 replace di := di.grow qg
 refine aB (aV di (bS 7 (by kernel_rfl) rfl ay ?_))
 have AU := di.size
 refine pY (R := (oN bM)) (m := [dA.1]) h 33 rfl (h.dE 168 rfl) ng rfl rfl rfl qC.1 qC.2 fun w iQ h qi qj => ?_
 have AV : ∀ b, ob iQ b → b < Ca.heap.size → ob v138 b := fun b hb hl => qj b hb (Nat.lt_of_lt_of_le hl (di).size)
 replace di := aO.step di qi (fun _ hx _ => .inr (.inl (hx)))
 refine aB (aV di (gQ 8 di rfl (by kernel_rfl) (fun w hk => ah kH rfl) (bS 9 (by kernel_rfl) rfl ay (tX h 5 [v51, iQ, (I6 y6.1), (I6 qa.1)] rfl oh rfl rfl rfl rfl (h.fD 33 rfl).one fun w h rW => ?_))))
 replace di := aO.step di rW (fun _ hx _ => .inr (.inr (hx)))
 refine aB (aV di (jG (by kernel_rfl) (au (ak ?_))))
 replace h := h.vI 157 95 rfl
 exact bO (pg, dA.2.l, dA.2.bad, iQ, (xZ ++ [dA.1])) ⟨h.cn _, hs⟩
 refine zZ (R := (oN bM)) (vs := [uV]) (xs := [dA.1]) h 168 ng rfl rfl rfl ⟨(h.fq 156 rfl).Vn, trivial⟩ rfl fun w rV h qg qh => ?_
 have AR : ∀ b, ob rV b → Ca.heap.size ≤ b := fun b hb => Nat.le_trans di.size (qh b hb)
 replace di := di.grow qg
 refine aB (aV di (bS 1 (by kernel_rfl) rfl ay (aa (aC h 5 rfl oh rfl rfl) (aB (aV di (bS 7 (by kernel_rfl) rfl ay ?_))))))
 have AU := di.size
 refine pY (R := (oN bM)) (m := [dA.1]) h 33 rfl (h.dE 168 rfl) ng rfl rfl rfl qC.1 qC.2 fun w iQ h qi qj => ?_
 have AV : ∀ b, ob iQ b → b < Ca.heap.size → ob v138 b := fun b hb hl => qj b hb (Nat.lt_of_lt_of_le hl (di).size)
 replace di := aO.step di qi (fun _ hx _ => .inr (.inl (hx)))
 refine aB (aV di (gQ 8 di rfl (by kernel_rfl) (fun w hk => ah kH rfl) (bS 9 (by kernel_rfl) rfl ay (tX h 5 [v51, iQ, (I6 y6.1), (I6 qa.1)] rfl oh rfl rfl rfl rfl (h.fD 33 rfl).one fun w h rW => ?_))))
 replace di := aO.step di rW (fun _ hx _ => .inr (.inr (hx)))
 refine aB (aV di (jG (by kernel_rfl) (au (ak ?_))))
 replace h := h.vI 157 95 rfl
 exact bO (pg, dA.2.l, dA.2.bad, iQ, (xZ ++ [dA.1])) ⟨h.cn _, hs⟩
 refine jd (bK (bK (eF (aj (aK (nG (aa (ag (v := (.pointer (some ⟨b3, 0, none⟩))) rfl) (aa (nY rfl) (aa (ah Il rfl) (aa (aC h 4 rfl vU rfl rfl) (aa (ag (v := (.bool (AL))) rfl) (aA rfl rfl (fun q => ag (v := (.pointer (some ⟨b3, 0, none⟩))) rfl) (aA rfl rfl (fun q => nY (bZ q)) (aA rfl rfl (fun q => ah BX (bZ q)) (aA rfl rfl (fun q => aC h 4 rfl qK (bZ q) rfl) (aA rfl rfl (fun q => bC bP (bZ q) (h.mY 32 rfl)) (aA rfl rfl (fun q => iV (bZ q) rfl) (aa (gK rfl rfl mX) (nN (aG hs rfl (fun c167 hs => ?_) (fun c167 hs => ?_)))))))))))))))))))))
 refine nG (aa (ek (pv := []) (out := [(.slice none 0 0), (.slice none 0 0), (I6 0), (I6 0)]) vg rfl rfl) (dS (vs := [(.slice none 0 0), (.slice none 0 0), (I6 0), (I6 0)]) h 3 [(.slice none 0 0), (.slice none 0 0), (I6 0), (I6 0)] rfl cO rfl rfl rfl rfl rfl (ai rfl (ai rfl (ai rfl (ai rfl aZ)))) fun w h => aa (ae (v := (I6 8)) rfl) (nR (ax (Ag (vs := [(.slice none 0 0), (.slice none 0 0), (I6 0), (I6 0)]) (v2 := (I6 8)) Tryz.results15 rfl rfl h 3 rfl cO rfl ?_)))))
 obtain rfl := gM hs
 exact ⟨h.grown, _, _, rfl, eY.nil, eY.nil⟩
 refine aF (aj (aK (nG (aa (ag (v := va) rfl) (aa (fu (vs := [v51, v138, (I6 y6.1), (I6 qa.1)]) h 5 rfl cO rfl rfl rfl) ?_)))))
 obtain ⟨y168, e169, hs⟩ := aJ hs
 refine aM OU rfl rfl (ED _ _ h.lt va a (h.fT 1 rfl) (⟨rG, xZ, y6.1, qa.1⟩ : LX.State) v51 v138 (h.dE 16 rfl) (h.dE 33 rfl) _ e169) ?_
 rintro _ w ⟨k170, rfl⟩
 refine ⟨_, rfl, ?_⟩
 replace h := h.grow k170
 refine aa (ae (v := (I6 y168)) rfl) (nJ (aa (ag (v := (I6 y168)) rfl) (aa (iK rfl rfl) (nN (aG hs rfl (fun c171 hs => ?_) (fun c171 hs => ?_))))))
 refine nG (aa (ek (pv := []) (out := [(.slice none 0 0), (.slice none 0 0), (I6 0), (I6 0)]) vg rfl rfl) (aa (ag (v := (I6 y168)) rfl) (dS (vs := [(.slice none 0 0), (.slice none 0 0), (I6 0), (I6 0)]) h 3 [(.slice none 0 0), (.slice none 0 0), (I6 0), (I6 0)] rfl cO rfl rfl rfl rfl rfl (ai rfl (ai rfl (ai rfl (ai rfl aZ)))) fun w h => aa (ae (v := (I6 y168)) rfl) (nR (ax (Ag (vs := [(.slice none 0 0), (.slice none 0 0), (I6 0), (I6 0)]) (v2 := (I6 y168)) Tryz.results15 rfl rfl h 3 rfl cO rfl ?_))))))
 obtain rfl := gM hs
 exact ⟨h.grown, _, _, rfl, eY.nil, eY.nil⟩
 refine aF (aj (aK (aK (DJ mixed h fun w h => ma 0 (aO.refl BE _) rfl ay (by kernel_rfl) (by kernel_rfl) (by kernel_rfl) (fun w hk => have h := h.grow hk; fu (vs := [v51, v138, (I6 y6.1), (I6 qa.1)]) h 5 rfl cO rfl rfl rfl) (ma 2 (aO.refl BE _) rfl ay (by kernel_rfl) (by kernel_rfl) (by kernel_rfl) (fun w hk => have h := h.grow hk; fu (vs := [v51, v138, (I6 y6.1), (I6 qa.1)]) h 5 rfl cO rfl rfl rfl) ?_)))))
 obtain ⟨X4, QF⟩ : ∃ x, x = w := ⟨_, rfl⟩
 have Fg : Grow X4 w := QF ▸ aO.refl BE w
 refine LJ QF.symm (xy 1 (by kernel_rfl) rfl ay ?_)
 obtain ⟨wZ, NA, hs⟩ := aJ hs
 refine aM Hm rfl rfl (xV N _ _ h.lt (⟨rG, xZ, y6.1, qa.1⟩ : LX.State) v51 v138 (h.dE 16 rfl) (h.dE 33 rfl) _ NA) ?_
 rintro _ w ⟨Gy, Gz, GA, Ll, Lm, rfl, NB, NC⟩
 refine ⟨_, rfl, ?_⟩
 replace h := h.IZ 240 (C := (cU Gz GA wZ.frames Ll wZ.cells Lm)) Gy ⟨⟨⟨trivial, trivial⟩, trivial⟩, trivial⟩ NB NC
 replace h := h.iX 240 243 (by decide) rfl rfl
 replace h := h.iX 240 242 (by decide) rfl rfl
 replace h := h.iX 240 241 (by decide) rfl rfl
 replace Fg := Fg.trans Gy
 refine aB (uE Fg (xy 3 (by kernel_rfl) rfl ay ?_))
 obtain ⟨Gw, ND, hs⟩ := aJ hs
 refine aM Ko rfl rfl (CJ _ BE (fun _ h => h.elim) wZ Gz GA (h.Cq (N := gN) (R' := eG) 240 241 rfl rfl (by decide) rfl Cm) (h.Cq (N := (iI Val)) (R' := (oN bM)) 242 243 rfl rfl (by decide) rfl G5) (⟨rG, xZ, y6.1, qa.1⟩ : LX.State) v51 v138 (eY.TS (h.dE 16 rfl)) (eY.TS (h.dE 33 rfl)) _ ND) ?_
 rintro _ w ⟨GD, rfl⟩
 refine ⟨_, rfl, ?_⟩
 replace h := h.grow GD
 replace Fg := Fg.trans GD
 refine aB (uE Fg (Ai 4 Fg rfl (by kernel_rfl) (fun w hk => fU rfl) (Bh (by kernel_rfl) (aj (aG hs rfl (fun c175 hs => ?_) (fun c175 hs => ?_))))))
 refine nG (aa (ek (pv := []) (out := [(.slice none 0 0), (.slice none 0 0), (I6 0), (I6 0)]) vg rfl rfl) (dS (vs := [(.slice none 0 0), (.slice none 0 0), (I6 0), (I6 0)]) h 3 [(.slice none 0 0), (.slice none 0 0), (I6 0), (I6 0)] rfl cO rfl rfl rfl rfl rfl (ai rfl (ai rfl (ai rfl (ai rfl aZ)))) fun w h => aa (ae (v := (I6 4)) rfl) (nR (ax (Ag (vs := [(.slice none 0 0), (.slice none 0 0), (I6 0), (I6 0)]) (v2 := (I6 4)) Tryz.results15 rfl rfl h 3 rfl cO rfl ?_)))))
 obtain rfl := gM hs
 exact ⟨h.grown, _, _, rfl, eY.nil, eY.nil⟩
 refine nS (aa (fu (vs := [v51, v138, (I6 y6.1), (I6 qa.1)]) h 5 rfl cO rfl rfl rfl) (dS (vs := [v51, v138, (I6 y6.1), (I6 qa.1)]) h 3 [v51, v138, (I6 y6.1), (I6 qa.1)] rfl cO rfl rfl rfl rfl rfl (ai (h.fD 16 rfl).one (ai (h.fD 33 rfl).one (ai rfl (ai rfl aZ)))) fun w h => aa (ae (v := (I6 0)) rfl) (nR (Ag (vs := [v51, v138, (I6 y6.1), (I6 qa.1)]) (v2 := (I6 0)) Tryz.results15 rfl rfl h 3 rfl cO rfl ?_))))
 replace h := h.freeze 16 rfl
 replace h := h.freeze 33 rfl
 obtain rfl := gM hs
 exact ⟨h.grown, _, _, rfl, h.Om 16 rfl, h.Om 33 rfl⟩
def kD (N : Nat) : Option Bool :=
  (jq N).bind fun y1 => (vO N y1).bind fun y7 => (PT y7).bind fun y13 => (uU N y7 y13.1).bind fun y21 => (oL N y7 y21.1).bind fun y27 => gD (jg ((y21.1.length : Int) - 1)) ((sub? y21.1 0 (max 0 ((y21.1.length : Int) - 1))).bind fun qf => (oL N y7 qf).bind fun A9 => bif (((decide ((y13.2 : Int) = 0) && decide ((y21.2 : Int) = 0)) && decide ((y27.2 : Int) = 0)) && decide ((A9.2 : Int) = 8)) then (xX y13.1 y27.1).bind fun qp => some qp else some false)
theorem tT (N : Nat) (w0 : World) (M : BS) (hM : ∀ b, M b → b < w0.heap.size) (hT : sM Tryz.prog 4 w0)  (r : Bool) (hs : kD N = some r) :
    Calls Tryz.prog 14 #[] w0 (fun e w' => Grow w0 w' ∧ e = .returned (.bool r)) := by
 refine aH (args := []) Tryz.func14 rfl Tryz.ntmps14 (bB rfl) ?_
 have h := SH.init hM
 refine nG (aa (ae (v := (.bool (false))) rfl) (nJ ?_))
 obtain ⟨y1, e2, hs⟩ := aJ hs
 refine aM TY rfl rfl (ym N _ _ h.lt (hT.go h.keep)  _ e2) ?_
 rintro _ w ⟨k6, u3, rfl, g4, g5⟩
 refine ⟨_, rfl, ?_⟩
 replace h := h.jv 1 k6 g4 g5
 obtain ⟨y7, e8, hs⟩ := aJ hs
 refine aM TW rfl rfl (zU N _ _ h.lt u3 y1 (h.dE 1 rfl) _ e8) ?_
 rintro _ w ⟨k12, u9, rfl, g10, g11⟩
 refine ⟨_, rfl, ?_⟩
 replace h := h.jv 2 k12 g10 g11
 refine aa (ae (v := u9) rfl) (nJ (aa (ag (v := u9) rfl) ?_))
 obtain ⟨y13, e14, hs⟩ := aJ hs
 refine aM TV rfl rfl (PU _ _ h.lt u9 y7 (h.dE 2 rfl) _ e14) ?_
 rintro _ w ⟨k19, A8, Dx, rfl, g16, g18⟩
 refine ⟨_, rfl, ?_⟩
 replace h := h.Bc 3 k19 g16
 replace h := h.bD 4 g18.up
 refine aa (ag (v := (.tuple #[(.agg #[A8, Dx, (I6 y13.1.status), (I6 y13.1.bN)]), (I6 y13.2)])) rfl) (aa (bz rfl rfl) (aa (bz rfl rfl) (bL h 5 cO fun w b20 h => dS (vs := [A8, Dx, (I6 y13.1.status), (I6 y13.1.bN)]) h 5 [A8, Dx, (I6 y13.1.status), (I6 y13.1.bN)] rfl cO rfl rfl rfl rfl rfl (ai (h.fq 3 rfl).one (ai (h.fq 4 rfl).one (ai rfl (ai rfl aZ)))) fun w h => aa (ae (v := (I6 y13.2)) rfl) (nJ (aa (ag (v := u9) rfl) (aa (fu (vs := [A8, Dx, (I6 y13.1.status), (I6 y13.1.bN)]) h 5 rfl cO rfl rfl rfl) ?_))))))
 obtain ⟨y21, e22, hs⟩ := aJ hs
 refine aM La rfl rfl (zf N _ _ h.lt u9 y7 (h.dE 2 rfl) y13.1 A8 Dx (h.mY 3 rfl) (h.mY 4 rfl) _ e22) ?_
 rintro _ w ⟨k26, u23, rfl, g24, Uj⟩
 refine ⟨_, rfl, ?_⟩
 replace h := h.jv 6 k26 g24 Uj
 refine aa (ag (v := (.tuple #[u23, (I6 y21.2)])) rfl) (aa (bz rfl rfl) (aa (bz rfl rfl) (aa (ae (v := u23) rfl) (aa (ae (v := (I6 y21.2)) rfl) (nJ (aa (ag (v := u9) rfl) (aa (ag (v := u23) rfl) ?_)))))))
 replace h := h.freeze 6 rfl
 obtain ⟨y27, e28, hs⟩ := aJ hs
 refine aM Im rfl rfl (sF N _ _ h.lt u9 y7 (h.dE 2 rfl) u23 y21.1 (h.fq 6 rfl) _ e28) ?_
 rintro _ w ⟨NY, u29, u31, rfl, g30, UL⟩
 refine ⟨_, rfl, ?_⟩
 replace h := h.Bc 7 NY g30
 replace h := h.bD 8 UL.up
 refine aa (ag (v := (.tuple #[(.agg #[u29, u31, (I6 y27.1.status), (I6 y27.1.bN)]), (I6 y27.2)])) rfl) (aa (bz rfl rfl) (aa (bz rfl rfl) (bL h 9 cO fun w Yd h => dS (vs := [u29, u31, (I6 y27.1.status), (I6 y27.1.bN)]) h 9 [u29, u31, (I6 y27.1.status), (I6 y27.1.bN)] rfl cO rfl rfl rfl rfl rfl (ai (h.fq 7 rfl).one (ai (h.fq 8 rfl).one (ai rfl (ai rfl aZ)))) fun w h => aa (ae (v := (I6 y27.2)) rfl) (nJ (aa (ag (v := u9) rfl) (aa (ag (v := u23) rfl) (aa (ag (v := u23) rfl) (aa (bC bP rfl (h.mY 6 rfl)) ?_))))))))
 obtain ⟨a35, hs⟩ := aW hs
 refine aa (sG rfl rfl a35) (aa (Sm rfl rfl) ?_)
 obtain ⟨qf, e37, hs⟩ := aJ hs
 obtain ⟨e40, PQ, PR, e40c⟩ := IC e37
 obtain ⟨u38, h, i39⟩ := h.Yn 6 10 rfl bP rfl PQ PR e40c
 rw [← e40] at h
 refine aa (i39 _ _ _ _ _ _ _ _ _ _ rfl (.inl ⟨rfl, rfl⟩) (.inr (congrArg some rfl))) ?_
 obtain ⟨A9, e42, hs⟩ := aJ hs
 refine aM Im rfl rfl (sF N _ _ h.lt u9 y7 (h.dE 2 rfl) u38 qf (h.fq 10 rfl) _ e42) ?_
 rintro _ w ⟨k47, u43, u45, rfl, g44, g46⟩
 refine ⟨_, rfl, ?_⟩
 replace h := h.Bc 11 k47 g44
 replace h := h.bD 12 g46.up
 refine aa (ag (v := (.tuple #[(.agg #[u43, u45, (I6 A9.1.status), (I6 A9.1.bN)]), (I6 A9.2)])) rfl) (aa (bz rfl rfl) (aa (bz rfl rfl) (bL h 13 cO fun w b48 h => dS (vs := [u43, u45, (I6 A9.1.status), (I6 A9.1.bN)]) h 13 [u43, u45, (I6 A9.1.status), (I6 A9.1.bN)] rfl cO rfl rfl rfl rfl rfl (ai (h.fq 11 rfl).one (ai (h.fq 12 rfl).one (ai rfl (ai rfl aZ)))) fun w h => aa (ae (v := (I6 A9.2)) rfl) (nJ (aa (ag (v := (I6 y13.2)) rfl) (aa (bH rfl rfl) (aa (ag (v := (.bool (decide ((y13.2 : Int) = 0)))) rfl) (aA rfl rfl (fun q => ag (v := (I6 y21.2)) rfl) (aA rfl rfl (fun q => bH (bZ q) rfl) (aa (gG rfl rfl mX) (aa (ag (v := (.bool ((decide ((y13.2 : Int) = 0) && decide ((y21.2 : Int) = 0))))) rfl) (aA rfl rfl (fun q => ag (v := (I6 y27.2)) rfl) (aA rfl rfl (fun q => bH (bZ q) rfl) (aa (gG rfl rfl mX) (aa (ag (v := (.bool (((decide ((y13.2 : Int) = 0) && decide ((y21.2 : Int) = 0)) && decide ((y27.2 : Int) = 0))))) rfl) (aA rfl rfl (fun q => ag (v := (I6 A9.2)) rfl) (aA rfl rfl (fun q => bH (bZ q) rfl) (aa (gG rfl rfl mX) ?_))))))))))))))))))
 refine aa (ag (v := (.bool ((((decide ((y13.2 : Int) = 0) && decide ((y21.2 : Int) = 0)) && decide ((y27.2 : Int) = 0)) && decide ((A9.2 : Int) = 8))))) rfl) (mi (b := (((decide ((y13.2 : Int) = 0) && decide ((y21.2 : Int) = 0)) && decide ((y27.2 : Int) = 0)) && decide ((A9.2 : Int) = 8))) hs (fun c49 hs => ?_) (fun c49 hs => ?_))
 refine dB rfl (cB c49) (aa (fu (vs := [A8, Dx, (I6 y13.1.status), (I6 y13.1.bN)]) h 5 rfl cO rfl rfl rfl) (dB rfl (cB c49) (aa (fu (vs := [u29, u31, (I6 y27.1.status), (I6 y27.1.bN)]) h 9 rfl cO rfl rfl rfl) (dB rfl (cB c49) ?_))))
 obtain ⟨qp, e51, hs⟩ := aJ hs
 refine aM Ko rfl rfl (CJ _ _ h.lt y13.1 A8 Dx (h.mY 3 rfl) (h.mY 4 rfl) y27.1 u29 u31 (h.mY 7 rfl) (h.mY 8 rfl) _ e51) ?_
 rintro _ w ⟨YH, rfl⟩
 refine ⟨_, rfl, ?_⟩
 replace h := h.grow YH
 refine aa (fo (b := true) (v := (.bool (qp))) (cB c49) rfl) (aa (ae (v := (.bool (qp))) rfl) (nR (bE (v := (.bool (qp))) Tryz.results14 rfl ?_)))
 obtain rfl := gM hs
 exact ⟨h.grown, rfl⟩
 refine uZ rfl (cB c49) rfl (uZ rfl (cB c49) rfl (uZ rfl (cB c49) rfl (aa (fo (b := false) (v := (.bool (false))) (cB c49) rfl) (aa (ae (v := (.bool (false))) rfl) (nR (bE (v := (.bool (false))) Tryz.results14 rfl ?_))))))
 obtain rfl := gM hs
 exact ⟨h.grown, rfl⟩
theorem AX (w0 : World) (M : BS) (hM : ∀ b, M b → b < w0.heap.size) (va : Value) (a : List Int) (ha : eY cu w0 BE M va a) (r : List Int) (hs : clone 8 a = some r) :
    Calls Tryz.prog 17 #[va] w0 (fun e w' => Grow w0 w' ∧ ∃ u0, e = .returned u0 ∧ dC cu 3 w' M u0 r ∧ (∀ b, ob u0 b → w0.heap.size ≤ b)) := by
  obtain ⟨hr, hs⟩ := aW hs
  cases hs
  refine aH (args := [va]) Tryz.func17 rfl Tryz.ntmps17 (bB rfl) ?_
  have h := (SH.init hM).dR 1 ha aT
  refine nG (aa (ae rfl) (nN ?_))
  refine aK (nG (aa (ag rfl) (aa (DI bP rfl (h.fT 1 rfl) rfl) (nN ?_))))
  refine gF rfl (fun c => ?_) (fun c => ?_)
  · obtain ⟨c1, c2⟩ := uB (h.fT 1 rfl) c
    refine nG (aa (ae rfl) (nR (ax ?_)))
    refine bE (v := .slice none 0 0) Tryz.results17 rfl ?_
    rw [c2]
    exact ⟨h.grown, _, rfl, dC.nil, kX⟩
  · refine aF (aj ?_)
    refine nG ?_
    refine pK (R := cu) (vs := []) (xs := []) h 2 fM rfl rfl rfl trivial rfl fun w u h => ?_
    refine aa (ag rfl) ?_
    refine jm (R := cu) (m := a) h 2 rfl (h.fT 1 rfl) fM rfl rfl rfl hr.1 hr.2 fun w u h => ?_
    refine aa (ae rfl) (nR ?_)
    refine bE (v := u) Tryz.results17 rfl ?_
    exact ⟨h.grown, _, rfl, (h.kM 2 rfl).1, (h.kM 2 rfl).2⟩
def oM (N : Nat) (a : List bR) (b : LX.State) (c : LX.State) (d : Int) (e : Int) : Option Bool :=
  (uU N a b).bind fun y3 => (kD N).bind fun y9 => bif ((!y9) || decide ((y3.2 : Int) ≠ 0)) then (kD N).bind fun y13 => some y13 else (ry d (y3.1.length : Int)).bind fun y16 => (sub? y3.1 0 y16).bind fun yx => (oL N a yx).bind fun y24 => bif decide ((y24.2 : Int) = 0) then some false else (clone 8 y3.1).bind fun FK => gD (Room 8 FK [e]) ((oL N a (FK ++ [e])).bind fun nL => bif decide ((nL.2 : Int) = 0) then some false else (uU N a c).bind fun R4 => bif decide ((R4.2 : Int) ≠ 0) then some true else (slices_Equal_int y3.1 R4.1).bind fun zg => (tO N b).bind fun zh => (tO N c).bind fun zi => (xX zh zi).bind fun xh => some (zg == xh))
theorem yc (N : Nat) (w0 : World) (M : BS) (hM : ∀ b, M b → b < w0.heap.size) (hT : sM Tryz.prog 4 w0) (va : Value) (a : List bR) (ha : eY lH w0 BE M va a) (b : LX.State) (vb0 vb1 : Value) (hb0 : eY eG w0 BE M vb0 b.frames) (hb1 : eY (oN bM) w0 BE M vb1 b.cells) (c : LX.State) (Tg Ti : Value) (hc0 : eY eG w0 BE M Tg c.frames) (hc1 : eY (oN bM) w0 BE M Ti c.cells) (d : Int) (e : Int) (r : Bool) (hs : oM N a b c d e = some r) :
    Calls Tryz.prog 3 #[va, (.agg #[vb0, vb1, (I6 b.status), (I6 b.bN)]), (.agg #[Tg, Ti, (I6 c.status), (I6 c.bN)]), (I6 d), (I6 e)] w0 (fun e w' => Grow w0 w' ∧ e = .returned (.bool r)) := by
 refine aH (args := [va, (.agg #[vb0, vb1, (I6 b.status), (I6 b.bN)]), (.agg #[Tg, Ti, (I6 c.status), (I6 c.bN)]), (I6 d), (I6 e)]) Tryz.func3 rfl Tryz.ntmps3 (bB rfl) ?_
 have h := SH.init hM
 replace h := h.dR 1 ha aT
 replace h := h.dR 2 hb0 (bA aT)
 replace h := h.dR 3 hb1 (bA (bA aT))
 replace h := h.dR 4 hc0 (bA (bA (bA aT)))
 replace h := h.dR 5 hc1 (bA (bA (bA (bA aT))))
 have tZ := ha.bG
 refine nG (ql (cs := [vb0, vb1, (I6 b.status), (I6 b.bN)]) h 6 rfl rfl fun w b1 h => ql (cs := [Tg, Ti, (I6 c.status), (I6 c.bN)]) h 7 rfl rfl fun w b2 h => aa (ae (v := (.bool (false))) rfl) (nJ (aa (ag (v := va) rfl) (aa (fu (vs := [vb0, vb1, (I6 b.status), (I6 b.bN)]) h 6 rfl cO rfl rfl rfl) ?_))))
 obtain ⟨y3, e4, hs⟩ := aJ hs
 refine aM La rfl rfl (zf N _ _ h.lt va a (h.fT 1 rfl) b vb0 vb1 (h.fT 2 rfl) (h.fT 3 rfl) _ e4) ?_
 rintro _ w ⟨k8, u5, rfl, g6, g7⟩
 refine ⟨_, rfl, ?_⟩
 replace h := h.jv 8 k8 g6 g7
 refine aa (ag (v := (.tuple #[u5, (I6 y3.2)])) rfl) (aa (bz rfl rfl) (aa (bz rfl rfl) (aa (ae (v := u5) rfl) (aa (ae (v := (I6 y3.2)) rfl) (nK ?_)))))
 obtain ⟨y9, e10, hs⟩ := aJ hs
 refine aM Qx rfl rfl (tT N _ _ h.lt (hT.go h.keep)  _ e10) ?_
 rintro _ w ⟨k11, rfl⟩
 refine ⟨_, rfl, ?_⟩
 replace h := h.grow k11
 refine aa (fU rfl) (aa (ag (v := (.bool ((!y9)))) rfl) (aA rfl rfl (fun q => ag (v := (I6 y3.2)) rfl) (aA rfl rfl (fun q => iK (bZ q) rfl) (aa (gK rfl rfl mX) (nN (aG hs rfl (fun c12 hs => ?_) (fun c12 hs => ?_)))))))
 refine nG ?_
 obtain ⟨y13, e14, hs⟩ := aJ hs
 refine aM Qx rfl rfl (tT N _ _ h.lt (hT.go h.keep)  _ e14) ?_
 rintro _ w ⟨k15, rfl⟩
 refine ⟨_, rfl, ?_⟩
 replace h := h.grow k15
 refine aa (ae (v := (.bool (y13))) rfl) (nR (ax (bE (v := (.bool (y13))) Tryz.results3 rfl ?_)))
 obtain rfl := gM hs
 exact ⟨h.grown, rfl⟩
 refine aF (aj (aK (nG (aa (ag (v := va) rfl) (aa (ag (v := u5) rfl) (aa (ag (v := (I6 d)) rfl) (aa (ag (v := u5) rfl) (aa (bC bP rfl (h.dE 8 rfl)) ?_))))))))
 obtain ⟨y16, e17, hs⟩ := aJ hs
 refine aM TT rfl rfl (CK _ _ h.lt d (y3.1.length : Int) _ e17) ?_
 rintro _ w ⟨k18, rfl⟩
 refine ⟨_, rfl, ?_⟩
 replace h := h.grow k18
 obtain ⟨yx, e20, hs⟩ := aJ hs
 obtain ⟨e23, UN, UO, e23c⟩ := IC e20
 replace h := h.freeze 8 rfl
 obtain ⟨u21, h, i22⟩ := h.Yn 8 9 rfl bP rfl UN UO e23c
 rw [← e23] at h
 refine aa (i22 _ _ _ _ _ _ _ _ _ _ rfl (.inl ⟨rfl, rfl⟩) (.inr (congrArg some rfl))) ?_
 obtain ⟨y24, e25, hs⟩ := aJ hs
 refine aM Im rfl rfl (sF N _ _ h.lt va a (h.fT 1 rfl) u21 yx (h.fq 9 rfl) _ e25) ?_
 rintro _ w ⟨Wh, u26, u28, rfl, g27, g29⟩
 refine ⟨_, rfl, ?_⟩
 replace h := h.Bc 10 Wh g27
 replace h := h.bD 11 g29.up
 refine aa (ag (v := (.tuple #[(.agg #[u26, u28, (I6 y24.1.status), (I6 y24.1.bN)]), (I6 y24.2)])) rfl) (aa (bz rfl rfl) (aa (bz rfl rfl) (bL h 12 cO fun w b31 h => dS (vs := [u26, u28, (I6 y24.1.status), (I6 y24.1.bN)]) h 12 [u26, u28, (I6 y24.1.status), (I6 y24.1.bN)] rfl cO rfl rfl rfl rfl rfl (ai (h.fq 10 rfl).one (ai (h.fq 11 rfl).one (ai rfl (ai rfl aZ)))) fun w h => aa (ae (v := (I6 y24.2)) rfl) (nJ (aa (ag (v := (I6 y24.2)) rfl) (aa (bH rfl rfl) (nN (aG hs rfl (fun c32 hs => ?_) (fun c32 hs => ?_)))))))))
 refine nG (aa (ae (v := (.bool (false))) rfl) (nR (ax (bE (v := (.bool (false))) Tryz.results3 rfl ?_))))
 obtain rfl := gM hs
 exact ⟨h.grown, rfl⟩
 refine aF (aj (aK (nG (aa (ag (v := va) rfl) (aa (ag (v := u5) rfl) ?_)))))
 obtain ⟨FK, e34, hs⟩ := aJ hs
 refine aM U8 rfl rfl (AX _ _ h.lt u5 y3.1 (h.mY 8 rfl) _ e34) ?_
 rintro _ w ⟨RD, u35, rfl, g36, g37⟩
 refine ⟨_, rfl, ?_⟩
 replace h := h.jv 13 RD g36 g37
 refine aa (ag (v := (I6 e)) rfl) (pK (R := cu) (vs := [(I6 e)]) (xs := [e]) h 14 fM rfl rfl rfl ⟨rfl, trivial⟩ rfl fun w QU h => ?_)
 obtain ⟨a40, hs⟩ := aW hs
 refine jm (R := cu) (m := [e]) h 13 rfl (h.dE 14 rfl) fM rfl rfl rfl a40.1 a40.2 fun w Ye h => ?_
 replace h := h.freeze 13 rfl
 obtain ⟨nL, e43, hs⟩ := aJ hs
 refine aM Im rfl rfl (sF N _ _ h.lt va a (h.fT 1 rfl) Ye (FK ++ [e]) (h.fq 13 rfl) _ e43) ?_
 rintro _ w ⟨k48, u44, u46, rfl, g45, g47⟩
 refine ⟨_, rfl, ?_⟩
 replace h := h.Bc 15 k48 g45
 replace h := h.bD 16 g47.up
 refine aa (ag (v := (.tuple #[(.agg #[u44, u46, (I6 nL.1.status), (I6 nL.1.bN)]), (I6 nL.2)])) rfl) (aa (bz rfl rfl) (aa (bz rfl rfl) (bL h 17 cO fun w b49 h => dS (vs := [u44, u46, (I6 nL.1.status), (I6 nL.1.bN)]) h 17 [u44, u46, (I6 nL.1.status), (I6 nL.1.bN)] rfl cO rfl rfl rfl rfl rfl (ai (h.fq 15 rfl).one (ai (h.fq 16 rfl).one (ai rfl (ai rfl aZ)))) fun w h => aa (ae (v := (I6 nL.2)) rfl) (nJ (aa (ag (v := (I6 nL.2)) rfl) (aa (bH rfl rfl) (nN (aG hs rfl (fun c50 hs => ?_) (fun c50 hs => ?_)))))))))
 refine nG (aa (ae (v := (.bool (false))) rfl) (nR (ax (bE (v := (.bool (false))) Tryz.results3 rfl ?_))))
 obtain rfl := gM hs
 exact ⟨h.grown, rfl⟩
 refine nS (aa (ag (v := va) rfl) (aa (fu (vs := [Tg, Ti, (I6 c.status), (I6 c.bN)]) h 7 rfl cO rfl rfl rfl) ?_))
 obtain ⟨R4, e52, hs⟩ := aJ hs
 refine aM La rfl rfl (zf N _ _ h.lt va a (h.fT 1 rfl) c Tg Ti (h.fT 4 rfl) (h.fT 5 rfl) _ e52) ?_
 rintro _ w ⟨k56, u53, rfl, g54, g55⟩
 refine ⟨_, rfl, ?_⟩
 replace h := h.jv 18 k56 g54 g55
 refine aa (ag (v := (.tuple #[u53, (I6 R4.2)])) rfl) (aa (bz rfl rfl) (aa (bz rfl rfl) (aa (ae (v := u53) rfl) (aa (ae (v := (I6 R4.2)) rfl) (nN (aK (DJ mixed h fun w h => ma 0 (aO.refl BE _) rfl ay (by kernel_rfl) (by kernel_rfl) (by kernel_rfl) (fun w hk => ag (v := (I6 R4.2)) rfl) (ma 1 (aO.refl BE _) rfl ay (by kernel_rfl) (by kernel_rfl) (by kernel_rfl) (fun w hk => iK rfl rfl) (ma 2 (aO.refl BE _) rfl ay (by kernel_rfl) (by kernel_rfl) (by kernel_rfl) (fun w hk => ag (v := (.bool (decide ((R4.2 : Int) ≠ 0)))) rfl) (mi (b := decide ((R4.2 : Int) ≠ 0)) hs (fun Er hs => ?_) (fun Er hs => ?_)))))))))))
 refine uD 3 (aO.refl BE _) rfl (qH (b' := true) rfl (cB Er) rfl) (by kernel_rfl) (by kernel_rfl) (by kernel_rfl) (uD 4 (aO.refl BE _) rfl (qH (b' := true) rfl (cB Er) rfl) (by kernel_rfl) (by kernel_rfl) (by kernel_rfl) (uD 5 (aO.refl BE _) rfl (qH (b' := true) rfl (cB Er) rfl) (by kernel_rfl) (by kernel_rfl) (by kernel_rfl) (uD 6 (aO.refl BE _) rfl (qH (b' := true) rfl (cB Er) rfl) (by kernel_rfl) (by kernel_rfl) (by kernel_rfl) (uD 7 (aO.refl BE _) rfl (qH (b' := true) rfl (cB Er) rfl) (by kernel_rfl) (by kernel_rfl) (by kernel_rfl) (uD 8 (aO.refl BE _) rfl (qH (b' := true) rfl (cB Er) rfl) (by kernel_rfl) (by kernel_rfl) (by kernel_rfl) (uD 9 (aO.refl BE _) rfl (qH (b' := true) rfl (cB Er) rfl) (by kernel_rfl) (by kernel_rfl) (by kernel_rfl) (uD 10 (aO.refl BE _) rfl (qH (b' := true) rfl (cB Er) rfl) (by kernel_rfl) (by kernel_rfl) (by kernel_rfl) (uD 11 (aO.refl BE _) rfl (qH (b' := true) rfl (cB Er) rfl) (by kernel_rfl) (by kernel_rfl) (by kernel_rfl) (ma 12 (aO.refl BE _) rfl ay (by kernel_rfl) (by kernel_rfl) (by kernel_rfl) (fun w hk => fo (b := true) (v := (.bool (true))) (cB Er) rfl) (ma 13 (aO.refl BE _) rfl ay (by kernel_rfl) (by kernel_rfl) (by kernel_rfl) (fun w hk => ae (v := (.bool (true))) rfl) (Bh (by kernel_rfl) (aj (Ka (bE (v := (.bool (true))) Tryz.results3 rfl ?_))))))))))))))
 obtain rfl := gM hs
 exact ⟨h.grown, rfl⟩
 refine ma 3 (aO.refl BE _) rfl (uC rfl (cB Er)) (by kernel_rfl) (by kernel_rfl) (by kernel_rfl) (fun w hk => ag (v := u5) rfl) (ma 4 (aO.refl BE _) rfl (uC rfl (cB Er)) (by kernel_rfl) (by kernel_rfl) (by kernel_rfl) (fun w hk => ag (v := u53) rfl) (ma 6 (aO.refl BE _) rfl (uC rfl (cB Er)) (by kernel_rfl) (by kernel_rfl) (by kernel_rfl) (fun w hk => have h := h.grow hk; fu (vs := [vb0, vb1, (I6 b.status), (I6 b.bN)]) h 6 rfl cO rfl rfl rfl) (ma 8 (aO.refl BE _) rfl (uC rfl (cB Er)) (by kernel_rfl) (by kernel_rfl) (by kernel_rfl) (fun w hk => have h := h.grow hk; fu (vs := [Tg, Ti, (I6 c.status), (I6 c.bN)]) h 7 rfl cO rfl rfl rfl) ?_)))
 obtain ⟨ws59, Tj⟩ : ∃ x, x = w := ⟨_, rfl⟩
 have AY : Grow ws59 w := Tj ▸ aO.refl BE w
 refine LJ Tj.symm (xy 5 (by kernel_rfl) rfl (uC rfl (cB Er)) ?_)
 obtain ⟨zg, QG, hs⟩ := aJ hs
 refine aM TU rfl rfl (AA _ _ h.lt u5 y3.1 (h.mY 8 rfl) u53 R4.1 (h.dE 18 rfl) _ QG) ?_
 rintro _ w ⟨JW, rfl⟩
 refine ⟨_, rfl, ?_⟩
 replace h := h.grow JW
 replace AY := AY.trans JW
 refine aB (uE AY (xy 7 (by kernel_rfl) rfl (uC rfl (cB Er)) ?_))
 obtain ⟨zh, QH, hs⟩ := aJ hs
 refine aM Hm rfl rfl (xV N _ _ h.lt b vb0 vb1 (h.fT 2 rfl) (h.fT 3 rfl) _ QH) ?_
 rintro _ w ⟨JX, JY, JZ, NF, NG, rfl, QI, QJ⟩
 refine ⟨_, rfl, ?_⟩
 replace h := h.IZ 103 (C := (cU JY JZ zh.frames NF zh.cells NG)) JX ⟨⟨⟨trivial, trivial⟩, trivial⟩, trivial⟩ QI QJ
 replace h := h.iX 103 106 (by decide) rfl rfl
 replace h := h.iX 103 105 (by decide) rfl rfl
 replace h := h.iX 103 104 (by decide) rfl rfl
 replace AY := AY.trans JX
 refine aB (uE AY (xy 9 (by kernel_rfl) rfl (uC rfl (cB Er)) ?_))
 obtain ⟨zi, QK, hs⟩ := aJ hs
 refine aM Hm rfl rfl (xV N _ _ h.lt c Tg Ti (h.fT 4 rfl) (h.fT 5 rfl) _ QK) ?_
 rintro _ w ⟨J2, J3, J4, NH, NI, rfl, QL, QM⟩
 refine ⟨_, rfl, ?_⟩
 replace h := h.IZ 127 (C := (cU J3 J4 zi.frames NH zi.cells NI)) J2 ⟨⟨⟨trivial, trivial⟩, trivial⟩, trivial⟩ QL QM
 replace h := h.iX 127 130 (by decide) rfl rfl
 replace h := h.iX 127 129 (by decide) rfl rfl
 replace h := h.iX 127 128 (by decide) rfl rfl
 replace AY := AY.trans J2
 refine aB (uE AY (xy 10 (by kernel_rfl) rfl (uC rfl (cB Er)) ?_))
 obtain ⟨xh, NJ, hs⟩ := aJ hs
 refine aM Ko rfl rfl (CJ _ BE (fun _ h => h.elim) zh JY JZ (h.Cq (N := gN) (R' := eG) 103 104 rfl rfl (by decide) rfl Cm) (h.Cq (N := (iI Val)) (R' := (oN bM)) 105 106 rfl rfl (by decide) rfl G5) zi J3 J4 (h.Cq (N := gN) (R' := eG) 127 128 rfl rfl (by decide) rfl Cm) (h.Cq (N := (iI Val)) (R' := (oN bM)) 129 130 rfl rfl (by decide) rfl G5) _ NJ) ?_
 rintro _ w ⟨GG, rfl⟩
 refine ⟨_, rfl, ?_⟩
 replace h := h.grow GG
 replace AY := AY.trans GG
 refine aB (uE AY (ma 11 AY rfl (uC rfl (cB Er)) (by kernel_rfl) (by kernel_rfl) (by kernel_rfl) (fun w hk => Tn Tryz.underlying4 rfl rfl) (Ai 12 AY rfl (by kernel_rfl) (fun w hk => fo (b := false) (v := (.bool ((zg == xh)))) (cB Er) rfl) (Ai 13 AY rfl (by kernel_rfl) (fun w hk => ae (v := (.bool ((zg == xh)))) rfl) (Bh (by kernel_rfl) (aj (Ka (bE (v := (.bool ((zg == xh)))) Tryz.results3 rfl ?_))))))))
 obtain rfl := gM hs
 exact ⟨h.grown, rfl⟩
end
end Go.Proofs.YtfclkapelkhlpaaGreatDoor
namespace Go.Proofs.YtfclkapelkhlpaaGreatDoor
open Go Go.Proofs Go.LX
theorem NK : kD NN = some true := by
  unfold kD
  rw [Nq]
  kernel_rfl
end Go.Proofs.YtfclkapelkhlpaaGreatDoor
namespace Go.Proofs.YtfclkapelkhlpaaGreatDoor
open Go Go.Proofs Go.LX
def GH (l : List Val) : List Int := l.flatMap fun v => [v.kind, v.n]
def rowP (l : List Val) : List Int := (l.length : Int) :: GH l
def NL (f : LX.Frame) : List Int := f.proc :: f.at_ :: f.kL :: rowP f.regs
def uz (s : LX.State) : List Int := s.status :: s.bN :: (s.frames.length : Int) :: (s.frames.flatMap NL ++ (s.cells.length : Int) :: s.cells.flatMap rowP)
def FR (α : Type) := List Int → Option (α × List Int)
structure Reads {α : Type} (R : FR α) : Prop where
  out : ∀ l x r, R l = some (x, r) → ∃ u, l = u ++ r ∧ (∀ t, R (u ++ t) = some (x, t)) ∧ ∀ v w, v ++ w = u → w ≠ [] → R v = none
def nz {α : Type} (x : α) : FR α := fun l => some (x, l)
def dI {α β : Type} (R : FR α) (f : α → FR β) : FR β := fun l => (R l).bind fun q => f q.1 q.2
def uS : FR Int := fun l => match l with
  | [] => none
  | x :: r => some (x, r)
def kE (m : Int) : FR Nat := fun l => match l with
  | [] => none
  | x :: r => if 0 ≤ x ∧ x ≤ m then some (x.toNat, r) else none
def fQ {α : Type} (R : FR α) : Nat → FR (List α)
  | 0 => nz []
  | n + 1 => dI R fun x => dI (fQ R n) fun l => nz (x :: l)
theorem Reads.pure {α : Type} (x : α) : Reads (nz x) := ⟨fun l y r h => by
  cases h
  exact ⟨[], rfl, fun t => rfl, fun v w h hw => absurd (List.append_eq_nil_iff.1 h).2 hw⟩⟩
theorem Reads.num : Reads uS := ⟨fun l y r h => by
  cases l with
  | nil => cases h
  | cons a l => cases h; exact ⟨[y], rfl, fun t => rfl, fun v w h hw => by
      cases v with
      | nil => rfl
      | cons b v => simp at h; exact absurd h.2.2 hw⟩⟩
theorem Reads.many (m : Int) : Reads (kE m) := ⟨fun l y r h => by
  cases l with
  | nil => cases h
  | cons a l =>
    unfold kE at h
    simp only at h
    by_cases hm : 0 ≤ a ∧ a ≤ m
    · rw [if_pos hm] at h
      cases h
      exact ⟨[a], rfl, fun t => by show (if 0 ≤ a ∧ a ≤ m then some (a.toNat, t) else none) = _; rw [if_pos hm], fun v w h hw => by
        cases v with
        | nil => rfl
        | cons b v => simp at h; exact absurd h.2.2 hw⟩
    · rw [if_neg hm] at h; cases h⟩
theorem Reads.bind {α β : Type} {R : FR α} {f : α → FR β} (hR : Reads R) (hf : ∀ x, Reads (f x)) : Reads (dI R f) := ⟨fun l y r h => by
  unfold dI at h
  cases e : R l with
  | none => rw [e] at h; cases h
  | some q =>
    obtain ⟨x, l2⟩ := q
    rw [e, Option.bind_some] at h
    obtain ⟨u, rfl, hu, hn⟩ := hR.out l x l2 e
    obtain ⟨v, rfl, hv, hm⟩ := (hf x).out l2 y r h
    refine ⟨u ++ v, by simp, fun t => ?_, fun p q hp hq => ?_⟩
    · show (R (u ++ v ++ t)).bind _ = _
      rw [List.append_assoc, hu, Option.bind_some, hv]
    · show (R p).bind _ = _
      rcases List.append_eq_append_iff.1 hp with ⟨a, rfl, rfl⟩ | ⟨a, rfl, rfl⟩
      · by_cases ha : a = []
        · subst ha
          rw [List.append_nil] at hu
          have h0 := hu []
          rw [List.append_nil] at h0
          have : R p = some (x, []) := by simpa using h0
          rw [this, Option.bind_some]
          exact hm [] v rfl (by simpa using hq)
        · rw [hn p a rfl ha]; rfl
      · rw [hu, Option.bind_some]
        exact hm a q rfl hq⟩
theorem Reads.times {α : Type} {R : FR α} (hR : Reads R) : ∀ n, Reads (fQ R n)
  | 0 => Reads.pure []
  | n + 1 => Reads.bind hR fun x => Reads.bind (Reads.times hR n) fun l => Reads.pure _
def DY : FR Val := dI uS fun k => dI uS fun n => nz ⟨k, n⟩
def rE (m : Int) : FR (List Val) := dI (kE m) fun n => fQ DY n
def AZ : FR LX.Frame := dI uS fun p => dI uS fun a => dI uS fun t => dI (rE 40) fun r => nz ⟨p, a, r, t⟩
def zk : FR LX.State := dI uS fun s => dI uS fun w => dI (kE 10) fun n => dI (fQ AZ n) fun f => dI (kE 24) fun k => dI (fQ (rE 4) k) fun c => nz ⟨f, c, s, w⟩
theorem Lp : Reads DY := Reads.num.bind fun _ => Reads.num.bind fun _ => Reads.pure _
theorem Fh (m : Int) : Reads (rE m) := (Reads.many m).bind fun n => Lp.times n
theorem NM : Reads AZ := Reads.num.bind fun _ => Reads.num.bind fun _ => Reads.num.bind fun _ => (Fh 40).bind fun _ => Reads.pure _
theorem NP : Reads zk := Reads.num.bind fun _ => Reads.num.bind fun _ => (Reads.many 10).bind fun n => (NM.times n).bind fun _ => (Reads.many 24).bind fun k => ((Fh 4).times k).bind fun _ => Reads.pure _
theorem yf {α : Type} {R : FR α} {g : α → List Int} : ∀ (l : List α) (t : List Int), (∀ x ∈ l, ∀ t, R (g x ++ t) = some (x, t)) → fQ R l.length (l.flatMap g ++ t) = some (l, t)
  | [], t, _ => rfl
  | x :: l, t, h => by
    show (R (g x ++ l.flatMap g ++ t)).bind _ = _
    rw [List.append_assoc, h x (by simp), Option.bind_some]
    show (fQ R l.length (l.flatMap g ++ t)).bind _ = _
    rw [yf l t (fun y hy => h y (List.mem_cons_of_mem _ hy)), Option.bind_some]
    rfl
theorem J5 {m : Nat} (l : List Val) (h : l.length ≤ m) (t : List Int) : rE m (rowP l ++ t) = some (l, t) := by
  unfold rE dI rowP kE
  simp only [List.cons_append]
  rw [if_pos (by omega), Option.bind_some, Int.toNat_natCast]
  exact yf l t (fun v _ t => rfl)
theorem Vg (f : LX.Frame) (h : f.regs.length ≤ 40) (t : List Int) : AZ (NL f ++ t) = some (f, t) := by
  show ((rE (40 : Nat) (rowP f.regs ++ t)).bind fun q => nz (⟨f.proc, f.at_, q.1, f.kL⟩ : LX.Frame) q.2) = _
  rw [J5 f.regs h]; rfl
theorem Fj {s : LX.State} (h : Small s) (t : List Int) : zk (uz s ++ t) = some (s, t) := by
  have h1 := h.frames
  have h2 := h.cells
  show ((kE 10 ((s.frames.length : Int) :: ((s.frames.flatMap NL ++ (s.cells.length : Int) :: s.cells.flatMap rowP) ++ t))).bind fun q => (fQ AZ q.1 q.2).bind fun q2 => (kE 24 q2.2).bind fun q3 => (fQ (rE 4) q3.1 q3.2).bind fun q4 => nz (⟨q2.1, q4.1, s.status, s.bN⟩ : LX.State) q4.2) = _
  rw [show kE 10 ((s.frames.length : Int) :: ((s.frames.flatMap NL ++ (s.cells.length : Int) :: s.cells.flatMap rowP) ++ t)) = some (s.frames.length, (s.frames.flatMap NL ++ (s.cells.length : Int) :: s.cells.flatMap rowP) ++ t) by
    show (if _ then _ else _) = _
    rw [if_pos (by omega), Int.toNat_natCast], Option.bind_some]
  simp only
  rw [List.append_assoc, yf s.frames _ (fun f hf t => Vg f (h.regs f hf) t), Option.bind_some]
  simp only [List.cons_append]
  rw [show kE 24 ((s.cells.length : Int) :: (s.cells.flatMap rowP ++ t)) = some (s.cells.length, s.cells.flatMap rowP ++ t) by
    show (if _ then _ else _) = _
    rw [if_pos (by omega), Int.toNat_natCast], Option.bind_some]
  simp only
  rw [yf (R := rE 4) (g := rowP) s.cells _ (fun c hc t => J5 (m := 4) c (h.fields c hc) t), Option.bind_some]
  rfl
theorem pack_inj {s t : LX.State} (hs : Small s) (ht : Small t) (h : uz s = uz t) : s = t := by
  have h1 := Fj hs []
  rw [h, Fj ht []] at h1
  cases h1; rfl
theorem CX (l : List Val) : (GH l).length = 2 * l.length := by
  induction l with
  | nil => rfl
  | cons v l ih => show ([v.kind, v.n] ++ GH l).length = _; simp [ih]; omega
theorem J6 (m : Nat) : ∀ l : List (List Val), (∀ c ∈ l, c.length ≤ m) → (l.flatMap rowP).length ≤ (2 * m + 1) * l.length
  | [], _ => by simp
  | c :: l, h => by
    have h1 := h c (by simp)
    have h2 := J6 m l (fun d hd => h d (List.mem_cons_of_mem _ hd))
    rw [List.flatMap_cons, List.length_append]
    unfold rowP
    rw [List.length_cons, CX, List.length_cons, Nat.mul_succ]
    unfold rowP at h2
    omega
theorem Ip : ∀ l : List LX.Frame, (∀ f ∈ l, f.regs.length ≤ 40) → (l.flatMap NL).length ≤ 84 * l.length
  | [], _ => by simp
  | f :: l, h => by
    have h1 := h f (by simp)
    have h2 := Ip l (fun d hd => h d (List.mem_cons_of_mem _ hd))
    rw [List.flatMap_cons, List.length_append]
    unfold NL rowP
    simp only [List.length_cons, CX]
    unfold NL rowP at h2
    omega
theorem J7 {s : LX.State} (h : Small s) : (uz s).length ≤ 1060 := by
  have h1 := J6 4 s.cells h.fields
  have h2 := Ip s.frames h.regs
  have h3 := h.frames
  have h4 := h.cells
  unfold uz
  simp only [List.length_cons, List.length_append]
  omega
end Go.Proofs.YtfclkapelkhlpaaGreatDoor
namespace Go.Proofs.YtfclkapelkhlpaaGreatDoor
open Go Go.Proofs Go.LX
theorem J8 {α ρ : Type} {body : Int → List Int → (List Int → Option ρ) → Option ρ} {K : List Int → Option ρ} {g : α → List Int} {l : List α} {m B : Nat} (hg : ∀ x ∈ l, (g x).length ≤ m)
    (hb : ∀ (i : Nat) (h : i < l.length) acc nx, acc.length ≤ B + m * i → body (i : Int) acc nx = nx (acc ++ g l[i])) :
    ∀ (k i : Nat) (acc : List Int), i + k = l.length → acc.length ≤ B + m * i → upto body K (i : Int) k acc = K (acc ++ (l.drop i).flatMap g)
  | 0, i, acc, h, _ => by rw [List.drop_eq_nil_of_le (by omega)]; simp [upto]
  | k + 1, i, acc, h, hl => by
    have hi : i < l.length := by omega
    rw [CO, hb i hi acc _ hl, show ((i : Int) + 1) = ((i + 1 : Nat) : Int) by omega, J8 hg hb k (i + 1) _ (by omega) (by
      have := hg _ (List.getElem_mem hi)
      rw [List.length_append, Nat.mul_add]; omega), List.drop_eq_getElem_cons hi, List.flatMap_cons, List.append_assoc]
theorem GI {α ρ : Type} {body : Int → List Int → (List Int → Option ρ) → Option ρ} {K : List Int → Option ρ} {g : α → List Int} {l : List α} (m B : Nat) (hg : ∀ x ∈ l, (g x).length ≤ m)
    (hb : ∀ (i : Nat) (h : i < l.length) acc nx, acc.length ≤ B + m * i → body (i : Int) acc nx = nx (acc ++ g l[i])) (acc : List Int) (ha : acc.length ≤ B) : upto body K 0 l.length acc = K (acc ++ l.flatMap g) := by
  have := J8 (K := K) hg hb l.length 0 acc (by omega) (by omega)
  rw [List.drop_zero] at this
  exact this
theorem values_eq : ∀ (l : List Val) (acc : List Int), acc.length + 2 * l.length ≤ 50000 → qB acc l = some (acc ++ GH l)
  | [], acc, _ => by simp [qB, fw, oK, GH]
  | v :: l, acc, h => by
    simp only [List.length_cons] at h
    have ih := values_eq l (acc ++ [v.kind, v.n]) (by simp [-List.length_flatMap]; omega)
    unfold qB at ih ⊢
    rw [cz]
    generalize each oJ oK l = K at ih ⊢
    unfold oJ
    rw [sK (room_le (by simp [-List.length_flatMap]; omega) (by decide)), ih]
    simp [GH]
theorem Mq {c : List Val} {m : Nat} (h : c.length ≤ m) : (rowP c).length ≤ 2 * m + 1 := by
  unfold rowP; rw [List.length_cons, CX]; omega
theorem Vh {f : LX.Frame} (h : f.regs.length ≤ 40) : (NL f).length ≤ 84 := by
  unfold NL
  have := Mq h
  simp only [List.length_cons]; omega
theorem zl {a : List bR} (ha : yZ a) {s : LX.State} (h : FN a s) : Small (lG s) := (Qr ha h).small ha
theorem NQ {s : LX.State} (h : Small s) : upto (rC s) (rD s) 0 ((s.frames.length : Int)).toNat [s.status, s.bN, (s.frames.length : Int)] = some (uz s, 0) := by
  have hF := h.frames
  have hC := h.cells
  have hl := Ip s.frames h.regs
  rw [Int.toNat_natCast, GI (g := NL) (l := s.frames) 84 3 (fun f hf => Vh (h.regs f hf)) (fun i hi acc nx hacc => by
    have hr := h.regs _ (List.getElem_mem hi)
    unfold rC
    rw [xA hi, bnd, sK (room_le (by simp [-List.length_flatMap]; omega) (by decide)), values_eq _ _ (by simp [-List.length_flatMap]; omega), bnd]
    unfold NL rowP
    simp) _ (by simp)]
  unfold rD
  rw [sK (room_le (by simp [-List.length_flatMap]; omega) (by decide)), Int.toNat_natCast, GI (g := rowP) (l := s.cells) 9 1000 (fun c hc => Mq (h.fields c hc)) (fun i hi acc nx hacc => by
    have hr := h.fields _ (List.getElem_mem hi)
    unfold uQ
    rw [xA hi, bnd, sK (room_le (by simp [-List.length_flatMap]; omega) (by decide)), values_eq _ _ (by simp [-List.length_flatMap]; omega), bnd]
    unfold rowP
    simp) _ (by simp [-List.length_flatMap]; omega)]
  unfold uR
  have hp := J7 h
  have e : ([s.status, s.bN, (s.frames.length : Int)] ++ s.frames.flatMap NL ++ [(s.cells.length : Int)] ++ s.cells.flatMap rowP) = uz s := by
    unfold uz; simp
  rw [e, dF (by omega), cond_false]
theorem Cb (a : List bR) (s : LX.State) {N : Nat} (hN : 100 ≤ N) : uU N a s = some (if Nt a ≠ 0 then ([], Nt a) else if Nu a s ≠ 0 then ([], Nu a s) else (uz (lG s), 0)) := by
  unfold uU
  rw [Dl, bnd]
  by_cases h1 : Nt a = 0
  · rw [if_neg (by omega), if_neg (by omega)]
    by_cases h2 : Nu a s = 0
    · have ha := ET h1
      have hs := Ih.1 h2
      rw [dF (by omega), cond_false, BU hN (hs.sw ha), bnd, if_neg (by omega)]
      exact NQ (zl ha hs)
    · rw [dT h2, cond_true, if_pos h2]
  · rw [if_pos h1, dT h1, cond_true, if_pos h1]
end Go.Proofs.YtfclkapelkhlpaaGreatDoor
namespace Go.Proofs.YtfclkapelkhlpaaGreatDoor
open Go Go.Proofs Go.LX
structure Rel {α : Type} (o : Option (α × List Int)) (b : Bool) (x' : α) (l' : List Int) (b' : Bool) : Prop where
  stay : b = true → b' = true
  ok : b = false → match o with
    | some (x, r) => x' = x ∧ l' = r ∧ b' = false
    | none => b' = true
theorem Rel.pure {α : Type} (x : α) (l : List Int) (b : Bool) : Rel (nz x l) b x l b := ⟨id, fun h => ⟨rfl, rfl, h⟩⟩
theorem Rel.bind {α β : Type} {R : FR α} {f : α → FR β} {l l' l'' : List Int} {b b' b'' : Bool} {x' : α} {y' : β} (h1 : Rel (R l) b x' l' b') (h2 : Rel (f x' l') b' y' l'' b'') : Rel (dI R f l) b y' l'' b'' := by
  refine ⟨fun h => h2.stay (h1.stay h), fun h => ?_⟩
  have := h1.ok h
  unfold dI
  cases e : R l with
  | none => rw [e] at this; exact h2.stay this
  | some q =>
    obtain ⟨x, r⟩ := q
    rw [e] at this
    obtain ⟨rfl, rfl, hb⟩ := this
    exact h2.ok hb
theorem tV (l : List Int) (b : Bool) : ∃ x l' b', eQ ⟨l, b⟩ = some (x, ⟨l', b'⟩) ∧ Rel (uS l) b x l' b' := by
  unfold eQ
  cases l with
  | nil => exact ⟨0, [], true, rfl, fun _ => rfl, fun _ => rfl⟩
  | cons x l =>
    simp only
    rw [dF (by simp; omega), cond_false, show idx (x :: l) 0 = some x from U4 x l, bnd, show sub? (x :: l) 1 ((x :: l).length : Int) = some l by
      have := Sr (l := x :: l) (a := 1) (b := (x :: l).length) (by simp) (Nat.le_refl _)
      rw [List.take_length] at this
      exact this, bnd]
    exact ⟨x, l, b, rfl, id, fun h => ⟨rfl, rfl, h⟩⟩
theorem Cc (m : Nat) (l : List Int) (b : Bool) : ∃ (x : Nat) (l' : List Int) (b' : Bool), iP ⟨l, b⟩ m = some ((x : Int), ⟨l', b'⟩) ∧ x ≤ m ∧ Rel (kE m l) b x l' b' := by
  unfold iP
  obtain ⟨x, l', b', h, hr⟩ := tV l b
  rw [h, bnd]
  simp only
  by_cases hx : 0 ≤ x ∧ x ≤ (m : Int)
  · rw [dF (by omega), dF (by omega), Bool.or_self, cond_false]
    refine ⟨x.toNat, l', b', by rw [Int.toNat_of_nonneg hx.1], by omega, hr.stay, fun hb => ?_⟩
    have := hr.ok hb
    cases l with
    | nil => exact this
    | cons y l =>
      obtain ⟨rfl, rfl, hb'⟩ := this
      rw [show kE (m : Int) (x :: l') = some (x.toNat, l') from if_pos hx]; exact ⟨rfl, rfl, hb'⟩
  · rw [show (decide (x < 0) || decide ((m : Int) < x)) = true by
      rw [Bool.or_eq_true, decide_eq_true_eq, decide_eq_true_eq]; omega, cond_true]
    refine ⟨0, l', true, rfl, by omega, fun _ => rfl, fun hb => ?_⟩
    have := hr.ok hb
    cases l with
    | nil => rfl
    | cons y l =>
      obtain ⟨rfl, rfl, hb'⟩ := this
      rw [show kE (m : Int) (x :: l') = none from if_neg hx]
theorem Ae (n : Nat) (hn : n ≤ 100) : ∀ (m M i : Nat) (acc : List Val) (l : List Int) (b : Bool), i + m = n → acc.length = i → m < M →
    ∃ vs l' b', again (fG n) M (acc, (i : Int), l, b) = some (acc ++ vs, ⟨l', b'⟩) ∧ vs.length = m ∧ Rel (fQ DY m l) b vs l' b'
  | m, 0, i, acc, l, b, _, _, hM => by omega
  | 0, M + 1, i, acc, l, b, hi, _, _ => by
    rw [xY]
    unfold fG
    simp only
    rw [dF (by omega), cond_false]
    exact ⟨[], l, b, by simp, rfl, Rel.pure [] l b⟩
  | m + 1, M + 1, i, acc, l, b, hi, ha, hM => by
    rw [xY]
    have ih := Ae n hn m M (i + 1)
    generalize again (fG n) M = K at ih ⊢
    unfold fG
    simp only
    rw [dT (by omega), cond_true]
    obtain ⟨x, l1, b1, e1, r1⟩ := tV l b
    rw [e1, bnd]
    simp only
    obtain ⟨y, l2, b2, e2, r2⟩ := tV l1 b1
    rw [e2, bnd]
    simp only
    rw [sK (room_le (by simp; omega) (by decide)), gI (by omega) (by omega)]
    obtain ⟨vs, l3, b3, e3, hl, r3⟩ := ih (acc ++ [⟨x, y⟩]) l2 b2 (by omega) (by simp; omega) (by omega)
    refine ⟨⟨x, y⟩ :: vs, l3, b3, ?_, by simp [hl], ?_⟩
    · rw [show ((i : Int) + 1) = ((i + 1 : Nat) : Int) by omega, e3]; simp
    · exact Rel.bind (Rel.bind r1 (Rel.bind r2 (Rel.pure _ _ _))) (Rel.bind r3 (Rel.pure _ _ _))
theorem Fp {N n : Nat} (hn : n ≤ 100) (hN : 200 ≤ N) (l : List Int) (b : Bool) : ∃ vs l' b', kz N ⟨l, b⟩ n = some (vs, ⟨l', b'⟩) ∧ vs.length = n ∧ Rel (fQ DY n l) b vs l' b' := by
  unfold kz
  obtain ⟨vs, l', b', e, hl, hr⟩ := Ae n hn n N 0 [] l b (by omega) rfl (by omega)
  exact ⟨vs, l', b', by simpa using e, hl, hr⟩
def none0 : LX.State := ⟨[], [], 0, 0⟩
def NR (a : List bR) (s : LX.State) : LX.State × Int :=
  if Nt a ≠ 0 then (none0, Nt a) else if Nu a s ≠ 0 then (none0, Nu a s) else if lG s = s then (s, 0) else (none0, 4)
def vR (a : List bR) (l : List Int) : LX.State × Int :=
  if 1200 < l.length then (none0, 2) else match zk l with
    | some (s, []) => NR a s
    | _ => (none0, 8)
theorem Vi (a : List bR) (s : LX.State) {N : Nat} (hN : 100 ≤ N) : ((wV a s).bind fun y168 => bif decide ((y168 : Int) ≠ 0) then some (none0, y168) else (tO N s).bind fun x => (xX x s).bind fun y => bif (!y) then some (none0, 4) else some (s, 0)) = some (NR a s) := by
  rw [Dl, bnd]
  unfold NR
  by_cases h1 : Nt a = 0
  · rw [if_neg (by omega), if_neg (by omega)]
    by_cases h2 : Nu a s = 0
    · have ha := ET h1
      rw [dF (by omega), cond_false, BU hN ((Ih.1 h2).sw ha), bnd, Mk, bnd, if_neg (by omega)]
      by_cases h3 : lG s = s
      · rw [dT h3, if_pos h3]; rfl
      · rw [dF h3, if_neg h3]; rfl
    · rw [dT h2, cond_true, if_pos h2]
  · rw [if_pos h1, dT h1, cond_true, if_pos h1]
theorem GJ {N : Nat} (hN : 200 ≤ N) (nk : Int × ig) (a : List bR) (fr : List LX.Frame) (y6 qa : Int × ig) (n : Nat) (hy : nk.1 = n) (hn : n ≤ 24) :
    ∀ (m M i : Nat) (acc : List (List Val)) (l : List Int) (b : Bool), i + m = n → acc.length = i → m < M →
    ∃ cs l' b', again (kC N nk a fr y6 qa) M ((i : Int), l, b, acc) = (bif (b' || decide ((0 : Int) < (l'.length : Int))) then some (none0, 8) else some (NR a ⟨fr, acc ++ cs, y6.1, qa.1⟩)) ∧ Rel (fQ (rE 4) m l) b cs l' b'
  | m, 0, i, acc, l, b, _, _, hM => by omega
  | 0, M + 1, i, acc, l, b, hi, _, _ => by
    rw [xY]
    unfold kC
    simp only
    rw [dF (by omega), cond_false]
    refine ⟨[], l, b, ?_, Rel.pure [] l b⟩
    rw [List.append_nil, ← Vi a ⟨fr, acc, y6.1, qa.1⟩ (N := N) (by omega)]
    rfl
  | m + 1, M + 1, i, acc, l, b, hi, ha, hM => by
    rw [xY]
    have ih := GJ hN nk a fr y6 qa n hy hn m M (i + 1)
    generalize again (kC N nk a fr y6 qa) M = K at ih ⊢
    unfold kC
    simp only
    rw [dT (by omega), cond_true]
    obtain ⟨x, l1, b1, e1, hx, r1⟩ := Cc 4 l b
    rw [show ((4 : Nat) : Int) = 4 from rfl] at e1
    rw [e1, bnd]
    simp only
    obtain ⟨vs, l2, b2, e2, hv, r2⟩ := Fp (N := N) (n := x) (by omega) hN l1 b1
    rw [e2, bnd]
    simp only
    rw [sK (room_le (by simp; omega) (by decide))]
    unfold vv
    rw [gI (by omega) (by omega)]
    obtain ⟨cs, l3, b3, e3, r3⟩ := ih (acc ++ [vs]) l2 b2 (by omega) (by simp; omega) (by omega)
    refine ⟨vs :: cs, l3, b3, ?_, ?_⟩
    · rw [show ((i : Int) + 1) = ((i + 1 : Nat) : Int) by omega, e3]; simp
    · exact Rel.bind (Rel.bind r1 r2) (Rel.bind r3 (Rel.pure _ _ _))
theorem Lr {α β : Type} {R : FR α} {m : Nat} {G : List α → FR β} {l : List Int} : dI (fQ R (m + 1)) G l = dI R (fun x => dI (fQ R m) fun fs => G (x :: fs)) l := by
  show ((dI R (fun x => dI (fQ R m) fun l => nz (x :: l)) l).bind _) = _
  unfold dI
  cases R l with
  | none => rfl
  | some q =>
    rw [Option.bind_some, Option.bind_some]
    simp only
    cases fQ R m q.2 with
    | none => rfl
    | some q2 => rfl
theorem Fq {N : Nat} (hN : 200 ≤ N) (y22 : Int × ig) (a : List bR) (y6 qa : Int × ig) (n : Nat) (hy : y22.1 = n) (hn : n ≤ 10) :
    ∀ (m M i : Nat) (acc : List LX.Frame) (l : List Int) (b : Bool), i + m = n → acc.length = i → m < M →
    ∃ (s : LX.State) (l' : List Int) (b' : Bool), again (jl N y22 a y6 qa) M ((i : Int), l, b, acc) = (bif (b' || decide ((0 : Int) < (l'.length : Int))) then some (none0, 8) else some (NR a s)) ∧
      Rel (dI (fQ AZ m) (fun f => dI (kE 24) fun k => dI (fQ (rE 4) k) fun c => nz (⟨acc ++ f, c, y6.1, qa.1⟩ : LX.State)) l) b s l' b'
  | m, 0, i, acc, l, b, _, _, hM => by omega
  | 0, M + 1, i, acc, l, b, hi, _, _ => by
    rw [xY]
    unfold jl
    simp only
    rw [dF (by omega), cond_false]
    obtain ⟨x, l1, b1, e1, hx, r1⟩ := Cc 24 l b
    rw [show ((24 : Nat) : Int) = 24 from rfl] at e1
    rw [e1, bnd]
    simp only
    obtain ⟨cs, l2, b2, e2, r2⟩ := GJ hN ((x : Int), ⟨l1, b1⟩) a acc y6 qa x rfl hx x N 0 [] l1 b1 (by omega) rfl (by omega)
    refine ⟨⟨acc ++ [], [] ++ cs, y6.1, qa.1⟩, l2, b2, ?_, ?_⟩
    · rw [List.append_nil]; exact e2
    · exact Rel.bind (Rel.pure [] l b) (Rel.bind r1 (Rel.bind r2 (Rel.pure _ _ _)))
  | m + 1, M + 1, i, acc, l, b, hi, ha, hM => by
    rw [xY]
    have ih := Fq hN y22 a y6 qa n hy hn m M (i + 1)
    generalize again (jl N y22 a y6 qa) M = K at ih ⊢
    unfold jl
    simp only
    rw [dT (by omega), cond_true]
    obtain ⟨p, l1, b1, e1, r1⟩ := tV l b
    rw [e1, bnd]
    simp only
    obtain ⟨q, l2, b2, e2, r2⟩ := tV l1 b1
    rw [e2, bnd]
    simp only
    obtain ⟨t, l3, b3, e3, r3⟩ := tV l2 b2
    rw [e3, bnd]
    simp only
    obtain ⟨x, l4, b4, e4, hx, r4⟩ := Cc 40 l3 b3
    rw [show ((40 : Nat) : Int) = 40 from rfl] at e4
    rw [e4, bnd]
    simp only
    obtain ⟨vs, l5, b5, e5, hv, r5⟩ := Fp (N := N) (n := x) (by omega) hN l4 b4
    rw [e5, bnd]
    simp only
    rw [sK (room_le (by simp; omega) (by decide)), gI (by omega) (by omega)]
    obtain ⟨s, l6, b6, e6, r6⟩ := ih (acc ++ [⟨p, q, vs, t⟩]) l5 b5 (by omega) (by simp; omega) (by omega)
    refine ⟨s, l6, b6, ?_, ?_⟩
    · rw [show ((i : Int) + 1) = ((i + 1 : Nat) : Int) by omega, e6]
    · have hfr : Rel (AZ l) b ⟨p, q, vs, t⟩ l5 b5 := Rel.bind r1 (Rel.bind r2 (Rel.bind r3 (Rel.bind (Rel.bind r4 r5) (Rel.pure _ _ _))))
      simp only [List.append_assoc, List.cons_append, List.nil_append] at r6
      rw [Lr]
      exact Rel.bind (f := fun x => dI (fQ AZ m) fun fs => dI (kE 24) fun k => dI (fQ (rE 4) k) fun c => nz (⟨acc ++ x :: fs, c, y6.1, qa.1⟩ : LX.State)) hfr r6
theorem R5 {a : List bR} {l l' : List Int} {b' : Bool} {s : LX.State} {y : Option (LX.State × Int)} (hl : ¬ 1200 < l.length) (hr : Rel (zk l) false s l' b') (h : y = (bif (b' || decide ((0 : Int) < (l'.length : Int))) then some (none0, 8) else some (NR a s))) : y = some (vR a l) := by
  rw [h]
  unfold vR
  rw [if_neg hl]
  have := hr.ok rfl
  cases e : zk l with
  | none => rw [e] at this; simp only at this; subst this; rfl
  | some q =>
    obtain ⟨s2, r⟩ := q
    rw [e] at this
    obtain ⟨rfl, rfl, rfl⟩ := this
    cases l' with
    | nil => rfl
    | cons x l' => rw [Bool.false_or, dT (by simp), cond_true]
theorem zm (a : List bR) (l : List Int) {N : Nat} (hN : 200 ≤ N) : oL N a l = some (vR a l) := by
  unfold oL
  by_cases hl : 1200 < l.length
  · rw [dT (by omega), cond_true]
    unfold vR
    rw [if_pos hl]; rfl
  · rw [dF (by omega), cond_false]
    obtain ⟨st, l1, b1, e1, r1⟩ := tV l false
    rw [e1, bnd]
    simp only
    obtain ⟨wh, l2, b2, e2, r2⟩ := tV l1 b1
    rw [e2, bnd]
    simp only
    obtain ⟨x, l3, b3, e3, hx, r3⟩ := Cc 10 l2 b2
    rw [show ((10 : Nat) : Int) = 10 from rfl] at e3
    rw [e3, bnd]
    simp only
    obtain ⟨s, l4, b4, e4, r4⟩ := Fq hN ((x : Int), ⟨l3, b3⟩) a (st, ⟨l1, b1⟩) (wh, ⟨l2, b2⟩) x rfl hx x N 0 [] l3 b3 (by omega) rfl (by omega)
    exact R5 hl (Rel.bind r1 (Rel.bind r2 (Rel.bind r3 r4))) e4
end Go.Proofs.YtfclkapelkhlpaaGreatDoor
namespace Go.Proofs.YtfclkapelkhlpaaGreatDoor
open Go Go.Proofs Go.LX
section
variable {I : List Int} (hI : I.length ≤ 1200)
include hI
omit hI in
end
end Go.Proofs.YtfclkapelkhlpaaGreatDoor
namespace Go.Proofs.YtfclkapelkhlpaaGreatDoor
open Go Go.Proofs Go.LX
theorem Mr : 200 ≤ NN := by decide
theorem Iq : 100 ≤ NN := by decide
theorem QN {s : LX.State} (h : Small s) : zk (uz s) = some (s, []) := by
  have := Fj h []
  rw [List.append_nil] at this
  exact this
theorem Dn {a : List bR} {l : List Int} (h : ∀ s, zk l ≠ some (s, [])) : (vR a l).2 ≠ 0 := by
  unfold vR
  by_cases hl : 1200 < l.length
  · rw [if_pos hl]; simp
  · rw [if_neg hl]
    cases e : zk l with
    | none => simp
    | some q =>
      obtain ⟨s, r⟩ := q
      cases r with
      | nil => exact absurd e (h s)
      | cons x r => simp
theorem snapTorn (a : List bR) (b c : LX.State) (d e : Int) : ∃ N, oM N a b c d e = some true := by
  refine ⟨NN, ?_⟩
  unfold oM
  rw [Cb a b Iq, bnd, NK, bnd, Bool.not_true, Bool.false_or]
  by_cases h1 : Nt a = 0
  · rw [if_neg (by omega)]
    by_cases h2 : Nu a b = 0
    · have ha := ET h1
      have hb := Ih.1 h2
      have hs := zl ha hb
      have hlen := J7 hs
      have hread := QN hs
      have hpos : 0 < (uz (lG b)).length := by unfold uz; simp
      rw [if_neg (by omega), dF (by simp), cond_false]
      obtain ⟨r, r1, r2, r3⟩ := at_eq d (n := ((uz (lG b)).length : Int)) (by omega) (by omega)
      obtain ⟨k, rfl⟩ : ∃ k : Nat, r = k := ⟨r.toNat, by omega⟩
      simp only
      have hsub := Sr (l := uz (lG b)) (a := 0) (b := k) (by omega) (by omega)
      rw [show ((0 : Nat) : Int) = 0 from rfl, List.drop_zero] at hsub
      rw [r1, bnd, hsub, bnd, zm a _ Mr, bnd]
      obtain ⟨u, hu1, hu2, hu3⟩ := NP.out _ _ _ hread
      rw [List.append_nil] at hu1
      subst hu1
      have t1 : (vR a ((uz (lG b)).take k)).2 ≠ 0 := Dn (fun s hs => by
        rw [hu3 _ _ (List.take_append_drop k _) (by
          intro h0
          have := congrArg List.length h0
          rw [List.length_drop, List.length_nil] at this; omega)] at hs
        cases hs)
      rw [dF t1, cond_false, Q0 (by omega) (by omega), bnd, sK (room_le (by simp; omega) (by decide)), zm a _ Mr, bnd]
      have t2 : (vR a (uz (lG b) ++ [e])).2 ≠ 0 := Dn (fun s hs => by
        rw [hu2] at hs; cases hs)
      rw [dF t2, cond_false, Cb a c Iq, bnd, if_neg (by omega)]
      by_cases h3 : Nu a c = 0
      · have hc := Ih.1 h3
        rw [if_neg (by omega), dF (by simp), cond_false, XC, bnd, BU Iq (hb.sw ha), bnd, BU Iq (hc.sw ha), bnd, Mk, bnd]
        by_cases h4 : lG b = lG c
        · rw [dT h4, dT (by rw [h4])]; rfl
        · rw [dF h4, dF (fun h => h4 (pack_inj hs (zl ha hc) h))]; rfl
      · rw [if_pos h3, dT h3, cond_true]
    · rw [if_pos h2, dT h2, cond_true, bnd]
  · rw [if_pos h1, dT h1, cond_true, bnd]
end Go.Proofs.YtfclkapelkhlpaaGreatDoor
