/-
  What the law SoloSays needs of our own library and of the walks, no more.
-/
import Derived.Test.YtfclkapelkhlpaaGreatDoorProg
import Derived.Test.YtfclkapelkhlpaaGreatDoorSoloSaysTd
set_option linter.unusedSimpArgs false
set_option linter.unusedVariables false
set_option maxRecDepth 10000
namespace Go.Proofs.YtfclkapelkhlpaaGreatDoor
open Go Go.Proofs Go.LX
noncomputable section
theorem Vp (w0 : World) (M : BS) (hM : ∀ b, M b → b < w0.heap.size) (a : Int) (b : Val) (c : Val) (r : Val × Bool) (hs : Rv a b c = some r) :
    Calls Tryz.prog 87 #[(I6 a), (.agg #[(I6 b.kind), (I6 b.n)]), (.agg #[(I6 c.kind), (I6 c.n)])] w0 (fun e w' => Grow w0 w' ∧ e = .returned (.tuple #[.agg #[.int .i64 r.1.kind, .int .i64 r.1.n], .bool r.2])) := by
 refine aQ (args := [(I6 a), (.agg #[(I6 b.kind), (I6 b.n)]), (.agg #[(I6 c.kind), (I6 c.n)])]) Tryz.func87 rfl Tryz.ntmps87 (bF rfl) ?_
 have h := SH.init hM
 refine nG (mD (cs := [(I6 b.kind), (I6 b.n)]) h 1 rfl rfl fun w b1 h => mD (cs := [(I6 c.kind), (I6 c.n)]) h 2 rfl rfl fun w b2 h => bP h 3 aY fun w b3 h => aa (ae (v := (.bool (false))) rfl) (nJ (aa (ae (v := (.func (.func 117) #[] #[])) rfl) (nK (aa (ah (v := (I6 a)) rfl) (aa (bz rfl rfl) (nN (aI hs rfl (fun c4 hs => ?_) (fun c4 hs => ?_)))))))))
 refine nG (aa (ah (v := (.func (.func 117) #[] #[])) rfl) (aa (dK (vs := [(I6 b.kind), (I6 b.n)]) h 1 rfl aY rfl rfl rfl) (aa (dK (vs := [(I6 c.kind), (I6 c.n)]) h 2 rfl aY rfl rfl rfl) (aa (Yk PY rfl rfl) (lh (args := [(.bool ((decide (b.kind = c.kind) && decide (b.n = c.n))))]) Ve rfl rfl (aQ (args := [(.bool ((decide (b.kind = c.kind) && decide (b.n = c.n))))]) Tryz.func117 rfl Tryz.ntmps117 (bF rfl) (nG (bP h 4 aY fun w b5 h => aa (ae (v := (.bool (false))) rfl) (nK (aa (ah (v := (.bool ((decide (b.kind = c.kind) && decide (b.n = c.n))))) rfl) (nN (aI hs rfl (fun c6 hs => ?_) (fun c6 hs => ?_)))))))))))))
 refine nG (aa (ek (pv := [(0, (I6 1)), (1, (I6 1))]) (out := [(I6 1), (I6 1)]) qE rfl ⟨0, 1, [(I6 1)], rfl, rfl, rfl, bF rfl, ⟨1, 1, [(I6 1)], rfl, rfl, rfl, bF rfl, rfl⟩⟩) (dH (vs := [(I6 1), (I6 1)]) h 4 [(I6 1), (I6 1)] rfl aY rfl rfl rfl rfl rfl (ai rfl (ai rfl aS)) fun w h => aa (ae (v := (.bool (true))) rfl) (nR (ay (ll (vs := [(I6 1), (I6 1)]) (v2 := (.bool (true))) Tryz.results117 rfl rfl h 4 rfl aY rfl (⟨_, rfl, ?_⟩))))))
 refine aa (bu rfl rfl) (aa (bu rfl rfl) (dH (vs := [(I6 1), (I6 1)]) h 3 [(I6 1), (I6 1)] rfl aY rfl rfl rfl rfl rfl (ai rfl (ai rfl aS)) fun w h => aa (ae (v := (.bool (true))) rfl) (nR (ay (ll (vs := [(I6 1), (I6 1)]) (v2 := (.bool (true))) Tryz.results87 rfl rfl h 3 rfl aY rfl ?_)))))
 obtain rfl := fP hs
 exact ⟨h.grown, rfl⟩
 refine nS (aa (ek (pv := [(0, (I6 1))]) (out := [(I6 1), (I6 0)]) qE rfl ⟨0, 1, [(I6 1)], rfl, rfl, rfl, bF rfl, rfl⟩) (dH (vs := [(I6 1), (I6 0)]) h 4 [(I6 1), (I6 0)] rfl aY rfl rfl rfl rfl rfl (ai rfl (ai rfl aS)) fun w h => aa (ae (v := (.bool (true))) rfl) (nR (ll (vs := [(I6 1), (I6 0)]) (v2 := (.bool (true))) Tryz.results117 rfl rfl h 4 rfl aY rfl (⟨_, rfl, ?_⟩)))))
 refine aa (bu rfl rfl) (aa (bu rfl rfl) (dH (vs := [(I6 1), (I6 0)]) h 3 [(I6 1), (I6 0)] rfl aY rfl rfl rfl rfl rfl (ai rfl (ai rfl aS)) fun w h => aa (ae (v := (.bool (true))) rfl) (nR (ay (ll (vs := [(I6 1), (I6 0)]) (v2 := (.bool (true))) Tryz.results87 rfl rfl h 3 rfl aY rfl ?_)))))
 obtain rfl := fP hs
 exact ⟨h.grown, rfl⟩
 refine aH (ak (aM (nG (aa (ag mW rfl) (aa (aA h 1 rfl aU rfl rfl) (aa (iA rfl rfl) (aa (ah (v := (.bool (decide ((b.kind : Int) ≠ 1)))) rfl) (aG rfl rfl (fun q => ag mW rfl) (aG rfl rfl (fun q => aA h 2 rfl aU (eD q) rfl) (aG rfl rfl (fun q => iA (eD q) rfl) (aa (iJ rfl rfl nC) (nN (aI hs rfl (fun c7 hs => ?_) (fun c7 hs => ?_))))))))))))))
 refine nG (aa (ek (pv := []) (out := [(I6 0), (I6 0)]) qE rfl rfl) (dH (vs := [(I6 0), (I6 0)]) h 3 [(I6 0), (I6 0)] rfl aY rfl rfl rfl rfl rfl (ai rfl (ai rfl aS)) fun w h => aa (ae (v := (.bool (false))) rfl) (nR (ay (ll (vs := [(I6 0), (I6 0)]) (v2 := (.bool (false))) Tryz.results87 rfl rfl h 3 rfl aY rfl ?_)))))
 obtain rfl := fP hs
 exact ⟨h.grown, rfl⟩
 refine nS (aa (ae (v := (I6 0)) rfl) (nN (bX (σ := Int) (inl ([7, 9] ++ rg 28 33)) (fun x8 => [(9, (I6 x8))]) (fun x8 w => SH w0 M BE w (hset [(3, .blk b3 [(I6 0), (I6 0)])]) ∧ CU x8 = some r) ?_ ?_)))
 rintro x8 w dO ⟨h, hs⟩
 refine nG (aa (ah (v := (I6 x8)) rfl) (aa (ek (pv := [(0, (I6 1)), (1, (I6 x8))]) (out := [(I6 1), (I6 x8)]) qE rfl ⟨0, 1, [(I6 1)], rfl, rfl, rfl, bF rfl, ⟨1, 1, [(I6 x8)], rfl, rfl, rfl, bF rfl, rfl⟩⟩) (aa (ah (v := (I6 x8)) rfl) (aa (qV rfl rfl) (aa (ah (v := (.bool (decide ((-1000000000 : Int) ≤ x8)))) rfl) (aG rfl rfl (fun q => ah (v := (I6 x8)) rfl) (aG rfl rfl (fun q => Gh (eD q) rfl) (aa (gZ rfl rfl nC) (dH (vs := [(I6 1), (I6 x8)]) h 3 [(I6 1), (I6 x8)] rfl aY rfl rfl rfl rfl rfl (ai rfl (ai rfl aS)) fun w h => aa (ae (v := (.bool ((decide ((-1000000000 : Int) ≤ x8) && decide ((x8 : Int) ≤ 1000000000))))) rfl) (nR (ll (vs := [(I6 1), (I6 x8)]) (v2 := (.bool ((decide ((-1000000000 : Int) ≤ x8) && decide ((x8 : Int) ≤ 1000000000))))) Tryz.results87 rfl rfl h 3 rfl aY rfl ?_)))))))))))
 obtain rfl := fP hs
 exact ⟨h.grown, rfl⟩
 refine nG (aa (ah (v := (I6 a)) rfl) (nN (aO (nG (aa (bz rfl rfl) (aa (ae (v := (.bool (decide ((a : Int) = 1)))) rfl) (nN (aI hs rfl (fun c9 hs => ?_) (fun c9 hs => ?_)))))))))
 refine aC (aa (ag fu rfl) (aa (aA h 1 rfl aU rfl rfl) (aa (ag fu rfl) (aa (aA h 2 rfl aU rfl rfl) ?_))))
 obtain ⟨a10, hs⟩ := bB hs
 refine aa (dP rfl rfl a10) (aa (ae (v := (I6 ((b.n + c.n)))) rfl) (az (ax (au ?_))))
 exact bQ (b.n + c.n) ⟨h.cn _, hs⟩
 refine nG (aa (bz rfl rfl) (aa (ae (v := (.bool (decide ((a : Int) = 2)))) rfl) (nN (aI hs rfl (fun c11 hs => ?_) (fun c11 hs => ?_)))))
 refine aC (aa (ag fu rfl) (aa (aA h 1 rfl aU rfl rfl) (aa (ag fu rfl) (aa (aA h 2 rfl aU rfl rfl) ?_))))
 obtain ⟨a12, hs⟩ := bB hs
 refine aa (mV rfl rfl a12) (aa (ae (v := (I6 ((b.n - c.n)))) rfl) (az (ax (au ?_))))
 exact bQ (b.n - c.n) ⟨h.cn _, hs⟩
 refine nG (aa (bz rfl rfl) (aa (ae (v := (.bool (decide ((a : Int) = 3)))) rfl) (nN (aI hs rfl (fun c13 hs => ?_) (fun c13 hs => ?_)))))
 refine aC (aa (ag fu rfl) (aa (aA h 1 rfl aU rfl rfl) (aa (ag fu rfl) (aa (aA h 2 rfl aU rfl rfl) ?_))))
 obtain ⟨a14, hs⟩ := bB hs
 refine aa (r_mul rfl rfl a14) (aa (ae (v := (I6 ((b.n * c.n)))) rfl) (az (ax (au ?_))))
 exact bQ (b.n * c.n) ⟨h.cn _, hs⟩
 refine nG (aa (bz rfl rfl) (aa (ae (v := (.bool (decide ((a : Int) = 4)))) rfl) (nN (aI hs rfl (fun c15 hs => ?_) (fun c15 hs => ?_)))))
 refine nG (aa (ah (v := (.func (.func 117) #[] #[])) rfl) (aa (ag fu rfl) (aa (aA h 1 rfl aU rfl rfl) (aa (ag fu rfl) (aa (aA h 2 rfl aU rfl rfl) (aa (eB rfl rfl) (lh (args := [(.bool (decide ((b.n : Int) < c.n)))]) Ve rfl rfl (aQ (args := [(.bool (decide ((b.n : Int) < c.n)))]) Tryz.func117 rfl Tryz.ntmps117 (bF rfl) (nG (bP h 5 aY fun w b16 h => aa (ae (v := (.bool (false))) rfl) (nK (aa (ah (v := (.bool (decide ((b.n : Int) < c.n)))) rfl) (nN (aI hs rfl (fun c17 hs => ?_) (fun c17 hs => ?_)))))))))))))))
 refine nG (aa (ek (pv := [(0, (I6 1)), (1, (I6 1))]) (out := [(I6 1), (I6 1)]) qE rfl ⟨0, 1, [(I6 1)], rfl, rfl, rfl, bF rfl, ⟨1, 1, [(I6 1)], rfl, rfl, rfl, bF rfl, rfl⟩⟩) (dH (vs := [(I6 1), (I6 1)]) h 5 [(I6 1), (I6 1)] rfl aY rfl rfl rfl rfl rfl (ai rfl (ai rfl aS)) fun w h => aa (ae (v := (.bool (true))) rfl) (nR (ay (ll (vs := [(I6 1), (I6 1)]) (v2 := (.bool (true))) Tryz.results117 rfl rfl h 5 rfl aY rfl (⟨_, rfl, ?_⟩))))))
 refine aa (bu rfl rfl) (aa (bu rfl rfl) (dH (vs := [(I6 1), (I6 1)]) h 3 [(I6 1), (I6 1)] rfl aY rfl rfl rfl rfl rfl (ai rfl (ai rfl aS)) fun w h => aa (ae (v := (.bool (true))) rfl) (nR (aF (ay (ll (vs := [(I6 1), (I6 1)]) (v2 := (.bool (true))) Tryz.results87 rfl rfl h 3 rfl aY rfl ?_))))))
 obtain rfl := fP hs
 exact ⟨h.grown, rfl⟩
 refine nS (aa (ek (pv := [(0, (I6 1))]) (out := [(I6 1), (I6 0)]) qE rfl ⟨0, 1, [(I6 1)], rfl, rfl, rfl, bF rfl, rfl⟩) (dH (vs := [(I6 1), (I6 0)]) h 5 [(I6 1), (I6 0)] rfl aY rfl rfl rfl rfl rfl (ai rfl (ai rfl aS)) fun w h => aa (ae (v := (.bool (true))) rfl) (nR (ll (vs := [(I6 1), (I6 0)]) (v2 := (.bool (true))) Tryz.results117 rfl rfl h 5 rfl aY rfl (⟨_, rfl, ?_⟩)))))
 refine aa (bu rfl rfl) (aa (bu rfl rfl) (dH (vs := [(I6 1), (I6 0)]) h 3 [(I6 1), (I6 0)] rfl aY rfl rfl rfl rfl rfl (ai rfl (ai rfl aS)) fun w h => aa (ae (v := (.bool (true))) rfl) (nR (aF (ay (ll (vs := [(I6 1), (I6 0)]) (v2 := (.bool (true))) Tryz.results87 rfl rfl h 3 rfl aY rfl ?_))))))
 obtain rfl := fP hs
 exact ⟨h.grown, rfl⟩
 refine aH (ax (au ?_))
 exact bQ 0 ⟨h.cn _, hs⟩
def zC (sx : LX.State) (a : Ins) (x5 : Val) (xb : LX.Frame) (kb : Int) (KL : Bool) : Option (Bool × LX.State) :=
  bif KL then some (false, sx) else bif decide ((a.op : Int) = 6) then (idx sx.cells x5.n).bind fun qW => (idx xb.regs a.b).bind fun x27 => (idx qW a.c).bind fun Ci => some (true, (⟨sx.frames, (sx.cells.set (x5.n).toNat (qW.set (a.c).toNat x27)), sx.status, sx.aL⟩ : LX.State)) else (idx sx.cells x5.n).bind fun x41 => (idx x41 a.c).bind fun Qi => (idx xb.regs a.a).bind fun x59 => some (true, (⟨(sx.frames.set (kb).toNat ({ xb with regs := (xb.regs.set (a.a).toNat Qi) })), sx.cells, sx.status, sx.aL⟩ : LX.State))
def zD (xb : LX.Frame) (sx : LX.State) (a : Ins) (kb : Int) (x4 : Int) : Option (Bool × LX.State) :=
  (idx xb.regs x4).bind fun x5 => bif decide ((x5.kind : Int) ≠ 2) then zC sx a x5 xb kb true else (idx sx.cells x5.n).bind fun x66 => zC sx a x5 xb kb (decide (((x66.length : Int) : Int) ≤ a.c))
def IG (sx : LX.State) (a : Ins) (kb : Int) (xb : LX.Frame) : Option (Bool × LX.State) :=
  bif decide ((a.op : Int) = 6) then zD xb sx a kb a.a else zD xb sx a kb a.b
theorem MC (w0 : World) (M : BS) (hM : ∀ b, M b → b < w0.heap.size) (sb : Nat) (sx : LX.State) (gT vs1 : Value) (iH ig : List Value) (hC : Chunk.holds w0 M (Chunk.own' (cT sb gT vs1 (sx.status) (sx.aL) sx.frames iH sx.cells ig)) (cT sb gT vs1 (sx.status) (sx.aL) sx.frames iH sx.cells ig)) (hap : ∀ b, Chunk.own' (cT sb gT vs1 (sx.status) (sx.aL) sx.frames iH sx.cells ig) b → ¬ M b) (a : Ins) (Az : Value) (ha4 : gX eP w0 (fun b => M b ∨ (cT sb gT vs1 (sx.status) (sx.aL) sx.frames iH sx.cells ig).own' b) Az a.args) (kb : Int) (xb : LX.Frame) (gb : 0 ≤ kb) (eb : sx.frames[kb.toNat]? = some xb) (vb : Value) (hb : iH[kb.toNat]? = some vb) (r : Bool × LX.State) (hs : IG sx a kb xb = some r) :
    Calls Tryz.prog 88 #[(.pointer (some ⟨sb, 0, none⟩)), (.agg #[(I6 a.op), (I6 a.a), (I6 a.b), (I6 a.c), Az]), vb] w0 (fun e w' => aP (Chunk.own' (cT sb gT vs1 (sx.status) (sx.aL) sx.frames iH sx.cells ig)) w0 w' ∧ ∃ Ll, ∃ Lm, ∃ Lp, ∃ Lr, e = .returned (.bool r.1) ∧ Chunk.holds w' M (Chunk.own' (cT sb Ll Lm r.2.status r.2.aL r.2.frames Lp r.2.cells Lr)) (cT sb Ll Lm r.2.status r.2.aL r.2.frames Lp r.2.cells Lr) ∧ (∀ b, Chunk.own' (cT sb Ll Lm r.2.status r.2.aL r.2.frames Lp r.2.cells Lr) b → b < w0.heap.size → Chunk.own' (cT sb gT vs1 (sx.status) (sx.aL) sx.frames iH sx.cells ig) b)) := by
 refine aQ (args := [(.pointer (some ⟨sb, 0, none⟩)), (.agg #[(I6 a.op), (I6 a.a), (I6 a.b), (I6 a.c), Az]), vb]) Tryz.func88 rfl Tryz.ntmps88 (bF rfl) ?_
 have h := SH.Il hM hC hap
 replace h := h.EH 6 ha4 Dz
 generalize vZ : (cT sb gT vs1 (sx.status) (sx.aL) sx.frames iH sx.cells ig).own' = K0 at h
 replace h := h.bY 1 5 (by decide) rfl rfl
 replace h := h.bY 1 4 (by decide) rfl rfl
 replace h := h.bY 1 3 (by decide) rfl rfl
 replace h := h.bY 1 2 (by decide) rfl rfl
 obtain ⟨u1, e2, h⟩ := h.l6 3 7 xb.regs rfl rfl (by decide) eb rfl
 obtain rfl : vb = u1 := fP (hb.symm.trans e2)
 refine nG (mD (cs := [(I6 a.op), (I6 a.a), (I6 a.b), (I6 a.c), Az]) h 8 rfl rfl fun w b3 h => aa (ae (v := (.bool (false))) rfl) (nJ (aa (ag gp rfl) (aa (aA h 8 rfl aU rfl rfl) (aa (ae (v := (I6 a.b)) rfl) (nN (bX (σ := Int) (inl [7, 11, 12, 13, 14, 15]) (fun x4 => [(7, (I6 x4))]) (fun x4 w => SH w0 M K0 w (hset [(1, .blk sb [gT, vs1, (I6 sx.status), (I6 sx.aL)]), (2, .own bg.raw 49 gT (List.zip sx.frames iH)), (3, .ik (dS bC 51 (hat (kb).toNat) iH (List.map bg.sub sx.frames))), (4, .own (dZ Val).raw 47 vs1 (List.zip sx.cells ig)), (5, .ik (dS bC 51 hn ig (List.map (dZ Val).sub sx.cells))), (6, .rd eP Az a.args), (7, .own bC 51 vb xb.regs), (8, .blk b3 [(I6 a.op), (I6 a.a), (I6 a.b), (I6 a.c), Az])]) ∧ zD xb sx a kb x4 = some r) ?_ ?_)))))))
 rintro x4 w dO ⟨h, hs⟩
 refine nG (aa (ah (v := vb) rfl) (aa (ah (v := (I6 x4)) rfl) ?_))
 obtain ⟨x5, e6, hs⟩ := aK hs
 obtain ⟨b8, q9, i7⟩ := h.qY 7 rfl aZ rfl (aB e6).1 (aB e6).2
 refine aa (i7 _ _ _ _ _ _ _ _ _ rfl rfl) ?_
 obtain ⟨cs10, m11, r12⟩ := h.uF 7 rfl q9 (aB e6).2
 obtain rfl := r12
 refine aa (kg (k := 0) (vs := [(I6 x5.kind), (I6 x5.n)]) m11 aY rfl rfl rfl (bF rfl)) (bP h 9 aY fun w b13 h => dH (vs := [(I6 x5.kind), (I6 x5.n)]) h 9 [(I6 x5.kind), (I6 x5.n)] rfl aY rfl rfl rfl rfl rfl (ai rfl (ai rfl aS)) fun w h => nN (aM (bX (σ := Bool) (inl (rg 20 17)) (fun KL => [(36, (.bool (KL)))]) (fun KL w => SH w0 M K0 w (hset [(1, .blk sb [gT, vs1, (I6 sx.status), (I6 sx.aL)]), (2, .own bg.raw 49 gT (List.zip sx.frames iH)), (3, .ik (dS bC 51 (hat (kb).toNat) iH (List.map bg.sub sx.frames))), (4, .own (dZ Val).raw 47 vs1 (List.zip sx.cells ig)), (5, .ik (dS bC 51 hn ig (List.map (dZ Val).sub sx.cells))), (6, .rd eP Az a.args), (7, .own bC 51 vb xb.regs), (8, .blk b3 [(I6 a.op), (I6 a.a), (I6 a.b), (I6 a.c), Az]), (9, .blk b13 [(I6 x5.kind), (I6 x5.n)])]) ∧ zC sx a x5 xb kb KL = some r) ?_ ?_)))
 rintro KL w dO ⟨h, hs⟩
 refine aI hs rfl (fun c15 hs => ?_) (fun c15 hs => ?_)
 refine nG (aa (ae (v := (.bool (false))) rfl) (nR (ay (dD (v := (.bool (false))) Tryz.results88 rfl ?_))))
 replace h := h.ed 3 7 rfl rfl (by decide) eb hb rfl
 replace h := h.pair 1 2 (by decide)
 replace h := h.pair 1 3 (by decide)
 replace h := h.pair 1 4 (by decide)
 replace h := h.pair 1 5 (by decide)
 obtain rfl := fP hs
 subst vZ
 obtain ⟨o1, o2, o3⟩ := h.kJ 1 (C := (cT sb gT vs1 (sx.status) (sx.aL) sx.frames iH sx.cells ig)) rfl ⟨⟨⟨⟨trivial, trivial⟩, trivial⟩, trivial⟩, trivial⟩
 exact ⟨o2, gT, vs1, iH, ig, rfl, o1, o3⟩
 refine aH (ak (aM (nG (aa (ag mG rfl) (aa (aA h 8 rfl aU rfl rfl) (aa (bz rfl rfl) (nN (aI hs rfl (fun c16 hs => ?_) (fun c16 hs => ?_)))))))))
 refine lg 16 mixed (by kernel_rfl) h fun w h => aD (ah (v := (.pointer (some ⟨sb, 0, none⟩))) rfl) (aD (aW rfl) (aD (ag gF rfl) (aD (aA h 1 rfl jU rfl rfl) (aD (ag fu rfl) (aD (aA h 9 rfl aU rfl rfl) ?_)))))
 obtain ⟨qW, e18, hs⟩ := aK hs
 obtain ⟨u22, e23, h⟩ := h.l6 5 10 qW rfl rfl (by decide) (aB e18).2 rfl
 obtain ⟨b20, q21, i19⟩ := h.qY 4 rfl eQ rfl (aB e18).1 (eu (aB e18).2 e23)
 refine aD (i19 _ _ _ _ _ _ _ _ _ rfl rfl) ?_
 obtain ⟨cs24, m25, r26⟩ := h.uF 4 rfl q21 (eu (aB e18).2 e23)
 obtain ⟨rfl, -⟩ := r26
 refine aD (kH (k := 0) m25 j3 rfl rfl) (aD (ag mH rfl) (aD (aA h 8 rfl aU rfl rfl) (aD (ah (v := vb) rfl) (aD (ag gp rfl) (aD (aA h 8 rfl aU rfl rfl) ?_)))))
 obtain ⟨x27, e28, hs⟩ := aK hs
 obtain ⟨b30, q31, i29⟩ := h.qY 7 rfl aZ rfl (aB e28).1 (aB e28).2
 refine aD (i29 _ _ _ _ _ _ _ _ _ rfl rfl) ?_
 obtain ⟨cs32, m33, r34⟩ := h.uF 7 rfl q31 (aB e28).2
 obtain rfl := r34
 refine aD (kg (k := 0) (vs := [(I6 x27.kind), (I6 x27.n)]) m33 aY rfl rfl rfl (bF rfl)) ?_
 obtain ⟨Ci, e36, hs⟩ := aK hs
 obtain ⟨b38, q39, i37⟩ := h.qY 10 rfl aZ rfl (aB e36).1 (aB e36).2
 refine aD (i37 _ _ _ _ _ _ _ _ _ rfl rfl) (uH (ry (a' := x27) (vs := [(I6 x27.kind), (I6 x27.n)]) h 10 rfl q39 rfl (aB e36).2 aY rfl rfl rfl rfl rfl fun w h k40 => nJ (aa (ae (v := (.bool (true))) rfl) (nR (dD (v := (.bool (true))) Tryz.results88 rfl ?_)))))
 replace h := h.ed 3 7 rfl rfl (by decide) eb hb rfl
 replace h := h.l5 4 5 10 (qW.set (a.c).toNat x27) rfl rfl rfl (by decide) (by decide) (by decide) (aB e18).2 e23 rfl
 replace h := h.pair 1 2 (by decide)
 replace h := h.pair 1 3 (by decide)
 replace h := h.pair 1 4 (by decide)
 replace h := h.pair 1 5 (by decide)
 obtain rfl := fP hs
 subst vZ
 obtain ⟨o1, o2, o3⟩ := h.kJ 1 (C := (cT sb gT vs1 (sx.status) (sx.aL) sx.frames iH (sx.cells.set (x5.n).toNat (qW.set (a.c).toNat x27)) ig)) rfl ⟨⟨⟨⟨trivial, trivial⟩, trivial⟩, trivial⟩, trivial⟩
 exact ⟨o2, gT, vs1, iH, ig, rfl, o1, o3⟩
 refine lg 16 mixed (by kernel_rfl) h fun w h => aD (ah (v := vb) rfl) (aD (ag jb rfl) (aD (aA h 8 rfl aU rfl rfl) (aD (ah (v := (.pointer (some ⟨sb, 0, none⟩))) rfl) (aD (aW rfl) (aD (ag gF rfl) (aD (aA h 1 rfl jU rfl rfl) (aD (ag fu rfl) (aD (aA h 9 rfl aU rfl rfl) ?_))))))))
 obtain ⟨x41, e42, hs⟩ := aK hs
 obtain ⟨u46, e47, h⟩ := h.l6 5 11 x41 rfl rfl (by decide) (aB e42).2 rfl
 obtain ⟨Qf, q45, i43⟩ := h.qY 4 rfl eQ rfl (aB e42).1 (eu (aB e42).2 e47)
 refine aD (i43 _ _ _ _ _ _ _ _ _ rfl rfl) ?_
 obtain ⟨cs48, m49, r50⟩ := h.uF 4 rfl q45 (eu (aB e42).2 e47)
 obtain ⟨rfl, -⟩ := r50
 refine aD (kH (k := 0) m49 j3 rfl rfl) (aD (ag mH rfl) (aD (aA h 8 rfl aU rfl rfl) ?_))
 obtain ⟨Qi, e52, hs⟩ := aK hs
 obtain ⟨b54, q55, i53⟩ := h.qY 11 rfl aZ rfl (aB e52).1 (aB e52).2
 refine aD (i53 _ _ _ _ _ _ _ _ _ rfl rfl) ?_
 obtain ⟨cs56, m57, r58⟩ := h.uF 11 rfl q55 (aB e52).2
 obtain rfl := r58
 refine aD (kg (k := 0) (vs := [(I6 Qi.kind), (I6 Qi.n)]) m57 aY rfl rfl rfl (bF rfl)) ?_
 obtain ⟨x59, e60, hs⟩ := aK hs
 obtain ⟨b62, q63, i61⟩ := h.qY 7 rfl aZ rfl (aB e60).1 (aB e60).2
 refine aD (i61 _ _ _ _ _ _ _ _ _ rfl rfl) (uH (ry (a' := Qi) (vs := [(I6 Qi.kind), (I6 Qi.n)]) h 7 rfl q63 rfl (aB e60).2 aY rfl rfl rfl rfl rfl fun w h k64 => nJ (aa (ae (v := (.bool (true))) rfl) (nR (dD (v := (.bool (true))) Tryz.results88 rfl ?_)))))
 replace h := h.l5 2 3 7 ({ xb with regs := (xb.regs.set (a.a).toNat Qi) }) rfl rfl rfl (by decide) (by decide) (by decide) eb hb rfl
 replace h := h.ed 5 11 rfl rfl (by decide) (aB e42).2 e47 rfl
 replace h := h.pair 1 2 (by decide)
 replace h := h.pair 1 3 (by decide)
 replace h := h.pair 1 4 (by decide)
 replace h := h.pair 1 5 (by decide)
 obtain rfl := fP hs
 subst vZ
 obtain ⟨o1, o2, o3⟩ := h.kJ 1 (C := (cT sb gT vs1 (sx.status) (sx.aL) (sx.frames.set (kb).toNat ({ xb with regs := (xb.regs.set (a.a).toNat Qi) })) iH sx.cells ig)) rfl ⟨⟨⟨⟨trivial, trivial⟩, trivial⟩, trivial⟩, trivial⟩
 exact ⟨o2, gT, vs1, iH, ig, rfl, o1, o3⟩
 refine uI mixed (by kernel_rfl) h fun w h => aD (ag mW rfl) (aD (aA h 9 rfl aU rfl rfl) (aD (iA rfl rfl) (aD (ah (v := (.bool (decide ((x5.kind : Int) ≠ 2)))) rfl) (kT (b := decide ((x5.kind : Int) ≠ 2)) hs (fun Al hs => ?_) (fun Al hs => ?_)))))
 refine dR (b' := true) rfl (cB Al) rfl (dR (b' := true) rfl (cB Al) rfl (dR (b' := true) rfl (cB Al) rfl (dR (b' := true) rfl (cB Al) rfl (dR (b' := true) rfl (cB Al) rfl (dR (b' := true) rfl (cB Al) rfl (dR (b' := true) rfl (cB Al) rfl (dR (b' := true) rfl (cB Al) rfl (dR (b' := true) rfl (cB Al) rfl (dR (b' := true) rfl (cB Al) rfl (dR (b' := true) rfl (cB Al) rfl (dR (b' := true) rfl (cB Al) rfl (aD (fB (b := true) (v := (.bool (true))) (cB Al) rfl) (uf (au ?_))))))))))))))
 exact bQ true ⟨h.cn _, hs⟩
 refine fw rfl (cB Al) (aD (ag mH rfl) (fw rfl (cB Al) (aD (aA h 8 rfl aU rfl rfl) (fw rfl (cB Al) (aD (ah (v := (.pointer (some ⟨sb, 0, none⟩))) rfl) (fw rfl (cB Al) (aD (aW rfl) (fw rfl (cB Al) (aD (ag gF rfl) (fw rfl (cB Al) (aD (aA h 1 rfl jU rfl rfl) (fw rfl (cB Al) (aD (ag fu rfl) (fw rfl (cB Al) (aD (aA h 9 rfl aU rfl rfl) (fw rfl (cB Al) ?_))))))))))))))))
 obtain ⟨x66, e67, hs⟩ := aK hs
 obtain ⟨u71, WA, h⟩ := h.l6 5 12 x66 rfl rfl (by decide) (aB e67).2 rfl
 obtain ⟨b69, q70, i68⟩ := h.qY 4 rfl eQ rfl (aB e67).1 (eu (aB e67).2 WA)
 refine aD (i68 _ _ _ _ _ _ _ _ _ rfl rfl) (fw rfl (cB Al) ?_)
 obtain ⟨cs73, m74, r75⟩ := h.uF 4 rfl q70 (eu (aB e67).2 WA)
 obtain ⟨rfl, -⟩ := r75
 refine aD (kH (k := 0) m74 j3 rfl rfl) (fw rfl (cB Al) (aD (bW aZ rfl (h.eG 12 rfl)) (fw rfl (cB Al) (aD (qV rfl rfl) (aD (fB (b := false) (v := (.bool (decide (((x66.length : Int) : Int) ≤ a.c)))) (cB Al) rfl) (uf ?_))))))
 replace h := h.ed 5 12 rfl rfl (by decide) (aB e67).2 WA rfl
 refine au ?_
 exact bQ (decide (((x66.length : Int) : Int) ≤ a.c)) ⟨h.cn _, hs⟩
 refine nG (aa (ag mG rfl) (aa (aA h 8 rfl aU rfl rfl) (aa (bz rfl rfl) (nN (aI hs rfl (fun c76 hs => ?_) (fun c76 hs => ?_))))))
 refine aC (aa (ag jb rfl) (aa (aA h 8 rfl aU rfl rfl) (aa (ae (v := (I6 a.a)) rfl) (az (au ?_)))))
 exact bQ a.a ⟨h.cn _, hs⟩
 refine aH (au ?_)
 exact bQ a.b ⟨h.cn _, hs⟩
def xP (Qd : (List Int × List (Int × Bool)) → Option (List Int × Int)) (AU : List Int) (DN : List (Int × Bool)) : Option (List Int × Int) :=
  Qd (AU, DN)
def xQ (OA : (List Int × List (Int × Bool)) → Option (List Int × Int)) (TW : List Int) (JA : List (Int × Bool)) : Option (List Int × Int) :=
  OA (TW, JA)
def rH (yD : Val) (s : List Int × List (Int × Bool)) (OA : List Int × List (Int × Bool) → Option (List Int × Int)) : Option (List Int × Int) :=
  match s with | (jg, tQ) => bif (decide ((yD.kind : Int) = 2) && (!((lk yD.n tQ).getD false))) then ib (Room 8 jg [yD.n]) (xQ OA (jg ++ [yD.n]) (DD yD.n true tQ)) else xQ OA jg tQ
def rJ (ME : Int) (Rw : (Int × List Int × List (Int × Bool)) → Option (List Int × Int)) (s : List Int × List (Int × Bool)) : Option (List Int × Int) :=
  match s with | (jg, tQ) => ib (jV (ME + 1)) (Rw ((ME + 1), jg, tQ))
def pG (a : List (List Val)) (s : Int × List Int × List (Int × Bool)) (Rw : Int × List Int × List (Int × Bool) → Option (List Int × Int)) : Option (List Int × Int) :=
  match s with | (ME, BD, Dv) => bif decide ((ME : Int) < (BD.length : Int)) then (idx BD ME).bind fun x79 => (idx a x79).bind fun x87 => each rH (rJ ME Rw) x87 (BD, Dv) else some (BD, 0)
def uV (iU : Val) (s : List Int × List (Int × Bool)) (Qd : List Int × List (Int × Bool) → Option (List Int × Int)) : Option (List Int × Int) :=
  match s with | (y32, SG) => bif (decide ((iU.kind : Int) = 2) && (!((lk iU.n SG).getD false))) then ib (Room 8 y32 [iU.n]) (xP Qd (y32 ++ [iU.n]) (DD iU.n true SG)) else xP Qd y32 SG
def xR (N : Nat) (a : List (List Val)) (s : List Int × List (Int × Bool)) : Option (List Int × Int) :=
  match s with | (y32, SG) => again (pG a) N (0, y32, SG)
def uW (a : List (List Val)) (x6 : Val) (s : Unit) (nx8 : Unit → Option (List Int × Int)) : Option (List Int × Int) :=
  bif decide (((dY x6 (a.length : Int)) : Int) ≠ 0) then some ([], (dY x6 (a.length : Int))) else nx8 ()
def rM (N : Nat) (a : List (List Val)) (b : List Val) (s : Unit) : Option (List Int × Int) :=
  each uV (xR N a) b ([], ([] : List (Int × Bool)))
def D7 (N : Nat) (a : List (List Val)) (b : List Val) : Option (List Int × Int) :=
  bif decide (((fE a) : Int) ≠ 0) then some ([], (fE a)) else bif decide ((400 : Int) < (b.length : Int)) then some ([], 2) else each (uW a) (rM N a b) b ()
theorem Qj (N : Nat) (w0 : World) (M : BS) (hM : ∀ b, M b → b < w0.heap.size) (va : Value) (a : List (List Val)) (ha : gy (rU bC) w0 BE M va a) (vb : Value) (b : List Val) (hb : gy bC w0 BE M vb b) (r : List Int × Int) (hs : D7 N a b = some r) :
    Calls Tryz.prog 48 #[va, vb] w0 (fun e w' => Grow w0 w' ∧ ∃ u0, e = .returned (.tuple #[u0, .int .i64 r.2]) ∧ fI eP 3 w' M u0 r.1 ∧ (∀ b, ob u0 b → w0.heap.size ≤ b)) := by
 refine aQ (args := [va, vb]) Tryz.func48 rfl Tryz.ntmps48 (bF rfl) ?_
 have h := SH.init hM
 replace h := h.gz 1 ha bH
 replace h := h.gz 2 hb (dL bH)
 have vC := ha.bT
 have NF := hb.bT
 refine nG (aa (ae (v := (.slice none 0 0)) rfl) (aa (ae (v := (I6 0)) rfl) (nK (aa (ah (v := va) rfl) (aX YT rfl rfl (Eh _ _ h.lt va a (h.iV 1 rfl) _ rfl) ?_)))))
 rintro _ w ⟨k1, rfl⟩
 refine ⟨_, rfl, ?_⟩
 replace h := h.grow k1
 refine aa (ae (v := (I6 ((fE a)))) rfl) (nJ (aa (ah (v := (I6 ((fE a)))) rfl) (aa (iA rfl rfl) (nN (aI hs rfl (fun c2 hs => ?_) (fun c2 hs => ?_))))))
 refine nG (aa (ah (v := (I6 ((fE a)))) rfl) (aa (ae (v := (.slice none 0 0)) rfl) (aa (ae (v := (I6 ((fE a)))) rfl) (nR (ay (Jd (v1 := (.slice none 0 0)) (v2 := (I6 ((fE a)))) Tryz.results48 rfl rfl ?_))))))
 obtain rfl := fP hs
 exact ⟨h.grown, _, rfl, fI.nil, lN⟩
 refine aH (ak (aM (nG (aa (ah (v := vb) rfl) (aa (bW aZ rfl (h.iV 2 rfl)) (aa (lT rfl rfl) (nN (aI hs rfl (fun c3 hs => ?_) (fun c3 hs => ?_)))))))))
 refine nG (aa (ae (v := (.slice none 0 0)) rfl) (aa (ae (v := (I6 2)) rfl) (nR (ay (Jd (v1 := (.slice none 0 0)) (v2 := (I6 2)) Tryz.results48 rfl rfl ?_)))))
 obtain rfl := fP hs
 exact ⟨h.grown, _, rfl, fI.nil, lN⟩
 refine aH (ak (aM (nG (aa (ah (v := vb) rfl) (aa (bW aZ rfl (h.iV 2 rfl)) (aa (ah (v := (I6 0)) rfl) (nN (aO (gu (σ := Nat × Int) (inl ([4, 5, 8, 9] ++ rg 28 12)) (fun ⟨k4, i5⟩ => [(28, (I6 i5))]) (fun ⟨k4, i5⟩ w => SH w0 M BE w (hset [(1, .sr (rU bC) va a), (2, .sr bC vb b)]) ∧ i5 = (k4 : Int) ∧ each (uW a) (rM N a b) (b.drop k4) () = some r) (fun ⟨k4, i5⟩ => b.length - k4) ⟨0, 0⟩ ⟨rfl, trivial⟩ ?_ ?_)))))))))
 exact ⟨h.cn _, rfl, hs⟩
 rintro ⟨k4, i5⟩ w dO ⟨h, hik, hs⟩
 refine nG ?_
 refine aa (eB rfl rfl) (nN ?_)
 refine aM (gK rfl (fun e9 => ?_) (fun e9 => ?_))
 refine aH (ak ?_)
 obtain ⟨x6, e10a, e10b⟩ := fU (hik ▸ e9)
 rw [e10b, dV] at hs
 generalize hnx8 : each (uW a) (rM N a b) (b.drop (k4 + 1)) = nx8 at hs
 have e10r := gm ((h.iV 2 rfl)).bT hik e9
 refine aM (aO (nG ?_))
 obtain ⟨b12, o13, cs14, h, r15, i11⟩ := h.zP 2 3 rfl aZ rfl (iI hik) (fZ hik e10a)
 obtain rfl := r15
 refine aa (i11 _ _ _ _ _ _ _ _ _ rfl rfl) (aa (jo (k := 0) (vs := [(I6 x6.kind), (I6 x6.n)]) h 3 rfl aY rfl rfl rfl (bF rfl)) (bP h 4 aY fun w b16 h => dH (vs := [(I6 x6.kind), (I6 x6.n)]) h 4 [(I6 x6.kind), (I6 x6.n)] rfl aY rfl rfl rfl rfl rfl (ai rfl (ai rfl aS)) fun w h => nJ (aa (dK (vs := [(I6 x6.kind), (I6 x6.n)]) h 4 rfl aY rfl rfl rfl) (aa (ah (v := va) rfl) (aa (bW eQ rfl (h.iV 1 rfl)) (aX Tm rfl rfl (DX _ _ h.lt x6 (a.length : Int) _ rfl) ?_))))))
 rintro _ w ⟨k17, rfl⟩
 refine ⟨_, rfl, ?_⟩
 replace h := h.grow k17
 refine aa (ae (v := (I6 ((dY x6 (a.length : Int))))) rfl) (nJ (aa (ah (v := (I6 ((dY x6 (a.length : Int))))) rfl) (aa (iA rfl rfl) (nN (aI hs rfl (fun c18 hs => ?_) (fun c18 hs => ?_))))))
 refine nG (aa (ah (v := (I6 ((dY x6 (a.length : Int))))) rfl) (aa (ae (v := (.slice none 0 0)) rfl) (aa (ae (v := (I6 ((dY x6 (a.length : Int))))) rfl) (nR (aF (ay (ay (aF (ay (Jd (v1 := (.slice none 0 0)) (v2 := (I6 ((dY x6 (a.length : Int))))) Tryz.results48 rfl rfl ?_))))))))))
 obtain rfl := fP hs
 exact ⟨h.grown, _, rfl, fI.nil, lN⟩
 refine aH (ax (ak (aC (aa (dP rfl rfl e10r) (aa (ah (v := (I6 ((i5 + 1)))) rfl) (az (au ?_)))))))
 subst hnx8
 exact jB ⟨k4 + 1, i5 + 1⟩ ⟨h.cn _, by omega, hs⟩ (by have := p8 e9; dsimp only; omega)
 rw [fV (hik ▸ e9), fQ] at hs
 refine nE (Cq h 5 fun w b19 h => tK h 6 Jm fun w b20 h => gq h 6 [(.map (some b19))] rfl Jm rfl rfl rfl rfl rfl fun w h => nJ (tK h 7 qD fun w NA h => nJ (aa (r9 (c1 := []) (c2 := [(.pointer (some ⟨b20, 0, none⟩)), (.pointer (some ⟨NA, 0, none⟩))]) rfl rfl) (aa (ae (v := (.func (.func 82) #[] #[(.pointer (some ⟨b20, 0, none⟩)), (.pointer (some ⟨NA, 0, none⟩))])) rfl) (nN (aM ?_))))))
 refine nG (aa (ah (v := vb) rfl) (aa (bW aZ rfl (h.iV 2 rfl)) (aa (ah (v := (I6 0)) rfl) (nN (aO ?_)))))
 replace h := h.yj (R := eP) (E := 3) 11
 refine gu (σ := Nat × Int × Value × List Int × List (Int × Bool)) (inl ([14] ++ rg 44 8)) (fun ⟨Rp, i35, v31, y32, SG⟩ => [(44, (I6 i35))]) (fun ⟨Rp, i35, v31, y32, SG⟩ w => SH w0 M BE w (hset [(1, .sr (rU bC) va a), (2, .sr bC vb b), (5, .mp b19 (List.map (fun p => (p.1, (fun x => Value.bool x) p.2)) SG)), (6, .blk b20 [(.map (some b19))]), (7, .blk NA [v31]), (11, .own eP 3 v31 y32)]) ∧ i35 = (Rp : Int) ∧ each uV (xR N a) (b.drop Rp) (y32, SG) = some r) (fun ⟨Rp, i35, v31, y32, SG⟩ => b.length - Rp) ⟨0, 0, (.slice none 0 0), [], ([] : List (Int × Bool))⟩ ⟨rfl, trivial⟩ ?_ ?_
 exact ⟨h.cn _, rfl, hs⟩
 rintro ⟨Rp, i35, v31, y32, SG⟩ w dO ⟨h, hik, hs⟩
 refine nG ?_
 refine aa (eB rfl rfl) (nN ?_)
 refine aM (gK rfl (fun e39 => ?_) (fun e39 => ?_))
 refine aH (ak ?_)
 obtain ⟨iU, e40a, e40b⟩ := fU (hik ▸ e39)
 rw [e40b, dV] at hs
 generalize ZL : each uV (xR N a) (b.drop (Rp + 1)) = Qd at hs
 have e40r := gm ((h.iV 2 rfl)).bT hik e39
 refine bX (σ := Value × List Int × List (Int × Bool)) (inl [14, 46, 47, 48, 49, 50]) (fun ⟨v41, AU, DN⟩ => []) (fun ⟨v41, AU, DN⟩ w => SH w0 M BE w (hset [(1, .sr (rU bC) va a), (2, .sr bC vb b), (5, .mp b19 (List.map (fun p => (p.1, (fun x => Value.bool x) p.2)) DN)), (6, .blk b20 [(.map (some b19))]), (7, .blk NA [v41]), (11, .own eP 3 v41 AU)]) ∧ xP Qd AU DN = some r) ?_ ?_
 rintro ⟨v41, AU, DN⟩ w dO ⟨h, hs⟩
 refine aC (aa (dP rfl rfl e40r) (aa (ah (v := (I6 ((i35 + 1)))) rfl) (az (au ?_))))
 subst ZL
 exact jB ⟨Rp + 1, i35 + 1, v41, AU, DN⟩ ⟨h.cn _, by omega, hs⟩ (by have := p8 e39; dsimp only; omega)
 refine aO (nG ?_)
 obtain ⟨b45, o46, cs47, h, r48, i44⟩ := h.zP 2 12 rfl aZ rfl (iI hik) (fZ hik e40a)
 obtain rfl := r48
 refine aa (i44 _ _ _ _ _ _ _ _ _ rfl rfl) (aa (jo (k := 0) (vs := [(I6 iU.kind), (I6 iU.n)]) h 12 rfl aY rfl rfl rfl (bF rfl)) (bP h 13 aY fun w b49 h => dH (vs := [(I6 iU.kind), (I6 iU.n)]) h 13 [(I6 iU.kind), (I6 iU.n)] rfl aY rfl rfl rfl rfl rfl (ai rfl (ai rfl aS)) fun w h => nN (aC (aa (ah (v := (.func (.func 82) #[] #[(.pointer (some ⟨b20, 0, none⟩)), (.pointer (some ⟨NA, 0, none⟩))])) rfl) (aa (dK (vs := [(I6 iU.kind), (I6 iU.n)]) h 13 rfl aY rfl rfl rfl) (lh (args := [(.agg #[(I6 iU.kind), (I6 iU.n)]), (.pointer (some ⟨b20, 0, none⟩)), (.pointer (some ⟨NA, 0, none⟩))]) YU rfl rfl (aQ (args := [(.agg #[(I6 iU.kind), (I6 iU.n)]), (.pointer (some ⟨b20, 0, none⟩)), (.pointer (some ⟨NA, 0, none⟩))]) Tryz.func82 rfl Tryz.ntmps82 (bF rfl) (nG (mD (cs := [(I6 iU.kind), (I6 iU.n)]) h 14 rfl rfl fun w b50 h => nJ (aa (ag mW rfl) (aa (aA h 14 rfl aU rfl rfl) (aa (bz rfl rfl) (aa (ah (v := (.bool (decide ((iU.kind : Int) = 2)))) rfl) (aG rfl rfl (fun q => aA h 6 rfl Jm rfl rfl) (aG rfl rfl (fun q => ag fu rfl) ?_)))))))))))))))
 refine aG rfl rfl (fun q => aA h 14 rfl aU (eD q) rfl) (aG rfl rfl (fun q => r_lk1 (f := (fun x => Value.bool x)) (zz := false) SG h 5 rfl Iy (eD q) (eD q) rfl rfl) (aG rfl rfl (fun q => gL (eD q)) (aa (gZ rfl rfl nC) (nN (aI hs rfl (fun c51 hs => ?_) (fun c51 hs => ?_))))))
 refine nG (aa (aA h 6 rfl Jm rfl rfl) (aa (ag fu rfl) (aa (aA h 14 rfl aU rfl rfl) (ED (ko := (List.map (fun p => (p.1, (fun x => Value.bool x) p.2)) (DD iU.n true SG))) h 5 rfl Iy rfl rfl rfl (FI (f := (fun x => Value.bool x)) _) fun w h => nN (aC (aa (aA h 7 rfl qD rfl rfl) (aa (ag fu rfl) (aa (aA h 14 rfl aU rfl rfl) (tL (R := eP) (vs := [(I6 iU.n)]) (xs := [iU.n]) h 15 jC rfl rfl rfl ⟨rfl, trivial⟩ rfl fun w u52 h => ?_)))))))))
 obtain ⟨a53, hs⟩ := bB hs
 refine lV (R := eP) (m := [iU.n]) h 11 rfl (h.eG 15 rfl) jC rfl rfl rfl a53.1 a53.2 fun w u54 h => gq h 7 [u54] rfl qD rfl rfl rfl rfl (h.dm 11 rfl).one fun w h => az (N8 Tryz.results82 (⟨_, rfl, ?_⟩))
 refine az (ax (au ?_))
 exact bQ (u54, (y32 ++ [iU.n]), (DD iU.n true SG)) ⟨h.cn _, hs⟩
 refine aH (N8 Tryz.results82 (⟨_, rfl, ?_⟩))
 refine az (ax (au ?_))
 exact bQ (v31, y32, SG) ⟨h.cn _, hs⟩
 rw [fV (hik ▸ e39), fQ] at hs
 refine iL (bI (bI (eH (ak (aM (nG (aa (ae (v := (I6 0)) rfl) (nN (aO (gu (σ := Nat × Int × Value × List Int × List (Int × Bool)) (inl ([15, 17] ++ rg 52 22)) (fun ⟨m74, ME, v68, BD, Dv⟩ => [(15, (I6 ME))]) (fun ⟨m74, ME, v68, BD, Dv⟩ w => SH w0 M BE w (hset [(1, .sr (rU bC) va a), (5, .mp b19 (List.map (fun p => (p.1, (fun x => Value.bool x) p.2)) Dv)), (6, .blk b20 [(.map (some b19))]), (7, .blk NA [v68]), (11, .own eP 3 v68 BD)]) ∧ again (pG a) m74 (ME, BD, Dv) = some r) (fun ⟨m74, ME, v68, BD, Dv⟩ => m74) ⟨N, 0, v31, y32, SG⟩ ⟨rfl, trivial⟩ ?_ ?_))))))))))
 exact ⟨h.cn _, hs⟩
 rintro ⟨m74, ME, v68, BD, Dv⟩ w dO ⟨h, hs⟩
 obtain ⟨m741, m74e, m74h⟩ := qA hs
 subst m74e
 replace hs := m74h
 generalize hnx75 : again (pG a) m741 = Rw at hs
 refine aM (nG (aa (ah (v := (I6 ME)) rfl) (aa (aA h 7 rfl qD rfl rfl) (aa (bW bV rfl (h.eG 11 rfl)) (aa (eB rfl rfl) (nN (aI hs rfl (fun c78 hs => ?_) (fun c78 hs => ?_))))))))
 refine aH (ak (aM (aO (nG (aa (ah (v := va) rfl) (aa (aA h 7 rfl qD rfl rfl) (aa (ah (v := (I6 ME)) rfl) ?_)))))))
 obtain ⟨x79, e80, hs⟩ := aK hs
 obtain ⟨b82, q83, i81⟩ := h.qY 11 rfl bV rfl (aB e80).1 (aB e80).2
 refine aa (i81 _ _ _ _ _ _ _ _ _ rfl rfl) ?_
 obtain ⟨cs84, m85, r86⟩ := h.uF 11 rfl q83 (aB e80).2
 obtain rfl := r86
 refine aa (kH (k := 0) m85 aU rfl rfl) ?_
 obtain ⟨x87, e88, hs⟩ := aK hs
 obtain ⟨b90, o91, cs92, h, r93, i89⟩ := h.zP 1 16 rfl eQ rfl (aB e88).1 (aB e88).2
 obtain ⟨u94, rfl, g95⟩ := r93
 replace h := h.dA 17 g95.up
 refine aa (i89 _ _ _ _ _ _ _ _ _ rfl rfl) (aa (fq (k := 0) h 16 rfl j3 rfl rfl) (aa (bW aZ rfl (h.ny 17 rfl)) (aa (ah (v := (I6 0)) rfl) (nN (aO (gu (σ := Nat × Int × Value × List Int × List (Int × Bool)) (inl ([17] ++ rg 66 8)) (fun ⟨NG, i109, v105, jg, tQ⟩ => [(66, (I6 i109))]) (fun ⟨NG, i109, v105, jg, tQ⟩ w => SH w0 M BE w (hset [(1, .sr (rU bC) va a), (5, .mp b19 (List.map (fun p => (p.1, (fun x => Value.bool x) p.2)) tQ)), (6, .blk b20 [(.map (some b19))]), (7, .blk NA [v105]), (11, .own eP 3 v105 jg), (17, .rd bC u94 x87)]) ∧ i109 = (NG : Int) ∧ each rH (rJ ME Rw) (x87.drop NG) (jg, tQ) = some r) (fun ⟨NG, i109, v105, jg, tQ⟩ => x87.length - NG) ⟨0, 0, v68, BD, Dv⟩ ⟨rfl, trivial⟩ ?_ ?_))))))
 exact ⟨h.cn _, rfl, hs⟩
 rintro ⟨NG, i109, v105, jg, tQ⟩ w dO ⟨h, hik, hs⟩
 refine nG ?_
 refine aa (eB rfl rfl) (nN ?_)
 refine aM (gK rfl (fun Qk => ?_) (fun Qk => ?_))
 refine aH (ak ?_)
 obtain ⟨yD, e114a, e114b⟩ := fU (hik ▸ Qk)
 rw [e114b, dV] at hs
 generalize hnx112 : each rH (rJ ME Rw) (x87.drop (NG + 1)) = OA at hs
 have e114r := gm ((h.ny 17 rfl)).bT hik Qk
 refine bX (σ := Value × List Int × List (Int × Bool)) (inl [17, 68, 69, 70, 71, 72]) (fun ⟨ZW, TW, JA⟩ => []) (fun ⟨ZW, TW, JA⟩ w => SH w0 M BE w (hset [(1, .sr (rU bC) va a), (5, .mp b19 (List.map (fun p => (p.1, (fun x => Value.bool x) p.2)) JA)), (6, .blk b20 [(.map (some b19))]), (7, .blk NA [ZW]), (11, .own eP 3 ZW TW), (17, .rd bC u94 x87)]) ∧ xQ OA TW JA = some r) ?_ ?_
 rintro ⟨ZW, TW, JA⟩ w dO ⟨h, hs⟩
 refine aC (aa (dP rfl rfl e114r) (aa (ah (v := (I6 ((i109 + 1)))) rfl) (az (au ?_))))
 subst hnx112
 exact jB ⟨NG + 1, i109 + 1, ZW, TW, JA⟩ ⟨h.cn _, by omega, hs⟩ (by have := p8 Qk; dsimp only; omega)
 refine aO (nG ?_)
 obtain ⟨b119, o120, cs121, h, r122, i118⟩ := h.Cm 17 18 rfl aZ rfl (iI hik) (fZ hik e114a)
 obtain rfl := r122
 refine aa (i118 _ _ _ _ _ _ _ _ _ rfl rfl) (aa (jo (k := 0) (vs := [(I6 yD.kind), (I6 yD.n)]) h 18 rfl aY rfl rfl rfl (bF rfl)) (bP h 19 aY fun w b123 h => dH (vs := [(I6 yD.kind), (I6 yD.n)]) h 19 [(I6 yD.kind), (I6 yD.n)] rfl aY rfl rfl rfl rfl rfl (ai rfl (ai rfl aS)) fun w h => nN (aC (aa (ah (v := (.func (.func 82) #[] #[(.pointer (some ⟨b20, 0, none⟩)), (.pointer (some ⟨NA, 0, none⟩))])) rfl) (aa (dK (vs := [(I6 yD.kind), (I6 yD.n)]) h 19 rfl aY rfl rfl rfl) (lh (args := [(.agg #[(I6 yD.kind), (I6 yD.n)]), (.pointer (some ⟨b20, 0, none⟩)), (.pointer (some ⟨NA, 0, none⟩))]) YU rfl rfl (aQ (args := [(.agg #[(I6 yD.kind), (I6 yD.n)]), (.pointer (some ⟨b20, 0, none⟩)), (.pointer (some ⟨NA, 0, none⟩))]) Tryz.func82 rfl Tryz.ntmps82 (bF rfl) (nG (mD (cs := [(I6 yD.kind), (I6 yD.n)]) h 20 rfl rfl fun w b124 h => nJ (aa (ag mW rfl) (aa (aA h 20 rfl aU rfl rfl) (aa (bz rfl rfl) (aa (ah (v := (.bool (decide ((yD.kind : Int) = 2)))) rfl) (aG rfl rfl (fun q => aA h 6 rfl Jm rfl rfl) (aG rfl rfl (fun q => ag fu rfl) ?_)))))))))))))))
 refine aG rfl rfl (fun q => aA h 20 rfl aU (eD q) rfl) (aG rfl rfl (fun q => r_lk1 (f := (fun x => Value.bool x)) (zz := false) tQ h 5 rfl Iy (eD q) (eD q) rfl rfl) (aG rfl rfl (fun q => gL (eD q)) (aa (gZ rfl rfl nC) (nN (aI hs rfl (fun wE hs => ?_) (fun wE hs => ?_))))))
 refine nG (aa (aA h 6 rfl Jm rfl rfl) (aa (ag fu rfl) (aa (aA h 20 rfl aU rfl rfl) (ED (ko := (List.map (fun p => (p.1, (fun x => Value.bool x) p.2)) (DD yD.n true tQ))) h 5 rfl Iy rfl rfl rfl (FI (f := (fun x => Value.bool x)) _) fun w h => nN (aC (aa (aA h 7 rfl qD rfl rfl) (aa (ag fu rfl) (aa (aA h 20 rfl aU rfl rfl) (tL (R := eP) (vs := [(I6 yD.n)]) (xs := [yD.n]) h 21 jC rfl rfl rfl ⟨rfl, trivial⟩ rfl fun w u126 h => ?_)))))))))
 obtain ⟨a127, hs⟩ := bB hs
 refine lV (R := eP) (m := [yD.n]) h 11 rfl (h.eG 21 rfl) jC rfl rfl rfl a127.1 a127.2 fun w u128 h => gq h 7 [u128] rfl qD rfl rfl rfl rfl (h.dm 11 rfl).one fun w h => az (N8 Tryz.results82 (⟨_, rfl, ?_⟩))
 refine az (ax (au ?_))
 exact bQ (u128, (jg ++ [yD.n]), (DD yD.n true tQ)) ⟨h.cn _, hs⟩
 refine aH (N8 Tryz.results82 (⟨_, rfl, ?_⟩))
 refine az (ax (au ?_))
 exact bQ (v105, jg, tQ) ⟨h.cn _, hs⟩
 rw [fV (hik ▸ Qk), fQ] at hs
 refine iL (bI (bI (eH (ax (ak (aC (aa (ah (v := (I6 ME)) rfl) ?_)))))))
 obtain ⟨a129, hs⟩ := bB hs
 refine aa (dP rfl rfl a129) (aa (ae (v := (I6 ((ME + 1)))) rfl) (az (au ?_)))
 subst hnx75
 exact jB ⟨m741, (ME + 1), v105, jg, tQ⟩ ⟨h.cn _, hs⟩
 refine nE (aa (aA h 7 rfl qD rfl rfl) (aa (ae (v := v68) rfl) (aa (ae (v := (I6 0)) rfl) (nR (Jd (v1 := v68) (v2 := (I6 0)) Tryz.results48 rfl rfl ?_)))))
 obtain rfl := fP hs
 exact ⟨h.grown, _, rfl, (h.jQ 11 rfl).1, (h.jQ 11 rfl).2⟩
def FR (Lf : List Val → Option (List Val)) (yl : List Val) : Option (List Val) :=
  Lf yl
def FT (mL : List (Int × Int)) (i6 : Int) (x4 : List Val) (Lf : List Val → Option (List Val)) : Option (List Val) :=
  (idx x4 i6).bind fun yw => bif decide ((yw.kind : Int) = 2) then FR Lf (x4.set (i6).toNat { yw with n := ((lk yw.n mL).getD (0 : Int)) }) else FR Lf x4
def JB (x4 : List Val) : Option (List Val) :=
  some x4
def MF (sx : List Val) (mL : List (Int × Int)) : Option (List Val) :=
  upto (FT mL) JB 0 ((sx.length : Int)).toNat sx
theorem Rx (w0 : World) (M : BS) (hM : ∀ b, M b → b < w0.heap.size) (bq bm : Nat) (sv : Value) (sx : List Val) (hC : Chunk.holds w0 M (Chunk.own' (.own bC 51 sv sx : Chunk)) (.own bC 51 sv sx : Chunk)) (hap : ∀ b, Chunk.own' (.own bC 51 sv sx : Chunk) b → ¬ M b) (mL : List (Int × Int)) (hbm : zZ w0 bm (List.map (fun p => (p.1, (fun x => Value.int .i64 x) p.2)) mL)) (nbm : ¬ Chunk.own' (.own bC 51 sv sx : Chunk) bm) (hbq : ∃ E, w0.heap[bq]? = some (.cells #[(.map (some bm))] E (0, 0))) (nbq : ¬ Chunk.own' (.own bC 51 sv sx : Chunk) bq) (r : List Val) (hs : MF sx mL = some r) :
    Calls Tryz.prog 50 #[sv, (.pointer (some ⟨bq, 0, none⟩))] w0 (fun e w' => aP (Chunk.own' (.own bC 51 sv sx : Chunk)) w0 w' ∧ e = .returned (.tuple #[]) ∧ Chunk.holds w' M (Chunk.own' (.own bC 51 sv r : Chunk)) (.own bC 51 sv r : Chunk) ∧ (∀ b, Chunk.own' (.own bC 51 sv r : Chunk) b → b < w0.heap.size → Chunk.own' (.own bC 51 sv sx : Chunk) b)) := by
 refine aQ (args := [sv, (.pointer (some ⟨bq, 0, none⟩))]) Tryz.func50 rfl Tryz.ntmps50 (bF rfl) ?_
 have h := SH.Il hM hC hap
 replace h := h.DC 3 (cs := [(.map (some bm))]) hbq nbq Dz
 have nbqK := nbq
 have nbmK := nbm
 generalize vZ : (.own bC 51 sv sx : Chunk).own' = K0 at h nbqK nbmK
 refine nG (aa (ah (v := sv) rfl) (aa (bW aZ rfl (h.eG 1 rfl)) (aa (ah (v := (I6 0)) rfl) (nN (aO ?_)))))
 have hli6 := (h.eG 1 rfl).bT
 refine gu (σ := Nat × Int × List Val) (inl ([3, 4] ++ rg 7 17)) (fun ⟨k5, i6, x4⟩ => [(7, (I6 i6))]) (fun ⟨k5, i6, x4⟩ w => SH w0 M K0 w (hset [(1, .own bC 51 sv x4), (2, .no), (3, .pt bq 0 [(.map (some bm))])]) ∧ i6 = (k5 : Int) ∧ upto (FT mL) JB i6 (((sx.length : Int)).toNat - k5) x4 = some r) (fun ⟨k5, i6, x4⟩ => ((sx.length : Int)).toNat - k5) ⟨0, 0, sx⟩ ⟨rfl, trivial⟩ ?_ ?_
 exact ⟨h.cn _, rfl, hs⟩
 rintro ⟨k5, i6, x4⟩ w dO ⟨h, hik, hs⟩
 refine nG ?_
 refine aa (eB rfl rfl) (nN ?_)
 refine aM (gK rfl (fun e10 => ?_) (fun e10 => ?_))
 refine aH (ak ?_)
 rw [si (by have := p8 e10; omega)] at hs
 generalize Ze : upto (FT mL) JB (i6 + 1) (((sx.length : Int)).toNat - (k5 + 1)) = Lf at hs
 have Zf : jV (i6 + 1) := (by have := p8 e10; have := hli6; exact jV.mk (by omega) (by omega))
 refine bX (σ := List Val) (inl ([3, 4] ++ rg 9 14)) (fun yl => []) (fun yl w => SH w0 M K0 w (hset [(1, .own bC 51 sv yl), (2, .no), (3, .pt bq 0 [(.map (some bm))])]) ∧ FR Lf yl = some r) ?_ ?_
 rintro yl w dO ⟨h, hs⟩
 refine aC (aa (dP rfl rfl Zf) (aa (ah (v := (I6 ((i6 + 1)))) rfl) (az (au ?_))))
 subst Ze
 exact jB ⟨k5 + 1, i6 + 1, yl⟩ ⟨h.cn _, by omega, hs⟩ (by have := p8 e10; dsimp only; omega)
 refine aO (nG (aa (ah (v := (I6 i6)) rfl) ?_))
 obtain ⟨yw, e14, hs⟩ := aK hs
 obtain ⟨b16, q17, i15⟩ := h.qY 1 rfl aZ rfl (aB e14).1 (aB e14).2
 refine aa (i15 _ _ _ _ _ _ _ _ _ rfl rfl) ?_
 obtain ⟨cs18, m19, Zr⟩ := h.uF 1 rfl q17 (aB e14).2
 obtain rfl := Zr
 refine aa (kg (k := 0) (vs := [(I6 yw.kind), (I6 yw.n)]) m19 aY rfl rfl rfl (bF rfl)) (bP h 4 aY fun w NA h => aa (ae (v := (I6 i6)) rfl) (dH (vs := [(I6 yw.kind), (I6 yw.n)]) h 4 [(I6 yw.kind), (I6 yw.n)] rfl aY rfl rfl rfl rfl rfl (ai rfl (ai rfl aS)) fun w h => nJ (aa (ag mW rfl) (aa (aA h 4 rfl aU rfl rfl) (aa (bz rfl rfl) (nN (aI hs rfl (fun c22 hs => ?_) (fun c22 hs => ?_))))))))
 refine aC (aa (ah (v := sv) rfl) (aa (ah (v := (I6 i6)) rfl) (aa (fq (k := 0) h 3 rfl Vj rfl rfl) (aa (ag fu rfl) (aa (aA h 4 rfl aU rfl rfl) (aa (r_lk1M (f := (fun x => Value.int .i64 x)) (zz := (0 : Int)) mL ((hbm).keep h.keep nbmK) Vi rfl rfl rfl) ?_))))))
 obtain ⟨b24, q25, i23⟩ := h.qY 1 rfl aZ rfl (aB e14).1 (aB e14).2
 refine aa (i23 _ _ _ _ _ _ _ _ _ rfl rfl) (aa (ag fu rfl) (Ii (a' := { yw with n := ((lk yw.n mL).getD (0 : Int)) }) h 1 rfl q25 rfl (aB e14).2 aU rfl rfl rfl rfl (by rintro _ rfl; rfl) fun w h => az (ax (au ?_))))
 exact bQ (x4.set (i6).toNat { yw with n := ((lk yw.n mL).getD (0 : Int)) }) ⟨h.cn _, hs⟩
 refine aH (ax (au ?_))
 exact bQ x4 ⟨h.cn _, hs⟩
 rw [sj (by have := of_decide_eq_false e10; omega)] at hs
 refine iL (bI (bI (eH (N8 Tryz.results50 ?_))))
 obtain rfl := fP hs
 subst vZ
 obtain ⟨o1, o2, o3⟩ := h.kJ 1 (C := (.own bC 51 sv x4 : Chunk)) rfl trivial
 exact ⟨o2, rfl, o1, o3⟩
def zF (Ab : List (Int × Int)) (i127 : Int) (JC : List (List Val)) (nx130 : List (List Val) → Option LX.State) : Option LX.State :=
  (idx JC i127).bind fun Gy => (MF Gy Ab).bind fun ZX => nx130 (JC.set (i127).toNat ZX)
def Ap (KF : List LX.Frame) (fH : LX.State) (JC : List (List Val)) : Option LX.State :=
  some (⟨KF, JC, fH.status, fH.aL⟩ : LX.State)
def xS (Ab : List (Int × Int)) (i99 : Int) (KF : List LX.Frame) (nx102 : List LX.Frame → Option LX.State) : Option LX.State :=
  (idx KF i99).bind fun x105 => (MF x105.regs Ab).bind fun JA => nx102 (KF.set (i99).toNat ({ x105 with regs := JA }))
def Aq (Ab : List (Int × Int)) (fH : LX.State) (uR : List (List Val)) (KF : List LX.Frame) : Option LX.State :=
  upto (zF Ab) (Ap KF fH) 0 ((uR.length : Int)).toNat uR
def sZ (fH : LX.State) (i67 : Int) (ZY : Int) (s : List (List Val) × List Int × List (Int × Int)) (nx70 : List (List Val) × List Int × List (Int × Int) → Option LX.State) : Option LX.State :=
  match s with | (uR, NJ, Ab) => (idx fH.cells ZY).bind fun x78 => ib (ZY ∉ NJ) (ib (Room 24 uR [x78]) (nx70 ((uR ++ [x78]), (NJ ++ [ZY]), (DD ZY i67 Ab))))
def vI (fH : LX.State) (s : List (List Val) × List Int × List (Int × Int)) : Option LX.State :=
  match s with | (uR, NJ, Ab) => upto (xS Ab) (Aq Ab fH uR) 0 ((fH.frames.length : Int)).toNat fH.frames
def vJ (yw : LX.Frame) (Ac : List Val) (ZZ : List Val → Option LX.State) : Option LX.State :=
  ib (Room 16 Ac yw.regs) (ZZ (Ac ++ yw.regs))
def Ar (N : Nat) (a : LX.State) (Ac : List Val) : Option LX.State :=
  (D7 N a.cells Ac).bind fun y28 => bif decide ((y28.2 : Int) ≠ 0) then none else (D6 a).bind fun fH => dW (sZ fH) (vI fH) 0 y28.1 ([], ([] : List Int), ([] : List (Int × Int)))
def II (N : Nat) (a : LX.State) : Option LX.State :=
  each vJ (Ar N a) a.frames []
theorem TY (N : Nat) (w0 : World) (M : BS) (hM : ∀ b, M b → b < w0.heap.size) (a : LX.State) (yg xO : Value) (ha0 : gy fC w0 BE M yg a.frames) (ha1 : gy (rU bC) w0 BE M xO a.cells) (r : LX.State) (hs : II N a = some r) :
    Calls Tryz.prog 20 #[(.agg #[yg, xO, (I6 a.status), (I6 a.aL)])] w0 (fun e w' => Grow w0 w' ∧ ∃ uC, ∃ wF, ∃ BG, ∃ GM, e = .returned (.agg #[uC, wF, .int .i64 r.status, .int .i64 r.aL]) ∧ Chunk.holds w' M (Chunk.own' ((cU uC wF r.frames BG r.cells GM) : Chunk)) ((cU uC wF r.frames BG r.cells GM) : Chunk) ∧ (∀ b, Chunk.own' ((cU uC wF r.frames BG r.cells GM) : Chunk) b → w0.heap.size ≤ b)) := by
 refine aQ (args := [(.agg #[yg, xO, (I6 a.status), (I6 a.aL)])]) Tryz.func20 rfl Tryz.ntmps20 (bF rfl) ?_
 have h := SH.init hM
 replace h := h.gz 1 ha0 bH
 replace h := h.gz 2 ha1 (dL bH)
 refine nG (mD (cs := [yg, xO, (I6 a.status), (I6 a.aL)]) h 3 rfl rfl fun w b1 h => bP h 4 bM fun w b2 h => nJ (aa (ae (v := (.slice none 0 0)) rfl) (nK (aa (ag dQ rfl) (aa (aA h 3 rfl gD rfl rfl) (aa (bW dx rfl (h.iV 1 rfl)) (aa (ah (v := (I6 0)) rfl) (nN (aO ?_)))))))))
 replace h := h.yj (R := bC) (E := 51) 8
 refine gu (σ := Nat × Int × Value × List Val) (inl ([3, 5] ++ rg 20 9)) (fun ⟨k11, i12, v9, Ac⟩ => [(3, v9), (20, (I6 i12))]) (fun ⟨k11, i12, v9, Ac⟩ w => SH w0 M BE w (hset [(1, .sr fC yg a.frames), (2, .sr (rU bC) xO a.cells), (3, .blk b1 [yg, xO, (I6 a.status), (I6 a.aL)]), (4, .blk b2 [(.slice none 0 0), (.slice none 0 0), (I6 0), (I6 0)]), (8, .own bC 51 v9 Ac)]) ∧ i12 = (k11 : Int) ∧ each vJ (Ar N a) (a.frames.drop k11) Ac = some r) (fun ⟨k11, i12, v9, Ac⟩ => a.frames.length - k11) ⟨0, 0, (.slice none 0 0), []⟩ ⟨rfl, rfl, trivial⟩ ?_ ?_
 exact ⟨h.cn _, rfl, hs⟩
 rintro ⟨k11, i12, v9, Ac⟩ w dO ⟨h, hik, hs⟩
 refine nG ?_
 refine aa (eB rfl rfl) (nN ?_)
 refine aM (gK rfl (fun e16 => ?_) (fun e16 => ?_))
 refine aH (ak ?_)
 obtain ⟨yw, e17a, e17b⟩ := fU (hik ▸ e16)
 rw [e17b, dV] at hs
 generalize Z0 : each vJ (Ar N a) (a.frames.drop (k11 + 1)) = ZZ at hs
 have e17r := gm ((h.iV 1 rfl)).bT hik e16
 refine aM (aO (nG ?_))
 obtain ⟨b19, o20, cs21, h, r22, i18⟩ := h.zP 1 9 rfl dx rfl (iI hik) (fZ hik e17a)
 obtain ⟨u23, rfl, g24⟩ := uJ r22
 replace h := h.dA 10 g24.up
 refine aa (i18 _ _ _ _ _ _ _ _ _ rfl rfl) (aa (jo (k := 0) (vs := [(I6 yw.proc), (I6 yw.at_), u23, (I6 yw.lW)]) h 9 rfl il rfl rfl rfl (bF rfl)) (bP h 11 il fun w b25 h => dH (vs := [(I6 yw.proc), (I6 yw.at_), u23, (I6 yw.lW)]) h 11 [(I6 yw.proc), (I6 yw.at_), u23, (I6 yw.lW)] rfl il rfl rfl rfl rfl rfl (ai rfl (ai rfl (ai (h.iD 10 rfl).one (ai rfl aS)))) fun w h => nN (aC (aa (ah (v := v9) rfl) (aa (ag jZ rfl) (aa (aA h 11 rfl j3 rfl rfl) ?_))))))
 obtain ⟨a26, hs⟩ := bB hs
 refine lV (R := bC) (m := yw.regs) h 8 rfl (h.ny 10 rfl) kL rfl rfl rfl a26.1 a26.2 fun w u27 h => aa (ae (v := u27) rfl) (az (ax (ak (aC (aa (dP rfl rfl e17r) (aa (ah (v := (I6 ((i12 + 1)))) rfl) (az (au ?_))))))))
 subst Z0
 exact jB ⟨k11 + 1, i12 + 1, u27, (Ac ++ yw.regs)⟩ ⟨h.cn _, by omega, hs⟩ (by have := p8 e16; dsimp only; omega)
 rw [fV (hik ▸ e16), fQ] at hs
 refine nE (aa (ag gF rfl) (aa (aA h 3 rfl jU rfl rfl) (aa (ah (v := v9) rfl) ?_)))
 obtain ⟨y28, e29, hs⟩ := aK hs
 refine aX fnOk48 rfl rfl (Qj N _ _ h.lt xO a.cells (h.iV 2 rfl) v9 Ac (h.eG 8 rfl) _ e29) ?_
 rintro _ w ⟨X4, u30, rfl, g31, g32⟩
 refine ⟨_, rfl, ?_⟩
 replace h := h.mK 12 X4 g31 g32
 refine aa (ah (v := (.tuple #[u30, (I6 y28.2)])) rfl) (aa (bu rfl rfl) (aa (bu rfl rfl) (aa (ae (v := u30) rfl) (aa (ae (v := (I6 y28.2)) rfl) (nK (aa (ah (v := (I6 y28.2)) rfl) (aa (iA rfl rfl) (nN (aI hs rfl (fun c34 hs => ?_) (fun c34 hs => ?_))))))))))
 refine nG (aa (dK (vs := [yg, xO, (I6 a.status), (I6 a.aL)]) h 3 rfl bM rfl rfl rfl) (dH (vs := [yg, xO, (I6 a.status), (I6 a.aL)]) h 4 [yg, xO, (I6 a.status), (I6 a.aL)] rfl bM rfl rfl rfl rfl rfl (ai (h.SN 1 rfl).one (ai (h.SN 2 rfl).one (ai rfl (ai rfl aS)))) fun w h => nR (ay ?_)))
 cases hs
 refine nS (aa (dK (vs := [yg, xO, (I6 a.status), (I6 a.aL)]) h 3 rfl bM rfl rfl rfl) ?_)
 obtain ⟨fH, e36, hs⟩ := aK hs
 refine aX PV rfl rfl (FQ _ _ h.lt a yg xO (h.iV 1 rfl) (h.iV 2 rfl) _ e36) ?_
 rintro _ w ⟨k43, u37, Ry, AZ, JD, rfl, h41, h42⟩
 refine ⟨_, rfl, ?_⟩
 replace h := h.PI 13 (C := (cU u37 Ry fH.frames AZ fH.cells JD)) k43 ⟨⟨⟨trivial, trivial⟩, trivial⟩, trivial⟩ h41 h42
 replace h := h.bY 13 16 (by decide) rfl rfl
 replace h := h.bY 13 15 (by decide) rfl rfl
 replace h := h.bY 13 14 (by decide) rfl rfl
 refine dH (vs := [u37, Ry, (I6 fH.status), (I6 fH.aL)]) h 3 [u37, Ry, (I6 fH.status), (I6 fH.aL)] rfl bM rfl rfl rfl rfl rfl (ai (h.dm 13 rfl).one (ai (h.dm 15 rfl).one (ai rfl (ai rfl aS)))) fun w h => nJ (Cq h 17 fun w Qf h => tK h 18 Vj fun w b45 h => gq h 18 [(.map (some Qf))] rfl Vj rfl rfl rfl rfl rfl fun w h => nJ (aa (ae (v := (.slice none 0 0)) rfl) (nK (aa (ah (v := u30) rfl) (aa (bW bV rfl (h.eG 12 rfl)) (aa (ah (v := (I6 0)) rfl) (nN (aO ?_))))))))
 replace h := h.freeze 12 rfl
 replace h := h.famMv0 16 rfl
 replace h := h.yj (R := (dZ Val).raw) (E := 47) 25
 replace h := h.PE (R := bC) (Es := 51) 26
 refine gu (σ := Nat × Int × Value × List Value × List (List Val) × List Int × List (Int × Int)) (inl ([9, 10, 11] ++ rg 44 17)) (fun ⟨k66, i67, v61, K7, uR, NJ, Ab⟩ => [(9, v61), (44, (I6 i67))]) (fun ⟨k66, i67, v61, K7, uR, NJ, Ab⟩ w => SH w0 M BE w (hset [(3, .blk b1 [u37, Ry, (I6 fH.status), (I6 fH.aL)]), (4, .blk b2 [(.slice none 0 0), (.slice none 0 0), (I6 0), (I6 0)]), (12, .rd eP u30 y28.1), (13, .own bg.raw 49 u37 (List.zip fH.frames AZ)), (14, .ik (dS bC 51 hn AZ (List.map bg.sub fH.frames))), (15, .own (dZ Val).raw 47 Ry (List.zip fH.cells JD)), (16, .ik (dS bC 51 (hmv NJ) JD (List.map (dZ Val).sub fH.cells))), (17, .mp Qf (List.map (fun p => (p.1, (fun x => Value.int .i64 x) p.2)) Ab)), (18, .blk b45 [(.map (some Qf))]), (25, .own (dZ Val).raw 47 v61 (List.zip uR K7)), (26, .ik (dS bC 51 hn K7 (List.map (dZ Val).sub uR)))]) ∧ i67 = (k66 : Int) ∧ dW (sZ fH) (vI fH) i67 (y28.1.drop k66) (uR, NJ, Ab) = some r) (fun ⟨k66, i67, v61, K7, uR, NJ, Ab⟩ => y28.1.length - k66) ⟨0, 0, (.slice none 0 0), ([] : List Value), [], ([] : List Int), ([] : List (Int × Int))⟩ ⟨rfl, rfl, trivial⟩ ?_ ?_
 exact ⟨h.cn _, rfl, hs⟩
 rintro ⟨k66, i67, v61, K7, uR, NJ, Ab⟩ w dO ⟨h, hik, hs⟩
 refine nG ?_
 refine aa (eB rfl rfl) (nN ?_)
 refine aM (gK rfl (fun Vn => ?_) (fun Vn => ?_))
 refine aH (ak ?_)
 obtain ⟨ZY, e72a, e72b⟩ := fU (hik ▸ Vn)
 rw [e72b, ja] at hs
 generalize hnx70 : dW (sZ fH) (vI fH) (i67 + 1) (y28.1.drop (k66 + 1)) = nx70 at hs
 have e72r := gm ((h.ny 12 rfl)).bT hik Vn
 refine aM (aO (nG (aa (ah (v := (I6 i67)) rfl) ?_)))
 obtain ⟨b74, o75, cs76, h, r77, i73⟩ := h.Cm 12 27 rfl bV rfl (iI hik) (fZ hik e72a)
 obtain rfl := r77
 refine aa (i73 _ _ _ _ _ _ _ _ _ rfl rfl) (aa (fq (k := 0) h 27 rfl aU rfl rfl) (aa (ae (v := (I6 i67)) rfl) (aa (ae (v := (I6 ZY)) rfl) (nJ (aa (aA h 18 rfl Vj rfl rfl) (aa (ah (v := (I6 ZY)) rfl) (aa (ah (v := (I6 i67)) rfl) (ED (ko := (List.map (fun p => (p.1, (fun x => Value.int .i64 x) p.2)) (DD ZY i67 Ab))) h 17 rfl Vi rfl rfl rfl (FI (f := (fun x => Value.int .i64 x)) _) fun w h => nN (aC (aa (ah (v := v61) rfl) (aa (ag gF rfl) (aa (aA h 3 rfl jU rfl rfl) (aa (ah (v := (I6 ZY)) rfl) ?_)))))))))))))
 obtain ⟨x78, e79, hs⟩ := aK hs
 obtain ⟨a83, hs⟩ := bB hs
 obtain ⟨u84, e85, h⟩ := h.mvOpenL 16 28 x78 rfl rfl (by decide) (aB e79).1 (aB e79).2 a83 rfl
 obtain ⟨b81, q82, i80⟩ := h.qY 15 rfl eQ rfl (aB e79).1 (eu (aB e79).2 e85)
 refine aa (i80 _ _ _ _ _ _ _ _ _ rfl rfl) ?_
 obtain ⟨cs86, m87, r88⟩ := h.uF 15 rfl q82 (eu (aB e79).2 e85)
 obtain ⟨rfl, -⟩ := r88
 refine aa (kH (k := 0) m87 j3 rfl rfl) ?_
 have u89o : (Value.oneCell' u84) = true := (h.dm 28 rfl).one
 refine tL (R := (dZ Val).raw) (vs := [u84]) (xs := List.zip [x78] [u84]) h 29 kK rfl rfl rfl ⟨⟨fM u89o, u89o⟩, trivial⟩ rfl fun w u89 h => ?_
 replace h := h.pR (N := (dZ Val)) 28 x78 rfl rfl
 obtain ⟨a90, hs⟩ := bB hs
 have z92 := h.fD 26 rfl
 have z92b := h.fD 28 rfl
 refine lV (R := (dZ Val).raw) (m := List.zip [x78] [u84]) h 25 rfl (h.eG 29 rfl) kK rfl rfl rfl (by rw [bS z92, bS z92b]; exact a90.1) (by rw [bS z92, bS z92b]; exact a90.2) fun w ZA h => ?_
 replace h := (h.pO 26 28 rfl rfl (by decide)).fA 29
 rw [pQ z92, ← List.map_append] at h
 obtain ⟨us93, us93e⟩ : ∃ z, z = K7 ++ [u84] := ⟨_, rfl⟩
 rw [← us93e] at h
 refine aa (ae (v := ZA) rfl) (az (ax (ak (aC (aa (dP rfl rfl e72r) (aa (ah (v := (I6 ((i67 + 1)))) rfl) (az (au ?_))))))))
 subst hnx70
 exact jB ⟨k66 + 1, i67 + 1, ZA, us93, (uR ++ [x78]), (NJ ++ [ZY]), (DD ZY i67 Ab)⟩ ⟨h.cn _, by omega, hs⟩ (by have := p8 Vn; dsimp only; omega)
 rw [fV (hik ▸ Vn), mh] at hs
 refine nE (aa (r9 (c1 := []) (c2 := [(.pointer (some ⟨b45, 0, none⟩))]) rfl rfl) (aa (ae (v := (.func (.func 50) #[] #[(.pointer (some ⟨b45, 0, none⟩))])) rfl) (nK (aa (ag dQ rfl) (aa (aA h 3 rfl gD rfl rfl) (aa (mM (N := bg) dx rfl (h.eG 13 rfl) (h.fD 14 rfl)) (aa (ah (v := (I6 0)) rfl) (nN (aO ?_)))))))))
 have hli99 := PL (h.eG 13 rfl) (h.fD 14 rfl)
 refine gu (σ := Nat × Int × List LX.Frame) (inl ([14] ++ rg 65 9)) (fun ⟨k98, i99, KF⟩ => [(65, (I6 i99))]) (fun ⟨k98, i99, KF⟩ w => SH w0 M BE w (hset [(3, .blk b1 [u37, Ry, (I6 fH.status), (I6 fH.aL)]), (4, .blk b2 [(.slice none 0 0), (.slice none 0 0), (I6 0), (I6 0)]), (13, .own bg.raw 49 u37 (List.zip KF AZ)), (14, .ik (dS bC 51 hn AZ (List.map bg.sub KF))), (15, .own (dZ Val).raw 47 Ry (List.zip fH.cells JD)), (16, .ik (dS bC 51 (hmv NJ) JD (List.map (dZ Val).sub fH.cells))), (17, .mp Qf (List.map (fun p => (p.1, (fun x => Value.int .i64 x) p.2)) Ab)), (18, .blk b45 [(.map (some Qf))]), (25, .own (dZ Val).raw 47 v61 (List.zip uR K7)), (26, .ik (dS bC 51 hn K7 (List.map (dZ Val).sub uR)))]) ∧ i99 = (k98 : Int) ∧ upto (xS Ab) (Aq Ab fH uR) i99 (((fH.frames.length : Int)).toNat - k98) KF = some r) (fun ⟨k98, i99, KF⟩ => ((fH.frames.length : Int)).toNat - k98) ⟨0, 0, fH.frames⟩ ⟨rfl, trivial⟩ ?_ ?_
 exact ⟨h.cn _, rfl, hs⟩
 rintro ⟨k98, i99, KF⟩ w dO ⟨h, hik, hs⟩
 refine nG ?_
 refine aa (eB rfl rfl) (nN ?_)
 refine aM (gK rfl (fun Z4 => ?_) (fun Z4 => ?_))
 refine aH (ak ?_)
 rw [si (by have := p8 Z4; omega)] at hs
 generalize hnx102 : upto (xS Ab) (Aq Ab fH uR) (i99 + 1) (((fH.frames.length : Int)).toNat - (k98 + 1)) = nx102 at hs
 have e104r : jV (i99 + 1) := (by have := p8 Z4; have := hli99; exact jV.mk (by omega) (by omega))
 refine aM (aO (nG ?_))
 obtain ⟨x105, Z5, hs⟩ := aK hs
 obtain ⟨Ga, e111, h⟩ := h.l6 14 30 x105.regs rfl rfl (by decide) (aB Z5).2 rfl
 obtain ⟨b108, q109, i107⟩ := h.qY 13 rfl dx rfl (aB Z5).1 (eu (aB Z5).2 e111)
 refine aa (i107 _ _ _ _ _ _ _ _ _ rfl rfl) ?_
 obtain ⟨cs112, m113, r114⟩ := h.uF 13 rfl q109 (eu (aB Z5).2 e111)
 obtain ⟨rfl, -⟩ := r114
 refine aa (kg (k := 0) (vs := [(I6 x105.proc), (I6 x105.at_), Ga, (I6 x105.lW)]) m113 il rfl rfl rfl (bF rfl)) (bP h 31 il fun w b115 h => dH (vs := [(I6 x105.proc), (I6 x105.at_), Ga, (I6 x105.lW)]) h 31 [(I6 x105.proc), (I6 x105.at_), Ga, (I6 x105.lW)] rfl il rfl rfl rfl rfl rfl (ai rfl (ai rfl (ai (h.dm 30 rfl).one (ai rfl aS)))) fun w h => nN (aC (aa (ah (v := (.func (.func 50) #[] #[(.pointer (some ⟨b45, 0, none⟩))])) rfl) (aa (ag jZ rfl) (aa (aA h 31 rfl j3 rfl rfl) ?_)))))
 obtain ⟨l116a, l116b, l116c⟩ := h.z8 30 (C := (.own bC 51 Ga x105.regs : Chunk)) rfl trivial
 obtain ⟨JA, e118, hs⟩ := aK hs
 refine aX YQ rfl rfl (Rx _ _ l116c b45 Qf Ga x105.regs l116a l116b Ab (h.SQ 17 rfl) (fun hb => h.apart 30 17 (by decide) _ hb rfl) (h.uD 18 rfl) (fun hb => h.apart 30 18 (by decide) _ hb rfl) _ e118) ?_
 rintro _ w ⟨k119, rfl, h120, h121⟩
 refine ⟨_, rfl, ?_⟩
 replace h := h.back 30 (C := (.own bC 51 Ga x105.regs : Chunk)) (C' := (.own bC 51 Ga JA : Chunk)) rfl trivial h120 k119 h121
 refine az (ax (ak (aC (aa (dP rfl rfl e104r) (aa (ah (v := (I6 ((i99 + 1)))) rfl) (az ?_))))))
 replace h := h.l5 13 14 30 ({ x105 with regs := JA }) rfl rfl rfl (by decide) (by decide) (by decide) (aB Z5).2 e111 rfl
 refine au ?_
 subst hnx102
 exact jB ⟨k98 + 1, i99 + 1, (KF.set (i99).toNat ({ x105 with regs := JA }))⟩ ⟨h.cn _, by omega, hs⟩ (by have := p8 Z4; dsimp only; omega)
 rw [sj (by have := of_decide_eq_false Z4; omega)] at hs
 refine iL (bI (bI (eH (ak (aM (nG (aa (ah (v := v61) rfl) (aa (mM (N := (dZ Val)) eQ rfl (h.eG 25 rfl) (h.fD 26 rfl)) (aa (ah (v := (I6 0)) rfl) (nN (aO ?_)))))))))))
 have hli127 := PL (h.eG 25 rfl) (h.fD 26 rfl)
 refine gu (σ := Nat × Int × List (List Val)) (inl ([16] ++ rg 76 8)) (fun ⟨Rz, i127, JC⟩ => [(76, (I6 i127))]) (fun ⟨Rz, i127, JC⟩ w => SH w0 M BE w (hset [(3, .blk b1 [u37, Ry, (I6 fH.status), (I6 fH.aL)]), (4, .blk b2 [(.slice none 0 0), (.slice none 0 0), (I6 0), (I6 0)]), (13, .own bg.raw 49 u37 (List.zip KF AZ)), (14, .ik (dS bC 51 hn AZ (List.map bg.sub KF))), (15, .own (dZ Val).raw 47 Ry (List.zip fH.cells JD)), (16, .ik (dS bC 51 (hmv NJ) JD (List.map (dZ Val).sub fH.cells))), (17, .mp Qf (List.map (fun p => (p.1, (fun x => Value.int .i64 x) p.2)) Ab)), (18, .blk b45 [(.map (some Qf))]), (25, .own (dZ Val).raw 47 v61 (List.zip JC K7)), (26, .ik (dS bC 51 hn K7 (List.map (dZ Val).sub JC)))]) ∧ i127 = (Rz : Int) ∧ upto (zF Ab) (Ap KF fH) i127 (((uR.length : Int)).toNat - Rz) JC = some r) (fun ⟨Rz, i127, JC⟩ => ((uR.length : Int)).toNat - Rz) ⟨0, 0, uR⟩ ⟨rfl, trivial⟩ ?_ ?_
 exact ⟨h.cn _, rfl, hs⟩
 rintro ⟨Rz, i127, JC⟩ w dO ⟨h, hik, hs⟩
 refine nG ?_
 refine aa (eB rfl rfl) (nN ?_)
 refine aM (gK rfl (fun Ql => ?_) (fun Ql => ?_))
 refine aH (ak ?_)
 rw [si (by have := p8 Ql; omega)] at hs
 generalize hnx130 : upto (zF Ab) (Ap KF fH) (i127 + 1) (((uR.length : Int)).toNat - (Rz + 1)) = nx130 at hs
 have e132r : jV (i127 + 1) := (by have := p8 Ql; have := hli127; exact jV.mk (by omega) (by omega))
 refine aM (aO (nG ?_))
 obtain ⟨Gy, Z6, hs⟩ := aK hs
 obtain ⟨u138, Wv, h⟩ := h.l6 26 32 Gy rfl rfl (by decide) (aB Z6).2 rfl
 obtain ⟨b136, q137, i135⟩ := h.qY 25 rfl eQ rfl (aB Z6).1 (eu (aB Z6).2 Wv)
 refine aa (i135 _ _ _ _ _ _ _ _ _ rfl rfl) ?_
 obtain ⟨cs140, m141, r142⟩ := h.uF 25 rfl q137 (eu (aB Z6).2 Wv)
 obtain ⟨rfl, -⟩ := r142
 refine aa (kH (k := 0) m141 j3 rfl rfl) (aa (ae (v := u138) rfl) (nN (aC (aa (ah (v := (.func (.func 50) #[] #[(.pointer (some ⟨b45, 0, none⟩))])) rfl) (aa (ah (v := u138) rfl) ?_)))))
 obtain ⟨l143a, l143b, l143c⟩ := h.z8 32 (C := (.own bC 51 u138 Gy : Chunk)) rfl trivial
 obtain ⟨ZX, e145, hs⟩ := aK hs
 refine aX YQ rfl rfl (Rx _ _ l143c b45 Qf u138 Gy l143a l143b Ab (h.SQ 17 rfl) (fun hb => h.apart 32 17 (by decide) _ hb rfl) (h.uD 18 rfl) (fun hb => h.apart 32 18 (by decide) _ hb rfl) _ e145) ?_
 rintro _ w ⟨k146, rfl, h147, h148⟩
 refine ⟨_, rfl, ?_⟩
 replace h := h.back 32 (C := (.own bC 51 u138 Gy : Chunk)) (C' := (.own bC 51 u138 ZX : Chunk)) rfl trivial h147 k146 h148
 refine az (ax (ak (aC (aa (dP rfl rfl e132r) (aa (ah (v := (I6 ((i127 + 1)))) rfl) (az ?_))))))
 replace h := h.l5 25 26 32 ZX rfl rfl rfl (by decide) (by decide) (by decide) (aB Z6).2 Wv rfl
 refine au ?_
 subst hnx130
 exact jB ⟨Rz + 1, i127 + 1, (JC.set (i127).toNat ZX)⟩ ⟨h.cn _, by omega, hs⟩ (by have := p8 Ql; dsimp only; omega)
 rw [sj (by have := of_decide_eq_false Ql; omega)] at hs
 refine nE (aa (ah (v := v61) rfl) (aa (ag gF rfl) (gq h 3 [u37, v61, (I6 fH.status), (I6 fH.aL)] rfl jU rfl rfl rfl rfl (h.dm 25 rfl).one fun w h => nJ (aa (dK (vs := [u37, v61, (I6 fH.status), (I6 fH.aL)]) h 3 rfl bM rfl rfl rfl) (dH (vs := [u37, v61, (I6 fH.status), (I6 fH.aL)]) h 4 [u37, v61, (I6 fH.status), (I6 fH.aL)] rfl bM rfl rfl rfl rfl rfl (ai (h.dm 13 rfl).one (ai (h.dm 25 rfl).one (ai rfl (ai rfl aS)))) fun w h => nR (Oi (vs := [u37, v61, (I6 fH.status), (I6 fH.aL)]) Tryz.results20 rfl h 4 rfl bM rfl ?_))))))
 replace h := h.pair 13 14 (by decide)
 replace h := h.pair 13 25 (by decide)
 replace h := h.pair 13 26 (by decide)
 obtain rfl := fP hs
 obtain ⟨o1, o2, o3⟩ := h.kJ 13 (C := (cU u37 v61 KF AZ JC K7)) rfl ⟨⟨⟨trivial, trivial⟩, trivial⟩, trivial⟩
 exact ⟨o2, u37, v61, AZ, K7, rfl, o1, Iq o3⟩
def uX (a : Ins) (y4 : List LX.Frame) (y7 : List (List Val)) (y8 : Int) (y9 : Int) : Option (Bool × LX.State) :=
  bif decide (((y7.length : Int) : Int) = 24) then some (false, (⟨y4, y7, y8, y9⟩ : LX.State)) else ib (jV ((y4.length : Int) - 1)) ((idx y4 ((y4.length : Int) - 1)).bind fun yl => (idx yl.regs a.a).bind fun x22 => ib (0 ≤ a.b ∧ a.b * 16 ≤ 140737488355328) (ib (Room 24 y7 [(List.replicate a.b.toNat (⟨0, 0⟩ : Val))]) (some (true, (⟨(y4.set (((y4.length : Int) - 1)).toNat ({ yl with regs := (yl.regs.set (a.a).toNat (⟨2, (y7.length : Int)⟩ : Val)) })), (y7 ++ [(List.replicate a.b.toNat (⟨0, 0⟩ : Val))]), y8, y9⟩ : LX.State)))))
def MG (N : Nat) (sx : LX.State) (a : Ins) : Option (Bool × LX.State) :=
  bif decide (((sx.cells.length : Int) : Int) = 24) then (II N sx).bind fun y39 => uX a y39.frames y39.cells y39.status y39.aL else uX a sx.frames sx.cells sx.status sx.aL
theorem MH (N : Nat) (w0 : World) (M : BS) (hM : ∀ b, M b → b < w0.heap.size) (sb : Nat) (sx : LX.State) (gT vs1 : Value) (iH ig : List Value) (hC : Chunk.holds w0 M (Chunk.own' (cT sb gT vs1 (sx.status) (sx.aL) sx.frames iH sx.cells ig)) (cT sb gT vs1 (sx.status) (sx.aL) sx.frames iH sx.cells ig)) (hap : ∀ b, Chunk.own' (cT sb gT vs1 (sx.status) (sx.aL) sx.frames iH sx.cells ig) b → ¬ M b) (a : Ins) (Az : Value) (ha4 : gX eP w0 (fun b => M b ∨ (cT sb gT vs1 (sx.status) (sx.aL) sx.frames iH sx.cells ig).own' b) Az a.args) (r : Bool × LX.State) (hs : MG N sx a = some r) :
    Calls Tryz.prog 89 #[(.pointer (some ⟨sb, 0, none⟩)), (.agg #[(I6 a.op), (I6 a.a), (I6 a.b), (I6 a.c), Az])] w0 (fun e w' => aP (Chunk.own' (cT sb gT vs1 (sx.status) (sx.aL) sx.frames iH sx.cells ig)) w0 w' ∧ ∃ Ll, ∃ Lm, ∃ Lp, ∃ Lr, e = .returned (.bool r.1) ∧ Chunk.holds w' M (Chunk.own' (cT sb Ll Lm r.2.status r.2.aL r.2.frames Lp r.2.cells Lr)) (cT sb Ll Lm r.2.status r.2.aL r.2.frames Lp r.2.cells Lr) ∧ (∀ b, Chunk.own' (cT sb Ll Lm r.2.status r.2.aL r.2.frames Lp r.2.cells Lr) b → b < w0.heap.size → Chunk.own' (cT sb gT vs1 (sx.status) (sx.aL) sx.frames iH sx.cells ig) b)) := by
 refine aQ (args := [(.pointer (some ⟨sb, 0, none⟩)), (.agg #[(I6 a.op), (I6 a.a), (I6 a.b), (I6 a.c), Az])]) Tryz.func89 rfl Tryz.ntmps89 (bF rfl) ?_
 have h := SH.Il hM hC hap
 replace h := h.EH 6 ha4 Dz
 generalize vZ : (cT sb gT vs1 (sx.status) (sx.aL) sx.frames iH sx.cells ig).own' = K0 at h
 replace h := h.bY 1 5 (by decide) rfl rfl
 replace h := h.bY 1 4 (by decide) rfl rfl
 replace h := h.bY 1 3 (by decide) rfl rfl
 replace h := h.bY 1 2 (by decide) rfl rfl
 refine nG (mD (cs := [(I6 a.op), (I6 a.a), (I6 a.b), (I6 a.c), Az]) h 7 rfl rfl fun w b1 h => aa (ae (v := (.bool (false))) rfl) (nN (bX (σ := Value × List Value × List LX.Frame × Value × List Value × List (List Val) × Int × Int) (inl (rg 5 12)) (fun ⟨v2, X8, y4, v5, NI, y7, y8, y9⟩ => []) (fun ⟨v2, X8, y4, v5, NI, y7, y8, y9⟩ w => SH w0 M K0 w (hset [(1, .blk sb [v2, v5, (I6 y8), (I6 y9)]), (6, .rd eP Az a.args), (7, .blk b1 [(I6 a.op), (I6 a.a), (I6 a.b), (I6 a.c), Az]), (8, .own bg.raw 49 v2 (List.zip y4 X8)), (9, .ik (dS bC 51 hn X8 (List.map bg.sub y4))), (10, .own (dZ Val).raw 47 v5 (List.zip y7 NI)), (11, .ik (dS bC 51 hn NI (List.map (dZ Val).sub y7)))]) ∧ uX a y4 y7 y8 y9 = some r) ?_ ?_)))
 rintro ⟨v2, X8, y4, v5, NI, y7, y8, y9⟩ w dO ⟨h, hs⟩
 refine aM (nG (aa (ah (v := (.pointer (some ⟨sb, 0, none⟩))) rfl) (aa (aW rfl) (aa (ag gF rfl) (aa (aA h 1 rfl jU rfl rfl) (aa (mM (N := (dZ Val)) eQ rfl (h.eG 10 rfl) (h.fD 11 rfl)) (aa (bz rfl rfl) (nN (aI hs rfl (fun c10 hs => ?_) (fun c10 hs => ?_))))))))))
 refine nG (aa (ae (v := (.bool (false))) rfl) (nR (ay (dD (v := (.bool (false))) Tryz.results89 rfl ?_))))
 replace h := h.pair 1 8 (by decide)
 replace h := h.pair 1 9 (by decide)
 replace h := h.pair 1 10 (by decide)
 replace h := h.pair 1 11 (by decide)
 obtain rfl := fP hs
 subst vZ
 obtain ⟨o1, o2, o3⟩ := h.kJ 1 (C := (cT sb v2 v5 (y8) (y9) y4 X8 y7 NI)) rfl ⟨⟨⟨⟨trivial, trivial⟩, trivial⟩, trivial⟩, trivial⟩
 exact ⟨o2, v2, v5, X8, NI, rfl, o1, o3⟩
 refine aH (ak (aM (lg 22 mixed (by kernel_rfl) h fun w h => aD (ah (v := (.pointer (some ⟨sb, 0, none⟩))) rfl) (aD (aW rfl) (aD (ag dQ rfl) (aD (aA h 1 rfl gD rfl rfl) (aD (ah (v := (.pointer (some ⟨sb, 0, none⟩))) rfl) (aD (aW rfl) (aD (ag dQ rfl) (aD (aA h 1 rfl gD rfl rfl) (aD (mM (N := bg) dx rfl (h.eG 8 rfl) (h.fD 9 rfl)) ?_)))))))))))
 obtain ⟨a11, hs⟩ := bB hs
 refine aD (mV rfl rfl a11) ?_
 obtain ⟨yl, e13, hs⟩ := aK hs
 obtain ⟨QB, e18, h⟩ := h.l6 9 12 yl.regs rfl rfl (by decide) (aB e13).2 rfl
 obtain ⟨b15, q16, i14⟩ := h.qY 8 rfl dx rfl (aB e13).1 (eu (aB e13).2 e18)
 refine aD (i14 _ _ _ _ _ _ _ _ _ rfl rfl) (aD (ag jZ rfl) ?_)
 obtain ⟨cs19, m20, r21⟩ := h.uF 8 rfl q16 (eu (aB e13).2 e18)
 obtain ⟨rfl, -⟩ := r21
 refine aD (kH (k := 2) m20 j3 rfl rfl) (aD (ag jb rfl) (aD (aA h 7 rfl aU rfl rfl) (aD (ah (v := (.pointer (some ⟨sb, 0, none⟩))) rfl) (aD (aW rfl) (aD (ag gF rfl) (aD (aA h 1 rfl jU rfl rfl) (aD (mM (N := (dZ Val)) eQ rfl (h.eG 10 rfl) (h.fD 11 rfl)) (aD (ek (pv := [(0, (I6 2)), (1, (I6 ((y7.length : Int))))]) (out := [(I6 2), (I6 ((y7.length : Int)))]) qE rfl ⟨0, 1, [(I6 2)], rfl, rfl, rfl, bF rfl, ⟨1, 1, [(I6 ((y7.length : Int)))], rfl, rfl, rfl, bF rfl, rfl⟩⟩) ?_))))))))
 obtain ⟨x22, e23, hs⟩ := aK hs
 obtain ⟨b25, q26, i24⟩ := h.qY 12 rfl aZ rfl (aB e23).1 (aB e23).2
 refine aD (i24 _ _ _ _ _ _ _ _ _ rfl rfl) (uH (ry (a' := (⟨2, (y7.length : Int)⟩ : Val)) (vs := [(I6 2), (I6 ((y7.length : Int)))]) h 12 rfl q26 rfl (aB e23).2 aY rfl rfl rfl rfl rfl fun w h k27 => nN (aM (kI (L := (fun b => ob v5 b ∨ b = sb)) mixed h fun w h => bE 0 (aP.refl _ _) rfl aj (by kernel_rfl) (by kernel_rfl) (by kernel_rfl) (fun w hk => ah (v := (.pointer (some ⟨sb, 0, none⟩))) rfl) (bE 1 (aP.refl _ _) rfl aj (by kernel_rfl) (by kernel_rfl) (by kernel_rfl) (fun w hk => ah (v := (.pointer (some ⟨sb, 0, none⟩))) rfl) (bE 2 (aP.refl _ _) rfl aj (by kernel_rfl) (by kernel_rfl) (by kernel_rfl) (fun w hk => aW rfl) (bE 3 (aP.refl _ _) rfl aj (by kernel_rfl) (by kernel_rfl) (by kernel_rfl) (fun w hk => ag gF rfl) (bE 5 (aP.refl _ _) rfl aj (by kernel_rfl) (by kernel_rfl) (by kernel_rfl) (fun w hk => ag gp rfl) (bE 6 (aP.refl _ _) rfl aj (by kernel_rfl) (by kernel_rfl) (by kernel_rfl) (fun w hk => have h := h.wB 10 1 (by decide) rfl rfl hk; aA h 7 rfl aU rfl rfl) ?_)))))))))
 obtain ⟨RA, hs⟩ := bB hs
 obtain ⟨CV, hs⟩ := bB hs
 obtain ⟨Qm, ws36e⟩ : ∃ x, x = w := ⟨_, rfl⟩
 have mP : aP (fun b => ob v5 b ∨ b = sb) Qm w := ws36e ▸ aP.refl (fun b => ob v5 b ∨ b = sb) w
 refine rf ws36e.symm (nD 4 7 (by kernel_rfl) rfl aj rfl aj ?_ ?_)
 refine aa (aA h 1 rfl jU rfl rfl) (az (aR mP (bA 7 (by kernel_rfl) rfl aj (tX (R := bC) (zs := [(I6 0), (I6 0)]) (a := (⟨0, 0⟩ : Val)) h 97 kL aY rfl (by decide) rfl rfl RA rfl (fun _ _ => rfl) fun w l8 h JE JF => ?_))))
 have WB : ∀ b, ob l8 b → Qm.heap.size ≤ b := fun b hb => Nat.le_trans mP.size (JF b hb)
 replace mP := mP.grow JE
 refine az (aR mP (bA 8 (by kernel_rfl) rfl aj ?_))
 have wS : (Value.oneCell' l8) = true := (h.dm 97 rfl).one
 refine xu (R := (dZ Val).raw) (vs := [l8]) (xs := List.zip [(List.replicate a.b.toNat (⟨0, 0⟩ : Val))] [l8]) h 109 kK rfl rfl rfl ⟨⟨fM wS, wS⟩, trivial⟩ rfl fun w E5 h CW CX => ?_
 have OB : ∀ b, ob E5 b → Qm.heap.size ≤ b := fun b hb => Nat.le_trans mP.size (CX b hb)
 replace mP := mP.grow CW
 replace h := h.pR (N := (dZ Val)) 97 (List.replicate a.b.toNat (⟨0, 0⟩ : Val)) rfl rfl
 refine az (aR mP (bA 9 (by kernel_rfl) rfl aj ?_))
 have uY := h.fD 11 rfl
 have wT := h.fD 97 rfl
 have OC := mP.size
 refine mF (R := (dZ Val).raw) (m := List.zip [(List.replicate a.b.toNat (⟨0, 0⟩ : Val))] [l8]) h 10 rfl (h.eG 109 rfl) kK rfl rfl rfl (by rw [bS uY, bS wT]; exact CV.1) (by rw [bS uY, bS wT]; exact CV.2) fun w qK h CY CZ => ?_
 have OD : ∀ b, ob qK b → b < Qm.heap.size → ob v5 b := fun b hb hl => CZ b hb (Nat.lt_of_lt_of_le hl (mP).size)
 replace mP := aP.step mP CY (fun _ hx _ => .inl (hx))
 replace h := (h.pO 11 97 rfl rfl (by decide)).fA 109
 rw [pQ uY, ← List.map_append] at h
 obtain ⟨wU, A7⟩ : ∃ z, z = NI ++ [l8] := ⟨_, rfl⟩
 rw [← A7] at h
 refine az (aR mP (dG 10 mP rfl (by kernel_rfl) (fun w hk => aW rfl) (dG 11 mP rfl (by kernel_rfl) (fun w hk => ag gF rfl) (bA 12 (by kernel_rfl) rfl aj (nP h 1 [v2, qK, (I6 y8), (I6 y9)] rfl jU rfl rfl rfl rfl (h.dm 10 rfl).one fun w h C8 => ?_)))))
 replace mP := aP.step mP C8 (fun _ hx _ => .inr (hx))
 refine az (aR mP (fK (by kernel_rfl) (ak (nG (aa (ae (v := (.bool (true))) rfl) (nR (dD (v := (.bool (true))) Tryz.results89 rfl ?_)))))))
 replace h := h.l5 8 9 12 ({ yl with regs := (yl.regs.set (a.a).toNat (⟨2, (y7.length : Int)⟩ : Val)) }) rfl rfl rfl (by decide) (by decide) (by decide) (aB e13).2 e18 rfl
 replace h := h.pair 1 8 (by decide)
 replace h := h.pair 1 9 (by decide)
 replace h := h.pair 1 10 (by decide)
 replace h := h.pair 1 11 (by decide)
 obtain rfl := fP hs
 subst vZ
 obtain ⟨o1, o2, o3⟩ := h.kJ 1 (C := (cT sb v2 qK (y8) (y9) (y4.set (((y4.length : Int) - 1)).toNat ({ yl with regs := (yl.regs.set (a.a).toNat (⟨2, (y7.length : Int)⟩ : Val)) })) X8 (y7 ++ [(List.replicate a.b.toNat (⟨0, 0⟩ : Val))]) wU)) rfl ⟨⟨⟨⟨trivial, trivial⟩, trivial⟩, trivial⟩, trivial⟩
 exact ⟨o2, v2, qK, X8, wU, rfl, o1, o3⟩
 refine tX (R := bC) (zs := [(I6 0), (I6 0)]) (a := (⟨0, 0⟩ : Val)) h 97 kL aY rfl (by decide) rfl rfl RA rfl (fun _ _ => rfl) fun w l8 h JE JF => ?_
 have WB : ∀ b, ob l8 b → Qm.heap.size ≤ b := fun b hb => Nat.le_trans mP.size (JF b hb)
 replace mP := mP.grow JE
 refine az (aR mP (nD 4 8 (by kernel_rfl) rfl aj rfl aj ?_ ?_))
 refine aa (aA h 1 rfl jU rfl rfl) (az (aR mP (bA 8 (by kernel_rfl) rfl aj ?_)))
 have wS : (Value.oneCell' l8) = true := (h.dm 97 rfl).one
 refine xu (R := (dZ Val).raw) (vs := [l8]) (xs := List.zip [(List.replicate a.b.toNat (⟨0, 0⟩ : Val))] [l8]) h 109 kK rfl rfl rfl ⟨⟨fM wS, wS⟩, trivial⟩ rfl fun w E5 h CW CX => ?_
 have OB : ∀ b, ob E5 b → Qm.heap.size ≤ b := fun b hb => Nat.le_trans mP.size (CX b hb)
 replace mP := mP.grow CW
 replace h := h.pR (N := (dZ Val)) 97 (List.replicate a.b.toNat (⟨0, 0⟩ : Val)) rfl rfl
 refine az (aR mP (bA 9 (by kernel_rfl) rfl aj ?_))
 have uY := h.fD 11 rfl
 have wT := h.fD 97 rfl
 have OC := mP.size
 refine mF (R := (dZ Val).raw) (m := List.zip [(List.replicate a.b.toNat (⟨0, 0⟩ : Val))] [l8]) h 10 rfl (h.eG 109 rfl) kK rfl rfl rfl (by rw [bS uY, bS wT]; exact CV.1) (by rw [bS uY, bS wT]; exact CV.2) fun w qK h CY CZ => ?_
 have OD : ∀ b, ob qK b → b < Qm.heap.size → ob v5 b := fun b hb hl => CZ b hb (Nat.lt_of_lt_of_le hl (mP).size)
 replace mP := aP.step mP CY (fun _ hx _ => .inl (hx))
 replace h := (h.pO 11 97 rfl rfl (by decide)).fA 109
 rw [pQ uY, ← List.map_append] at h
 obtain ⟨wU, A7⟩ : ∃ z, z = NI ++ [l8] := ⟨_, rfl⟩
 rw [← A7] at h
 refine az (aR mP (dG 10 mP rfl (by kernel_rfl) (fun w hk => aW rfl) (dG 11 mP rfl (by kernel_rfl) (fun w hk => ag gF rfl) (bA 12 (by kernel_rfl) rfl aj (nP h 1 [v2, qK, (I6 y8), (I6 y9)] rfl jU rfl rfl rfl rfl (h.dm 10 rfl).one fun w h C8 => ?_)))))
 replace mP := aP.step mP C8 (fun _ hx _ => .inr (hx))
 refine az (aR mP (fK (by kernel_rfl) (ak (nG (aa (ae (v := (.bool (true))) rfl) (nR (dD (v := (.bool (true))) Tryz.results89 rfl ?_)))))))
 replace h := h.l5 8 9 12 ({ yl with regs := (yl.regs.set (a.a).toNat (⟨2, (y7.length : Int)⟩ : Val)) }) rfl rfl rfl (by decide) (by decide) (by decide) (aB e13).2 e18 rfl
 replace h := h.pair 1 8 (by decide)
 replace h := h.pair 1 9 (by decide)
 replace h := h.pair 1 10 (by decide)
 replace h := h.pair 1 11 (by decide)
 obtain rfl := fP hs
 subst vZ
 obtain ⟨o1, o2, o3⟩ := h.kJ 1 (C := (cT sb v2 qK (y8) (y9) (y4.set (((y4.length : Int) - 1)).toNat ({ yl with regs := (yl.regs.set (a.a).toNat (⟨2, (y7.length : Int)⟩ : Val)) })) X8 (y7 ++ [(List.replicate a.b.toNat (⟨0, 0⟩ : Val))]) wU)) rfl ⟨⟨⟨⟨trivial, trivial⟩, trivial⟩, trivial⟩, trivial⟩
 exact ⟨o2, v2, qK, X8, wU, rfl, o1, o3⟩
 have wS : (Value.oneCell' l8) = true := (h.dm 97 rfl).one
 refine xu (R := (dZ Val).raw) (vs := [l8]) (xs := List.zip [(List.replicate a.b.toNat (⟨0, 0⟩ : Val))] [l8]) h 109 kK rfl rfl rfl ⟨⟨fM wS, wS⟩, trivial⟩ rfl fun w E5 h CW CX => ?_
 have OB : ∀ b, ob E5 b → Qm.heap.size ≤ b := fun b hb => Nat.le_trans mP.size (CX b hb)
 replace mP := mP.grow CW
 replace h := h.pR (N := (dZ Val)) 97 (List.replicate a.b.toNat (⟨0, 0⟩ : Val)) rfl rfl
 refine az (aR mP (bA 4 (by kernel_rfl) rfl aj (aa (aA h 1 rfl jU rfl rfl) (az (aR mP (bA 9 (by kernel_rfl) rfl aj ?_))))))
 have uY := h.fD 11 rfl
 have wT := h.fD 97 rfl
 have OC := mP.size
 refine mF (R := (dZ Val).raw) (m := List.zip [(List.replicate a.b.toNat (⟨0, 0⟩ : Val))] [l8]) h 10 rfl (h.eG 109 rfl) kK rfl rfl rfl (by rw [bS uY, bS wT]; exact CV.1) (by rw [bS uY, bS wT]; exact CV.2) fun w qK h CY CZ => ?_
 have OD : ∀ b, ob qK b → b < Qm.heap.size → ob v5 b := fun b hb hl => CZ b hb (Nat.lt_of_lt_of_le hl (mP).size)
 replace mP := aP.step mP CY (fun _ hx _ => .inl (hx))
 replace h := (h.pO 11 97 rfl rfl (by decide)).fA 109
 rw [pQ uY, ← List.map_append] at h
 obtain ⟨wU, A7⟩ : ∃ z, z = NI ++ [l8] := ⟨_, rfl⟩
 rw [← A7] at h
 refine az (aR mP (dG 10 mP rfl (by kernel_rfl) (fun w hk => aW rfl) (dG 11 mP rfl (by kernel_rfl) (fun w hk => ag gF rfl) (bA 12 (by kernel_rfl) rfl aj (nP h 1 [v2, qK, (I6 y8), (I6 y9)] rfl jU rfl rfl rfl rfl (h.dm 10 rfl).one fun w h C8 => ?_)))))
 replace mP := aP.step mP C8 (fun _ hx _ => .inr (hx))
 refine az (aR mP (fK (by kernel_rfl) (ak (nG (aa (ae (v := (.bool (true))) rfl) (nR (dD (v := (.bool (true))) Tryz.results89 rfl ?_)))))))
 replace h := h.l5 8 9 12 ({ yl with regs := (yl.regs.set (a.a).toNat (⟨2, (y7.length : Int)⟩ : Val)) }) rfl rfl rfl (by decide) (by decide) (by decide) (aB e13).2 e18 rfl
 replace h := h.pair 1 8 (by decide)
 replace h := h.pair 1 9 (by decide)
 replace h := h.pair 1 10 (by decide)
 replace h := h.pair 1 11 (by decide)
 obtain rfl := fP hs
 subst vZ
 obtain ⟨o1, o2, o3⟩ := h.kJ 1 (C := (cT sb v2 qK (y8) (y9) (y4.set (((y4.length : Int) - 1)).toNat ({ yl with regs := (yl.regs.set (a.a).toNat (⟨2, (y7.length : Int)⟩ : Val)) })) X8 (y7 ++ [(List.replicate a.b.toNat (⟨0, 0⟩ : Val))]) wU)) rfl ⟨⟨⟨⟨trivial, trivial⟩, trivial⟩, trivial⟩, trivial⟩
 exact ⟨o2, v2, qK, X8, wU, rfl, o1, o3⟩
 refine nG (aa (ah (v := (.pointer (some ⟨sb, 0, none⟩))) rfl) (aa (aW rfl) (aa (ag gF rfl) (aa (aA h 1 rfl jU rfl rfl) (aa (mM (N := (dZ Val)) eQ rfl (h.eG 4 rfl) (h.fD 5 rfl)) (aa (bz rfl rfl) (nN (aI hs rfl (fun Q6 hs => ?_) (fun Q6 hs => ?_)))))))))
 refine aC (aa (ah (v := (.pointer (some ⟨sb, 0, none⟩))) rfl) (aa (ah (v := (.pointer (some ⟨sb, 0, none⟩))) rfl) (aa (aW rfl) (aa (dK (vs := [gT, vs1, (I6 sx.status), (I6 sx.aL)]) h 1 rfl bM rfl rfl rfl) ?_))))
 obtain ⟨y39, e40, hs⟩ := aK hs
 refine aX fnOk20 rfl rfl (TY N _ BE (fun _ h => h.elim) sx gT vs1 (h.EJ (N := bg) (R' := fC) 2 3 rfl rfl (by decide) rfl tV) (h.EJ (N := (dZ Val)) (R' := (rU bC)) 4 5 rfl rfl (by decide) rfl yT) _ e40) ?_
 rintro _ w ⟨k47, u41, u43, us42, us44, rfl, h45, h46⟩
 refine ⟨_, rfl, ?_⟩
 replace h := h.U8 181 (C := (cU u41 u43 y39.frames us42 y39.cells us44)) k47 ⟨⟨⟨trivial, trivial⟩, trivial⟩, trivial⟩ ⟨⟨⟨(fun _ _ _ _ _ h => h), (wN (fun _ _ _ _ _ h => h))⟩, (fun _ _ _ _ _ h => h)⟩, (wN (fun _ _ _ _ _ h => h))⟩ h45 h46
 replace h := h.bY 181 184 (by decide) rfl rfl
 replace h := h.bY 181 183 (by decide) rfl rfl
 replace h := h.bY 181 182 (by decide) rfl rfl
 refine aa (aW rfl) (dH (vs := [u41, u43, (I6 y39.status), (I6 y39.aL)]) h 1 [u41, u43, (I6 y39.status), (I6 y39.aL)] rfl bM rfl rfl rfl rfl rfl (ai (h.dm 181 rfl).one (ai (h.dm 183 rfl).one (ai rfl (ai rfl aS)))) fun w h => az (au ?_))
 replace h := (h.fA 8).moveC 181 8 rfl rfl (by decide)
 replace h := (h.fA 9).moveC 182 9 rfl rfl (by decide)
 replace h := (h.fA 10).moveC 183 10 rfl rfl (by decide)
 replace h := (h.fA 11).moveC 184 11 rfl rfl (by decide)
 exact bQ (u41, us42, y39.frames, u43, us44, y39.cells, y39.status, y39.aL) ⟨h.cn _, hs⟩
 refine aH (au ?_)
 replace h := (h.fA 8).moveC 2 8 rfl rfl (by decide)
 replace h := (h.fA 9).moveC 3 9 rfl rfl (by decide)
 replace h := (h.fA 10).moveC 4 10 rfl rfl (by decide)
 replace h := (h.fA 11).moveC 5 11 rfl rfl (by decide)
 exact bQ (gT, iH, sx.frames, vs1, ig, sx.cells, sx.status, sx.aL) ⟨h.cn _, hs⟩
def yE (sx : LX.State) (i11 : Int) (yl : Int) (y9 : List Val) (nx14 : List Val → Option (Bool × LX.State)) : Option (Bool × LX.State) :=
  ib (jV ((sx.frames.length : Int) - 1)) ((idx sx.frames ((sx.frames.length : Int) - 1)).bind fun uB => (idx uB.regs yl).bind fun CE => (idx y9 i11).bind fun x41 => nx14 (y9.set (i11).toNat CE))
def yF (sx : LX.State) (b : Ins) (a : List bL) (y9 : List Val) : Option (Bool × LX.State) :=
  ib (Room 48 sx.frames [(⟨b.b, 0, y9, b.a⟩ : LX.Frame)]) (some (true, (⟨(sx.frames ++ [(⟨b.b, 0, y9, b.a⟩ : LX.Frame)]), sx.cells, sx.status, sx.aL⟩ : LX.State)))
def MI (sx : LX.State) (i62 : Int) (uR : Int) (yn : List Val) (P5 : List Val → Option (Bool × LX.State)) : Option (Bool × LX.State) :=
  ib (jV ((sx.frames.length : Int) - 1)) ((idx sx.frames ((sx.frames.length : Int) - 1)).bind fun x74 => (idx x74.regs uR).bind fun x84 => (idx yn i62).bind fun x92 => P5 (yn.set (i62).toNat x84))
def MJ (sx : LX.State) (b : Ins) (a : List bL) (yn : List Val) : Option (Bool × LX.State) :=
  ib (Room 48 sx.frames [(⟨b.b, 0, yn, b.a⟩ : LX.Frame)]) (some (true, (⟨(sx.frames ++ [(⟨b.b, 0, yn, b.a⟩ : LX.Frame)]), sx.cells, sx.status, sx.aL⟩ : LX.State)))
def Qn (sx : LX.State) (a : List bL) (b : Ins) : Option (Bool × LX.State) :=
  bif decide (((sx.frames.length : Int) : Int) = 10) then some (false, sx) else (idx a b.b).bind fun FU => ib (0 ≤ FU.regs ∧ FU.regs * 16 ≤ 140737488355328) (dW (yE sx) (yF sx b a) 0 b.args (List.replicate FU.regs.toNat (⟨0, 0⟩ : Val)))
theorem OE (w0 : World) (M : BS) (hM : ∀ b, M b → b < w0.heap.size) (sb : Nat) (sx : LX.State) (gT vs1 : Value) (iH ig : List Value) (hC : Chunk.holds w0 M (Chunk.own' (cT sb gT vs1 (sx.status) (sx.aL) sx.frames iH sx.cells ig)) (cT sb gT vs1 (sx.status) (sx.aL) sx.frames iH sx.cells ig)) (hap : ∀ b, Chunk.own' (cT sb gT vs1 (sx.status) (sx.aL) sx.frames iH sx.cells ig) b → ¬ M b) (va : Value) (a : List bL) (ha : gX jk w0 (fun b => M b ∨ (cT sb gT vs1 (sx.status) (sx.aL) sx.frames iH sx.cells ig).own' b) va a) (b : Ins) (vb4 : Value) (hb4 : gX eP w0 (fun b => M b ∨ (cT sb gT vs1 (sx.status) (sx.aL) sx.frames iH sx.cells ig).own' b) vb4 b.args) (r : Bool × LX.State) (hs : Qn sx a b = some r) :
    Calls Tryz.prog 90 #[va, (.pointer (some ⟨sb, 0, none⟩)), (.agg #[(I6 b.op), (I6 b.a), (I6 b.b), (I6 b.c), vb4])] w0 (fun e w' => aP (Chunk.own' (cT sb gT vs1 (sx.status) (sx.aL) sx.frames iH sx.cells ig)) w0 w' ∧ ∃ Ll, ∃ Lm, ∃ Lp, ∃ Lr, e = .returned (.bool r.1) ∧ Chunk.holds w' M (Chunk.own' (cT sb Ll Lm r.2.status r.2.aL r.2.frames Lp r.2.cells Lr)) (cT sb Ll Lm r.2.status r.2.aL r.2.frames Lp r.2.cells Lr) ∧ (∀ b, Chunk.own' (cT sb Ll Lm r.2.status r.2.aL r.2.frames Lp r.2.cells Lr) b → b < w0.heap.size → Chunk.own' (cT sb gT vs1 (sx.status) (sx.aL) sx.frames iH sx.cells ig) b)) := by
 refine aQ (args := [va, (.pointer (some ⟨sb, 0, none⟩)), (.agg #[(I6 b.op), (I6 b.a), (I6 b.b), (I6 b.c), vb4])]) Tryz.func90 rfl Tryz.ntmps90 (bF rfl) ?_
 have h := SH.Il hM hC hap
 replace h := h.EH 6 ha Dz
 replace h := h.EH 7 hb4 (xx Dz)
 generalize vZ : (cT sb gT vs1 (sx.status) (sx.aL) sx.frames iH sx.cells ig).own' = K0 at h
 replace h := h.bY 1 5 (by decide) rfl rfl
 replace h := h.bY 1 4 (by decide) rfl rfl
 replace h := h.bY 1 3 (by decide) rfl rfl
 replace h := h.bY 1 2 (by decide) rfl rfl
 have vC := ha.bT
 refine nG (mD (cs := [(I6 b.op), (I6 b.a), (I6 b.b), (I6 b.c), vb4]) h 8 rfl rfl fun w b1 h => aa (ae (v := (.bool (false))) rfl) (nK (aa (ah (v := (.pointer (some ⟨sb, 0, none⟩))) rfl) (aa (aW rfl) (aa (ag dQ rfl) (aa (aA h 1 rfl gD rfl rfl) (aa (mM (N := bg) dx rfl (h.eG 2 rfl) (h.fD 3 rfl)) (aa (bz rfl rfl) (nN (aI hs rfl (fun c2 hs => ?_) (fun c2 hs => ?_)))))))))))
 refine nG (aa (ae (v := (.bool (false))) rfl) (nR (ay (dD (v := (.bool (false))) Tryz.results90 rfl ?_))))
 replace h := h.pair 1 2 (by decide)
 replace h := h.pair 1 3 (by decide)
 replace h := h.pair 1 4 (by decide)
 replace h := h.pair 1 5 (by decide)
 obtain rfl := fP hs
 subst vZ
 obtain ⟨o1, o2, o3⟩ := h.kJ 1 (C := (cT sb gT vs1 (sx.status) (sx.aL) sx.frames iH sx.cells ig)) rfl ⟨⟨⟨⟨trivial, trivial⟩, trivial⟩, trivial⟩, trivial⟩
 exact ⟨o2, gT, vs1, iH, ig, rfl, o1, o3⟩
 refine aH (ak (aM (Dx mixed h fun w h => fT 0 (aP.refl BE _) rfl aj (by kernel_rfl) (by kernel_rfl) (by kernel_rfl) (fun w hk => ag gp rfl) (fT 1 (aP.refl BE _) rfl aj (by kernel_rfl) (by kernel_rfl) (by kernel_rfl) (fun w hk => have h := h.grow hk; aA h 8 rfl aU rfl rfl) (fT 2 (aP.refl BE _) rfl aj (by kernel_rfl) (by kernel_rfl) (by kernel_rfl) (fun w hk => ah (v := va) rfl) (fT 3 (aP.refl BE _) rfl aj (by kernel_rfl) (by kernel_rfl) (by kernel_rfl) (fun w hk => ag gp rfl) (fT 4 (aP.refl BE _) rfl aj (by kernel_rfl) (by kernel_rfl) (by kernel_rfl) (fun w hk => have h := h.grow hk; aA h 8 rfl aU rfl rfl) ?_)))))))
 obtain ⟨FU, Vq, hs⟩ := aK hs
 obtain ⟨bq3x5_4, oq3x5_5, csq3x5_6, h, rq3x5_7, iq3x5_3⟩ := h.Cm 6 69 rfl gU rfl (aB Vq).1 (aB Vq).2
 obtain ⟨uq3x5_8, rfl, gq3x5_9⟩ := jW rq3x5_7
 replace h := h.dA 70 gq3x5_9.up
 refine fT 5 (aP.refl BE _) rfl aj (by kernel_rfl) (by kernel_rfl) (by kernel_rfl) (fun w hk => iq3x5_3 _ _ _ _ _ _ _ _ _ rfl rfl) (fT 6 (aP.refl BE _) rfl aj (by kernel_rfl) (by kernel_rfl) (by kernel_rfl) (fun w hk => ag wy rfl) (fT 7 (aP.refl BE _) rfl aj (by kernel_rfl) (by kernel_rfl) (by kernel_rfl) (fun w hk => have h := h.grow hk; fq (k := 1) h 69 rfl aU rfl rfl) (fT 9 (aP.refl BE _) rfl aj (by kernel_rfl) (by kernel_rfl) (by kernel_rfl) (fun w hk => ag jb rfl) (fT 10 (aP.refl BE _) rfl aj (by kernel_rfl) (by kernel_rfl) (by kernel_rfl) (fun w hk => have h := h.grow hk; aA h 8 rfl aU rfl rfl) ?_))))
 obtain ⟨Vr, hs⟩ := bB hs
 obtain ⟨ws4, ws4e⟩ : ∃ x, x = w := ⟨_, rfl⟩
 have hg5 : Grow ws4 w := ws4e ▸ aP.refl BE w
 refine LA ws4e.symm (Pq 8 12 (by kernel_rfl) rfl aj rfl aj ?_ ?_)
 refine tX (R := bC) (zs := [(I6 0), (I6 0)]) (a := (⟨0, 0⟩ : Val)) h 105 kL aY rfl (by decide) rfl rfl Vr rfl (fun _ _ => rfl) fun w gH h MK ML => ?_
 have Z7 : ∀ b, ob gH b → ws4.heap.size ≤ b := fun b hb => Nat.le_trans hg5.size (ML b hb)
 replace hg5 := hg5.trans MK
 refine az (kz hg5 (uK 11 hg5 rfl (by kernel_rfl) (fun w hk => ek (pv := [(0, (I6 b.b)), (2, gH), (3, (I6 b.a))]) (out := [(I6 b.b), (I6 0), gH, (I6 b.a)]) CB rfl ⟨0, 1, [(I6 b.b)], rfl, rfl, rfl, bF rfl, ⟨2, 1, [gH], rfl, (fM (h.dm 105 rfl).one), rfl, bF rfl, ⟨3, 1, [(I6 b.a)], rfl, rfl, rfl, bF rfl, rfl⟩⟩⟩) (su 12 (by kernel_rfl) rfl aj (wL h 153 il fun w E8 h JG JH => ?_))))
 have JI : ws4.heap.size ≤ E8 := Nat.le_trans hg5.size JH
 replace hg5 := hg5.trans JG
 refine az (kz hg5 (su 13 (by kernel_rfl) rfl aj (vO (vs := [(I6 b.b), (I6 0), gH, (I6 b.a)]) h 153 [(I6 b.b), (I6 0), gH, (I6 b.a)] rfl il rfl rfl rfl rfl rfl (ai rfl (ai rfl (ai (h.dm 105 rfl).one (ai rfl aS)))) fun w h MM => ?_)))
 replace hg5 := hg5.fresh MM (fun x hx => hx ▸ JI)
 refine az (kz hg5 (yS (by kernel_rfl) (ak (aM (nG (aa (ag qZ rfl) (aa (aA h 8 rfl qD rfl rfl) (aa (bW bV rfl (h.ny 7 rfl)) (aa (ah (v := (I6 0)) rfl) (nN (aO (gu (σ := Nat × Int × List Val) (inl ([8, 9] ++ rg 31 26)) (fun ⟨k10, i11, y9⟩ => [(31, (I6 i11))]) (fun ⟨k10, i11, y9⟩ w => SH w0 M K0 w (hset [(1, .blk sb [gT, vs1, (I6 sx.status), (I6 sx.aL)]), (2, .own bg.raw 49 gT (List.zip sx.frames iH)), (3, .ik (dS bC 51 hn iH (List.map bg.sub sx.frames))), (4, .own (dZ Val).raw 47 vs1 (List.zip sx.cells ig)), (5, .ik (dS bC 51 hn ig (List.map (dZ Val).sub sx.cells))), (7, .rd eP vb4 b.args), (105, .own bC 51 gH y9), (153, .blk E8 [(I6 b.b), (I6 0), gH, (I6 b.a)])]) ∧ i11 = (k10 : Int) ∧ dW (yE sx) (yF sx b a) i11 (b.args.drop k10) y9 = some r) (fun ⟨k10, i11, y9⟩ => b.args.length - k10) ⟨0, 0, (List.replicate FU.regs.toNat (⟨0, 0⟩ : Val))⟩ ⟨rfl, trivial⟩ ?_ ?_))))))))))))
 exact ⟨h.cn _, rfl, hs⟩
 rintro ⟨k10, i11, y9⟩ w dO ⟨h, hik, hs⟩
 refine nG ?_
 refine aa (eB rfl rfl) (nN ?_)
 refine aM (gK rfl (fun e15 => ?_) (fun e15 => ?_))
 refine aH (ak ?_)
 obtain ⟨yl, e16a, e16b⟩ := fU (hik ▸ e15)
 rw [e16b, ja] at hs
 generalize hnx14 : dW (yE sx) (yF sx b a) (i11 + 1) (b.args.drop (k10 + 1)) = nx14 at hs
 have e16r := gm ((h.ny 7 rfl)).bT hik e15
 refine aM (aO (nG (aa (ah (v := (I6 i11)) rfl) ?_)))
 obtain ⟨b18, o19, cs20, h, r21, i17⟩ := h.Cm 7 189 rfl bV rfl (iI hik) (fZ hik e16a)
 obtain rfl := r21
 refine aa (i17 _ _ _ _ _ _ _ _ _ rfl rfl) (aa (fq (k := 0) h 189 rfl aU rfl rfl) (aa (ae (v := (I6 i11)) rfl) (aa (ae (v := (I6 yl)) rfl) (nN (lg 20 mixed (by kernel_rfl) h fun w h => aD (ag jZ rfl) (aD (aA h 153 rfl j3 rfl rfl) (aD (ah (v := (I6 i11)) rfl) (aD (ah (v := (.pointer (some ⟨sb, 0, none⟩))) rfl) (aD (aW rfl) (aD (ag dQ rfl) (aD (aA h 1 rfl gD rfl rfl) (aD (ah (v := (.pointer (some ⟨sb, 0, none⟩))) rfl) (aD (aW rfl) (aD (ag dQ rfl) (aD (aA h 1 rfl gD rfl rfl) (aD (mM (N := bg) dx rfl (h.eG 2 rfl) (h.fD 3 rfl)) ?_))))))))))))))))
 obtain ⟨a22, hs⟩ := bB hs
 refine aD (mV rfl rfl a22) ?_
 obtain ⟨uB, e24, hs⟩ := aK hs
 obtain ⟨u28, e29, h⟩ := h.l6 3 190 uB.regs rfl rfl (by decide) (aB e24).2 rfl
 obtain ⟨b26, q27, i25⟩ := h.qY 2 rfl dx rfl (aB e24).1 (eu (aB e24).2 e29)
 refine aD (i25 _ _ _ _ _ _ _ _ _ rfl rfl) (aD (ag jZ rfl) ?_)
 obtain ⟨cs30, m31, r32⟩ := h.uF 2 rfl q27 (eu (aB e24).2 e29)
 obtain ⟨rfl, -⟩ := r32
 refine aD (kH (k := 2) m31 j3 rfl rfl) (aD (ah (v := (I6 yl)) rfl) ?_)
 obtain ⟨CE, e34, hs⟩ := aK hs
 obtain ⟨b36, q37, i35⟩ := h.qY 190 rfl aZ rfl (aB e34).1 (aB e34).2
 refine aD (i35 _ _ _ _ _ _ _ _ _ rfl rfl) ?_
 obtain ⟨cs38, m39, r40⟩ := h.uF 190 rfl q37 (aB e34).2
 obtain rfl := r40
 refine aD (kg (k := 0) (vs := [(I6 CE.kind), (I6 CE.n)]) m39 aY rfl rfl rfl (bF rfl)) ?_
 obtain ⟨x41, e42, hs⟩ := aK hs
 obtain ⟨Qf, q45, i43⟩ := h.qY 105 rfl aZ rfl (aB e42).1 (aB e42).2
 refine aD (i43 _ _ _ _ _ _ _ _ _ rfl rfl) (uH (ry (a' := CE) (vs := [(I6 CE.kind), (I6 CE.n)]) h 105 rfl q45 rfl (aB e42).2 aY rfl rfl rfl rfl rfl fun w h k46 => az (ax (ak (aC (aa (dP rfl rfl e16r) (aa (ah (v := (I6 ((i11 + 1)))) rfl) (az ?_))))))))
 replace h := h.ed 3 190 rfl rfl (by decide) (aB e24).2 e29 rfl
 refine au ?_
 subst hnx14
 exact jB ⟨k10 + 1, i11 + 1, (y9.set (i11).toNat CE)⟩ ⟨h.cn _, by omega, hs⟩ (by have := p8 e15; dsimp only; omega)
 rw [fV (hik ▸ e15), mh] at hs
 refine iL (bI (bI (eH (ak (aM (kI (L := (fun b => ob gT b ∨ b = sb)) mixed h fun w h => bE 0 (aP.refl _ _) rfl aj (by kernel_rfl) (by kernel_rfl) (by kernel_rfl) (fun w hk => ah (v := (.pointer (some ⟨sb, 0, none⟩))) rfl) (bE 1 (aP.refl _ _) rfl aj (by kernel_rfl) (by kernel_rfl) (by kernel_rfl) (fun w hk => ah (v := (.pointer (some ⟨sb, 0, none⟩))) rfl) (bE 2 (aP.refl _ _) rfl aj (by kernel_rfl) (by kernel_rfl) (by kernel_rfl) (fun w hk => aW rfl) (bE 3 (aP.refl _ _) rfl aj (by kernel_rfl) (by kernel_rfl) (by kernel_rfl) (fun w hk => ag dQ rfl) (bE 5 (aP.refl _ _) rfl aj (by kernel_rfl) (by kernel_rfl) (by kernel_rfl) (fun w hk => have h := h.wB 2 1 (by decide) rfl rfl hk; dK (vs := [(I6 b.b), (I6 0), gH, (I6 b.a)]) h 153 rfl il rfl rfl rfl) ?_))))))))))
 obtain ⟨IJ, hs⟩ := bB hs
 obtain ⟨Z8, ws55e⟩ : ∃ x, x = w := ⟨_, rfl⟩
 have xh : aP (fun b => ob gT b ∨ b = sb) Z8 w := ws55e ▸ aP.refl (fun b => ob gT b ∨ b = sb) w
 refine rf ws55e.symm (nD 4 6 (by kernel_rfl) rfl aj rfl aj ?_ ?_)
 refine aa (aA h 1 rfl gD rfl rfl) (az (aR xh (bA 6 (by kernel_rfl) rfl aj ?_)))
 have JJ : (Value.oneCell' gH) = true := (h.dm 105 rfl).one
 refine xu (R := bg.raw) (vs := [(.agg #[(I6 b.b), (I6 0), gH, (I6 b.a)])]) (xs := List.zip [(⟨b.b, 0, y9, b.a⟩ : LX.Frame)] [gH]) h 263 jT rfl rfl rfl ⟨⟨rfl, JJ⟩, trivial⟩ rfl fun w MN h JK JM => ?_
 have WE : ∀ b, ob MN b → Z8.heap.size ≤ b := fun b hb => Nat.le_trans xh.size (JM b hb)
 replace xh := xh.grow JK
 replace h := h.pR (N := bg) 105 (⟨b.b, 0, y9, b.a⟩ : LX.Frame) rfl rfl
 refine az (aR xh (bA 7 (by kernel_rfl) rfl aj ?_))
 have A8 := h.fD 3 rfl
 have C9 := h.fD 105 rfl
 have WG := xh.size
 refine mF (R := bg.raw) (m := List.zip [(⟨b.b, 0, y9, b.a⟩ : LX.Frame)] [gH]) h 2 rfl (h.eG 263 rfl) jT rfl rfl rfl (by rw [bS A8, bS C9]; exact IJ.1) (by rw [bS A8, bS C9]; exact IJ.2) fun w xU h JN JO => ?_
 have WI : ∀ b, ob xU b → b < Z8.heap.size → ob gT b := fun b hb hl => JO b hb (Nat.lt_of_lt_of_le hl (xh).size)
 replace xh := aP.step xh JN (fun _ hx _ => .inl (hx))
 replace h := (h.pO 3 105 rfl rfl (by decide)).fA 263
 rw [pQ A8, ← List.map_append] at h
 obtain ⟨Da, GN⟩ : ∃ z, z = iH ++ [gH] := ⟨_, rfl⟩
 rw [← GN] at h
 refine az (aR xh (dG 8 xh rfl (by kernel_rfl) (fun w hk => aW rfl) (dG 9 xh rfl (by kernel_rfl) (fun w hk => ag dQ rfl) (bA 10 (by kernel_rfl) rfl aj (nP h 1 [xU, vs1, (I6 sx.status), (I6 sx.aL)] rfl gD rfl rfl rfl rfl (h.dm 2 rfl).one fun w h JQ => ?_)))))
 replace xh := aP.step xh JQ (fun _ hx _ => .inr (hx))
 refine az (aR xh (fK (by kernel_rfl) (ak (nG (aa (ae (v := (.bool (true))) rfl) (nR (dD (v := (.bool (true))) Tryz.results90 rfl ?_)))))))
 replace h := h.pair 1 2 (by decide)
 replace h := h.pair 1 3 (by decide)
 replace h := h.pair 1 4 (by decide)
 replace h := h.pair 1 5 (by decide)
 obtain rfl := fP hs
 subst vZ
 obtain ⟨o1, o2, o3⟩ := h.kJ 1 (C := (cT sb xU vs1 (sx.status) (sx.aL) (sx.frames ++ [(⟨b.b, 0, y9, b.a⟩ : LX.Frame)]) Da sx.cells ig)) rfl ⟨⟨⟨⟨trivial, trivial⟩, trivial⟩, trivial⟩, trivial⟩
 exact ⟨o2, xU, vs1, Da, ig, rfl, o1, o3⟩
 have JJ : (Value.oneCell' gH) = true := (h.dm 105 rfl).one
 refine xu (R := bg.raw) (vs := [(.agg #[(I6 b.b), (I6 0), gH, (I6 b.a)])]) (xs := List.zip [(⟨b.b, 0, y9, b.a⟩ : LX.Frame)] [gH]) h 263 jT rfl rfl rfl ⟨⟨rfl, JJ⟩, trivial⟩ rfl fun w MN h JK JM => ?_
 have WE : ∀ b, ob MN b → Z8.heap.size ≤ b := fun b hb => Nat.le_trans xh.size (JM b hb)
 replace xh := xh.grow JK
 replace h := h.pR (N := bg) 105 (⟨b.b, 0, y9, b.a⟩ : LX.Frame) rfl rfl
 refine az (aR xh (bA 4 (by kernel_rfl) rfl aj (aa (aA h 1 rfl gD rfl rfl) (az (aR xh (bA 7 (by kernel_rfl) rfl aj ?_))))))
 have A8 := h.fD 3 rfl
 have C9 := h.fD 105 rfl
 have WG := xh.size
 refine mF (R := bg.raw) (m := List.zip [(⟨b.b, 0, y9, b.a⟩ : LX.Frame)] [gH]) h 2 rfl (h.eG 263 rfl) jT rfl rfl rfl (by rw [bS A8, bS C9]; exact IJ.1) (by rw [bS A8, bS C9]; exact IJ.2) fun w xU h JN JO => ?_
 have WI : ∀ b, ob xU b → b < Z8.heap.size → ob gT b := fun b hb hl => JO b hb (Nat.lt_of_lt_of_le hl (xh).size)
 replace xh := aP.step xh JN (fun _ hx _ => .inl (hx))
 replace h := (h.pO 3 105 rfl rfl (by decide)).fA 263
 rw [pQ A8, ← List.map_append] at h
 obtain ⟨Da, GN⟩ : ∃ z, z = iH ++ [gH] := ⟨_, rfl⟩
 rw [← GN] at h
 refine az (aR xh (dG 8 xh rfl (by kernel_rfl) (fun w hk => aW rfl) (dG 9 xh rfl (by kernel_rfl) (fun w hk => ag dQ rfl) (bA 10 (by kernel_rfl) rfl aj (nP h 1 [xU, vs1, (I6 sx.status), (I6 sx.aL)] rfl gD rfl rfl rfl rfl (h.dm 2 rfl).one fun w h JQ => ?_)))))
 replace xh := aP.step xh JQ (fun _ hx _ => .inr (hx))
 refine az (aR xh (fK (by kernel_rfl) (ak (nG (aa (ae (v := (.bool (true))) rfl) (nR (dD (v := (.bool (true))) Tryz.results90 rfl ?_)))))))
 replace h := h.pair 1 2 (by decide)
 replace h := h.pair 1 3 (by decide)
 replace h := h.pair 1 4 (by decide)
 replace h := h.pair 1 5 (by decide)
 obtain rfl := fP hs
 subst vZ
 obtain ⟨o1, o2, o3⟩ := h.kJ 1 (C := (cT sb xU vs1 (sx.status) (sx.aL) (sx.frames ++ [(⟨b.b, 0, y9, b.a⟩ : LX.Frame)]) Da sx.cells ig)) rfl ⟨⟨⟨⟨trivial, trivial⟩, trivial⟩, trivial⟩, trivial⟩
 exact ⟨o2, xU, vs1, Da, ig, rfl, o1, o3⟩
 refine wL h 153 il fun w E8 h JG JH => ?_
 have JI : ws4.heap.size ≤ E8 := Nat.le_trans hg5.size JH
 replace hg5 := hg5.trans JG
 refine az (kz hg5 (su 8 (by kernel_rfl) rfl aj (tX (R := bC) (zs := [(I6 0), (I6 0)]) (a := (⟨0, 0⟩ : Val)) h 105 kL aY rfl (by decide) rfl rfl Vr rfl (fun _ _ => rfl) fun w gH h MK ML => ?_)))
 have Z7 : ∀ b, ob gH b → ws4.heap.size ≤ b := fun b hb => Nat.le_trans hg5.size (ML b hb)
 replace hg5 := hg5.trans MK
 refine az (kz hg5 (uK 11 hg5 rfl (by kernel_rfl) (fun w hk => ek (pv := [(0, (I6 b.b)), (2, gH), (3, (I6 b.a))]) (out := [(I6 b.b), (I6 0), gH, (I6 b.a)]) CB rfl ⟨0, 1, [(I6 b.b)], rfl, rfl, rfl, bF rfl, ⟨2, 1, [gH], rfl, (fM (h.dm 105 rfl).one), rfl, bF rfl, ⟨3, 1, [(I6 b.a)], rfl, rfl, rfl, bF rfl, rfl⟩⟩⟩) (su 13 (by kernel_rfl) rfl aj (vO (vs := [(I6 b.b), (I6 0), gH, (I6 b.a)]) h 153 [(I6 b.b), (I6 0), gH, (I6 b.a)] rfl il rfl rfl rfl rfl rfl (ai rfl (ai rfl (ai (h.dm 105 rfl).one (ai rfl aS)))) fun w h MM => ?_))))
 replace hg5 := hg5.fresh MM (fun x hx => hx ▸ JI)
 refine az (kz hg5 (yS (by kernel_rfl) (ak (aM (nG (aa (ag qZ rfl) (aa (aA h 8 rfl qD rfl rfl) (aa (bW bV rfl (h.ny 7 rfl)) (aa (ah (v := (I6 0)) rfl) (nN (aO (gu (σ := Nat × Int × List Val) (inl ([8, 9] ++ rg 31 26)) (fun ⟨k61, i62, yn⟩ => [(31, (I6 i62))]) (fun ⟨k61, i62, yn⟩ w => SH w0 M K0 w (hset [(1, .blk sb [gT, vs1, (I6 sx.status), (I6 sx.aL)]), (2, .own bg.raw 49 gT (List.zip sx.frames iH)), (3, .ik (dS bC 51 hn iH (List.map bg.sub sx.frames))), (4, .own (dZ Val).raw 47 vs1 (List.zip sx.cells ig)), (5, .ik (dS bC 51 hn ig (List.map (dZ Val).sub sx.cells))), (7, .rd eP vb4 b.args), (105, .own bC 51 gH yn), (153, .blk E8 [(I6 b.b), (I6 0), gH, (I6 b.a)])]) ∧ i62 = (k61 : Int) ∧ dW (MI sx) (MJ sx b a) i62 (b.args.drop k61) yn = some r) (fun ⟨k61, i62, yn⟩ => b.args.length - k61) ⟨0, 0, (List.replicate FU.regs.toNat (⟨0, 0⟩ : Val))⟩ ⟨rfl, trivial⟩ ?_ ?_))))))))))))
 exact ⟨h.cn _, rfl, hs⟩
 rintro ⟨k61, i62, yn⟩ w dO ⟨h, hik, hs⟩
 refine nG ?_
 refine aa (eB rfl rfl) (nN ?_)
 refine aM (gK rfl (fun X9 => ?_) (fun X9 => ?_))
 refine aH (ak ?_)
 obtain ⟨uR, e67a, e67b⟩ := fU (hik ▸ X9)
 rw [e67b, ja] at hs
 generalize Zz : dW (MI sx) (MJ sx b a) (i62 + 1) (b.args.drop (k61 + 1)) = P5 at hs
 have e67r := gm ((h.ny 7 rfl)).bT hik X9
 refine aM (aO (nG (aa (ah (v := (I6 i62)) rfl) ?_)))
 obtain ⟨b69, o70, cs71, h, r72, i68⟩ := h.Cm 7 335 rfl bV rfl (iI hik) (fZ hik e67a)
 obtain rfl := r72
 refine aa (i68 _ _ _ _ _ _ _ _ _ rfl rfl) (aa (fq (k := 0) h 335 rfl aU rfl rfl) (aa (ae (v := (I6 i62)) rfl) (aa (ae (v := (I6 uR)) rfl) (nN (lg 20 mixed (by kernel_rfl) h fun w h => aD (ag jZ rfl) (aD (aA h 153 rfl j3 rfl rfl) (aD (ah (v := (I6 i62)) rfl) (aD (ah (v := (.pointer (some ⟨sb, 0, none⟩))) rfl) (aD (aW rfl) (aD (ag dQ rfl) (aD (aA h 1 rfl gD rfl rfl) (aD (ah (v := (.pointer (some ⟨sb, 0, none⟩))) rfl) (aD (aW rfl) (aD (ag dQ rfl) (aD (aA h 1 rfl gD rfl rfl) (aD (mM (N := bg) dx rfl (h.eG 2 rfl) (h.fD 3 rfl)) ?_))))))))))))))))
 obtain ⟨a73, hs⟩ := bB hs
 refine aD (mV rfl rfl a73) ?_
 obtain ⟨x74, Z9, hs⟩ := aK hs
 obtain ⟨u79, e80, h⟩ := h.l6 3 336 x74.regs rfl rfl (by decide) (aB Z9).2 rfl
 obtain ⟨b77, q78, i76⟩ := h.qY 2 rfl dx rfl (aB Z9).1 (eu (aB Z9).2 e80)
 refine aD (i76 _ _ _ _ _ _ _ _ _ rfl rfl) (aD (ag jZ rfl) ?_)
 obtain ⟨cs81, m82, r83⟩ := h.uF 2 rfl q78 (eu (aB Z9).2 e80)
 obtain ⟨rfl, -⟩ := r83
 refine aD (kH (k := 2) m82 j3 rfl rfl) (aD (ah (v := (I6 uR)) rfl) ?_)
 obtain ⟨x84, e85, hs⟩ := aK hs
 obtain ⟨TL, q88, i86⟩ := h.qY 336 rfl aZ rfl (aB e85).1 (aB e85).2
 refine aD (i86 _ _ _ _ _ _ _ _ _ rfl rfl) ?_
 obtain ⟨cs89, m90, r91⟩ := h.uF 336 rfl q88 (aB e85).2
 obtain rfl := r91
 refine aD (kg (k := 0) (vs := [(I6 x84.kind), (I6 x84.n)]) m90 aY rfl rfl rfl (bF rfl)) ?_
 obtain ⟨x92, e93, hs⟩ := aK hs
 obtain ⟨b95, q96, i94⟩ := h.qY 105 rfl aZ rfl (aB e93).1 (aB e93).2
 refine aD (i94 _ _ _ _ _ _ _ _ _ rfl rfl) (uH (ry (a' := x84) (vs := [(I6 x84.kind), (I6 x84.n)]) h 105 rfl q96 rfl (aB e93).2 aY rfl rfl rfl rfl rfl fun w h k97 => az (ax (ak (aC (aa (dP rfl rfl e67r) (aa (ah (v := (I6 ((i62 + 1)))) rfl) (az ?_))))))))
 replace h := h.ed 3 336 rfl rfl (by decide) (aB Z9).2 e80 rfl
 refine au ?_
 subst Zz
 exact jB ⟨k61 + 1, i62 + 1, (yn.set (i62).toNat x84)⟩ ⟨h.cn _, by omega, hs⟩ (by have := p8 X9; dsimp only; omega)
 rw [fV (hik ▸ X9), mh] at hs
 refine iL (bI (bI (eH (ak (aM (kI (L := (fun b => ob gT b ∨ b = sb)) mixed h fun w h => bE 0 (aP.refl _ _) rfl aj (by kernel_rfl) (by kernel_rfl) (by kernel_rfl) (fun w hk => ah (v := (.pointer (some ⟨sb, 0, none⟩))) rfl) (bE 1 (aP.refl _ _) rfl aj (by kernel_rfl) (by kernel_rfl) (by kernel_rfl) (fun w hk => ah (v := (.pointer (some ⟨sb, 0, none⟩))) rfl) (bE 2 (aP.refl _ _) rfl aj (by kernel_rfl) (by kernel_rfl) (by kernel_rfl) (fun w hk => aW rfl) (bE 3 (aP.refl _ _) rfl aj (by kernel_rfl) (by kernel_rfl) (by kernel_rfl) (fun w hk => ag dQ rfl) (bE 5 (aP.refl _ _) rfl aj (by kernel_rfl) (by kernel_rfl) (by kernel_rfl) (fun w hk => have h := h.wB 2 1 (by decide) rfl rfl hk; dK (vs := [(I6 b.b), (I6 0), gH, (I6 b.a)]) h 153 rfl il rfl rfl rfl) ?_))))))))))
 obtain ⟨FV, hs⟩ := bB hs
 obtain ⟨RB, aaa⟩ : ∃ x, x = w := ⟨_, rfl⟩
 have p9 : aP (fun b => ob gT b ∨ b = sb) RB w := aaa ▸ aP.refl (fun b => ob gT b ∨ b = sb) w
 refine rf aaa.symm (nD 4 6 (by kernel_rfl) rfl aj rfl aj ?_ ?_)
 refine aa (aA h 1 rfl gD rfl rfl) (az (aR p9 (bA 6 (by kernel_rfl) rfl aj ?_)))
 have GQ : (Value.oneCell' gH) = true := (h.dm 105 rfl).one
 refine xu (R := bg.raw) (vs := [(.agg #[(I6 b.b), (I6 0), gH, (I6 b.a)])]) (xs := List.zip [(⟨b.b, 0, yn, b.a⟩ : LX.Frame)] [gH]) h 409 jT rfl rfl rfl ⟨⟨rfl, GQ⟩, trivial⟩ rfl fun w JR h GR GU => ?_
 have TZ : ∀ b, ob JR b → RB.heap.size ≤ b := fun b hb => Nat.le_trans p9.size (GU b hb)
 replace p9 := p9.grow GR
 replace h := h.pR (N := bg) 105 (⟨b.b, 0, yn, b.a⟩ : LX.Frame) rfl rfl
 refine az (aR p9 (bA 7 (by kernel_rfl) rfl aj ?_))
 have yG := h.fD 3 rfl
 have A9 := h.fD 105 rfl
 have T9 := p9.size
 refine mF (R := bg.raw) (m := List.zip [(⟨b.b, 0, yn, b.a⟩ : LX.Frame)] [gH]) h 2 rfl (h.eG 409 rfl) jT rfl rfl rfl (by rw [bS yG, bS A9]; exact FV.1) (by rw [bS yG, bS A9]; exact FV.2) fun w vK h GV GX => ?_
 have Ua : ∀ b, ob vK b → b < RB.heap.size → ob gT b := fun b hb hl => GX b hb (Nat.lt_of_lt_of_le hl (p9).size)
 replace p9 := aP.step p9 GV (fun _ hx _ => .inl (hx))
 replace h := (h.pO 3 105 rfl rfl (by decide)).fA 409
 rw [pQ yG, ← List.map_append] at h
 obtain ⟨Ba, E9⟩ : ∃ z, z = iH ++ [gH] := ⟨_, rfl⟩
 rw [← E9] at h
 refine az (aR p9 (dG 8 p9 rfl (by kernel_rfl) (fun w hk => aW rfl) (dG 9 p9 rfl (by kernel_rfl) (fun w hk => ag dQ rfl) (bA 10 (by kernel_rfl) rfl aj (nP h 1 [vK, vs1, (I6 sx.status), (I6 sx.aL)] rfl gD rfl rfl rfl rfl (h.dm 2 rfl).one fun w h GY => ?_)))))
 replace p9 := aP.step p9 GY (fun _ hx _ => .inr (hx))
 refine az (aR p9 (fK (by kernel_rfl) (ak (nG (aa (ae (v := (.bool (true))) rfl) (nR (dD (v := (.bool (true))) Tryz.results90 rfl ?_)))))))
 replace h := h.pair 1 2 (by decide)
 replace h := h.pair 1 3 (by decide)
 replace h := h.pair 1 4 (by decide)
 replace h := h.pair 1 5 (by decide)
 obtain rfl := fP hs
 subst vZ
 obtain ⟨o1, o2, o3⟩ := h.kJ 1 (C := (cT sb vK vs1 (sx.status) (sx.aL) (sx.frames ++ [(⟨b.b, 0, yn, b.a⟩ : LX.Frame)]) Ba sx.cells ig)) rfl ⟨⟨⟨⟨trivial, trivial⟩, trivial⟩, trivial⟩, trivial⟩
 exact ⟨o2, vK, vs1, Ba, ig, rfl, o1, o3⟩
 have GQ : (Value.oneCell' gH) = true := (h.dm 105 rfl).one
 refine xu (R := bg.raw) (vs := [(.agg #[(I6 b.b), (I6 0), gH, (I6 b.a)])]) (xs := List.zip [(⟨b.b, 0, yn, b.a⟩ : LX.Frame)] [gH]) h 409 jT rfl rfl rfl ⟨⟨rfl, GQ⟩, trivial⟩ rfl fun w JR h GR GU => ?_
 have TZ : ∀ b, ob JR b → RB.heap.size ≤ b := fun b hb => Nat.le_trans p9.size (GU b hb)
 replace p9 := p9.grow GR
 replace h := h.pR (N := bg) 105 (⟨b.b, 0, yn, b.a⟩ : LX.Frame) rfl rfl
 refine az (aR p9 (bA 4 (by kernel_rfl) rfl aj (aa (aA h 1 rfl gD rfl rfl) (az (aR p9 (bA 7 (by kernel_rfl) rfl aj ?_))))))
 have yG := h.fD 3 rfl
 have A9 := h.fD 105 rfl
 have T9 := p9.size
 refine mF (R := bg.raw) (m := List.zip [(⟨b.b, 0, yn, b.a⟩ : LX.Frame)] [gH]) h 2 rfl (h.eG 409 rfl) jT rfl rfl rfl (by rw [bS yG, bS A9]; exact FV.1) (by rw [bS yG, bS A9]; exact FV.2) fun w vK h GV GX => ?_
 have Ua : ∀ b, ob vK b → b < RB.heap.size → ob gT b := fun b hb hl => GX b hb (Nat.lt_of_lt_of_le hl (p9).size)
 replace p9 := aP.step p9 GV (fun _ hx _ => .inl (hx))
 replace h := (h.pO 3 105 rfl rfl (by decide)).fA 409
 rw [pQ yG, ← List.map_append] at h
 obtain ⟨Ba, E9⟩ : ∃ z, z = iH ++ [gH] := ⟨_, rfl⟩
 rw [← E9] at h
 refine az (aR p9 (dG 8 p9 rfl (by kernel_rfl) (fun w hk => aW rfl) (dG 9 p9 rfl (by kernel_rfl) (fun w hk => ag dQ rfl) (bA 10 (by kernel_rfl) rfl aj (nP h 1 [vK, vs1, (I6 sx.status), (I6 sx.aL)] rfl gD rfl rfl rfl rfl (h.dm 2 rfl).one fun w h GY => ?_)))))
 replace p9 := aP.step p9 GY (fun _ hx _ => .inr (hx))
 refine az (aR p9 (fK (by kernel_rfl) (ak (nG (aa (ae (v := (.bool (true))) rfl) (nR (dD (v := (.bool (true))) Tryz.results90 rfl ?_)))))))
 replace h := h.pair 1 2 (by decide)
 replace h := h.pair 1 3 (by decide)
 replace h := h.pair 1 4 (by decide)
 replace h := h.pair 1 5 (by decide)
 obtain rfl := fP hs
 subst vZ
 obtain ⟨o1, o2, o3⟩ := h.kJ 1 (C := (cT sb vK vs1 (sx.status) (sx.aL) (sx.frames ++ [(⟨b.b, 0, yn, b.a⟩ : LX.Frame)]) Ba sx.cells ig)) rfl ⟨⟨⟨⟨trivial, trivial⟩, trivial⟩, trivial⟩, trivial⟩
 exact ⟨o2, vK, vs1, Ba, ig, rfl, o1, o3⟩
def Qo (sx : LX.State) (a : Val) (b : Int) : Option LX.State :=
  ib (jV ((sx.frames.length : Int) - 1)) ((sub? sx.frames 0 ((sx.frames.length : Int) - 1)).bind fun x3 => bif decide ((((sx.frames.take (((sx.frames.length : Int) - 1)).toNat).length : Int) : Int) = 0) then some (⟨(sx.frames.take (((sx.frames.length : Int) - 1)).toNat), sx.cells, 1, sx.aL⟩ : LX.State) else ib (jV (((sx.frames.take (((sx.frames.length : Int) - 1)).toNat).length : Int) - 1)) ((idx (sx.frames.take (((sx.frames.length : Int) - 1)).toNat) (((sx.frames.take (((sx.frames.length : Int) - 1)).toNat).length : Int) - 1)).bind fun gB => (idx gB.regs b).bind fun GK => some (⟨((sx.frames.take (((sx.frames.length : Int) - 1)).toNat).set ((((sx.frames.take (((sx.frames.length : Int) - 1)).toNat).length : Int) - 1)).toNat ({ gB with regs := (gB.regs.set (b).toNat a) })), sx.cells, sx.status, sx.aL⟩ : LX.State)))
theorem WJ (w0 : World) (M : BS) (hM : ∀ b, M b → b < w0.heap.size) (sb : Nat) (sx : LX.State) (gT vs1 : Value) (iH ig : List Value) (hC : Chunk.holds w0 M (Chunk.own' (cT sb gT vs1 (sx.status) (sx.aL) sx.frames iH sx.cells ig)) (cT sb gT vs1 (sx.status) (sx.aL) sx.frames iH sx.cells ig)) (hap : ∀ b, Chunk.own' (cT sb gT vs1 (sx.status) (sx.aL) sx.frames iH sx.cells ig) b → ¬ M b) (a : Val) (b : Int) (r : LX.State) (hs : Qo sx a b = some r) :
    Calls Tryz.prog 91 #[(.pointer (some ⟨sb, 0, none⟩)), (.agg #[(I6 a.kind), (I6 a.n)]), (I6 b)] w0 (fun e w' => aP (Chunk.own' (cT sb gT vs1 (sx.status) (sx.aL) sx.frames iH sx.cells ig)) w0 w' ∧ ∃ Ll, ∃ Lm, ∃ Lp, ∃ Lr, e = .returned (.tuple #[]) ∧ Chunk.holds w' M (Chunk.own' (cT sb Ll Lm r.status r.aL r.frames Lp r.cells Lr)) (cT sb Ll Lm r.status r.aL r.frames Lp r.cells Lr) ∧ (∀ b, Chunk.own' (cT sb Ll Lm r.status r.aL r.frames Lp r.cells Lr) b → b < w0.heap.size → Chunk.own' (cT sb gT vs1 (sx.status) (sx.aL) sx.frames iH sx.cells ig) b)) := by
 refine aQ (args := [(.pointer (some ⟨sb, 0, none⟩)), (.agg #[(I6 a.kind), (I6 a.n)]), (I6 b)]) Tryz.func91 rfl Tryz.ntmps91 (bF rfl) ?_
 have h := SH.Il hM hC hap
 generalize vZ : (cT sb gT vs1 (sx.status) (sx.aL) sx.frames iH sx.cells ig).own' = K0 at h
 replace h := h.bY 1 5 (by decide) rfl rfl
 replace h := h.bY 1 4 (by decide) rfl rfl
 replace h := h.bY 1 3 (by decide) rfl rfl
 replace h := h.bY 1 2 (by decide) rfl rfl
 refine nG (mD (cs := [(I6 a.kind), (I6 a.n)]) h 6 rfl rfl fun w b1 h => nN (aM (lg 14 mixed (by kernel_rfl) h fun w h => aD (ah (v := (.pointer (some ⟨sb, 0, none⟩))) rfl) (aD (ah (v := (.pointer (some ⟨sb, 0, none⟩))) rfl) (aD (aW rfl) (aD (ag dQ rfl) (aD (aA h 1 rfl gD rfl rfl) (aD (ah (v := (.pointer (some ⟨sb, 0, none⟩))) rfl) (aD (aW rfl) (aD (ag dQ rfl) (aD (aA h 1 rfl gD rfl rfl) (aD (mM (N := bg) dx rfl (h.eG 2 rfl) (h.fD 3 rfl)) ?_))))))))))))
 obtain ⟨a2, hs⟩ := bB hs
 refine aD (mV rfl rfl a2) ?_
 obtain ⟨x3, e4, hs⟩ := aK hs
 obtain ⟨e7, e7a, e7b, e7c⟩ := UR e4
 have us8z := h.fD 3 rfl
 obtain ⟨u5, h, i6⟩ := h.cutO 2 rfl dx rfl e7b (by rw [bS us8z]; exact e7c)
 rw [Oh] at h
 rw [bS us8z] at i6
 replace h := h.U5 3 (((sx.frames.length : Int) - 1)).toNat rfl
 generalize List.take (((sx.frames.length : Int) - 1)).toNat iH = us8 at h
 refine aD (i6 _ _ _ _ _ _ _ _ _ _ rfl (.inl ⟨rfl, rfl⟩) (.inr (congrArg some rfl))) (aD (aW rfl) (aD (ag dQ rfl) (uH (gq h 1 [u5, vs1, (I6 sx.status), (I6 sx.aL)] rfl gD rfl rfl rfl rfl (h.dm 2 rfl).one fun w h => nK (aa (ah (v := (.pointer (some ⟨sb, 0, none⟩))) rfl) (aa (aW rfl) (aa (ag dQ rfl) (aa (aA h 1 rfl gD rfl rfl) (aa (mM (N := bg) dx rfl (h.eG 2 rfl) (h.fD 3 rfl)) (aa (bz rfl rfl) (nN (aI hs rfl (fun c9 hs => ?_) (fun c9 hs => ?_)))))))))))))
 refine nG (aa (ah (v := (.pointer (some ⟨sb, 0, none⟩))) rfl) (aa (aW rfl) (aa (ag lq rfl) (gq h 1 [u5, vs1, (I6 1), (I6 sx.aL)] rfl aU rfl rfl rfl rfl rfl fun w h => nR (ay (fin0 Tryz.results91 ?_))))))
 replace h := h.pair 1 2 (by decide)
 replace h := h.pair 1 3 (by decide)
 replace h := h.pair 1 4 (by decide)
 replace h := h.pair 1 5 (by decide)
 obtain rfl := fP hs
 subst vZ
 obtain ⟨o1, o2, o3⟩ := h.kJ 1 (C := (cT sb u5 vs1 (1) (sx.aL) (sx.frames.take (((sx.frames.length : Int) - 1)).toNat) us8 sx.cells ig)) rfl ⟨⟨⟨⟨trivial, trivial⟩, trivial⟩, trivial⟩, trivial⟩
 exact ⟨o2, u5, vs1, us8, ig, rfl, o1, o3⟩
 refine aH (ak (lg 16 mixed (by kernel_rfl) h fun w h => aD (ah (v := (.pointer (some ⟨sb, 0, none⟩))) rfl) (aD (aW rfl) (aD (ag dQ rfl) (aD (aA h 1 rfl gD rfl rfl) (aD (ah (v := (.pointer (some ⟨sb, 0, none⟩))) rfl) (aD (aW rfl) (aD (ag dQ rfl) (aD (aA h 1 rfl gD rfl rfl) (aD (mM (N := bg) dx rfl (h.eG 2 rfl) (h.fD 3 rfl)) ?_))))))))))
 obtain ⟨a10, hs⟩ := bB hs
 refine aD (mV rfl rfl a10) ?_
 obtain ⟨gB, e12, hs⟩ := aK hs
 obtain ⟨u16, e17, h⟩ := h.l6 3 8 gB.regs rfl rfl (by decide) (aB e12).2 rfl
 obtain ⟨b14, q15, i13⟩ := h.qY 2 rfl dx rfl (aB e12).1 (eu (aB e12).2 e17)
 refine aD (i13 _ _ _ _ _ _ _ _ _ rfl rfl) (aD (ag jZ rfl) ?_)
 obtain ⟨cs18, m19, Zr⟩ := h.uF 2 rfl q15 (eu (aB e12).2 e17)
 obtain ⟨rfl, -⟩ := Zr
 refine aD (kH (k := 2) m19 j3 rfl rfl) (aD (ah (v := (I6 b)) rfl) (aD (dK (vs := [(I6 a.kind), (I6 a.n)]) h 6 rfl aY rfl rfl rfl) ?_))
 obtain ⟨GK, e22, hs⟩ := aK hs
 obtain ⟨b24, q25, i23⟩ := h.qY 8 rfl aZ rfl (aB e22).1 (aB e22).2
 refine aD (i23 _ _ _ _ _ _ _ _ _ rfl rfl) (uH (ry (a' := a) (vs := [(I6 a.kind), (I6 a.n)]) h 8 rfl q25 rfl (aB e22).2 aY rfl rfl rfl rfl rfl fun w h k26 => az (N8 Tryz.results91 ?_)))
 replace h := h.l5 2 3 8 ({ gB with regs := (gB.regs.set (b).toNat a) }) rfl rfl rfl (by decide) (by decide) (by decide) (aB e12).2 e17 rfl
 replace h := h.pair 1 2 (by decide)
 replace h := h.pair 1 3 (by decide)
 replace h := h.pair 1 4 (by decide)
 replace h := h.pair 1 5 (by decide)
 obtain rfl := fP hs
 subst vZ
 obtain ⟨o1, o2, o3⟩ := h.kJ 1 (C := (cT sb u5 vs1 (sx.status) (sx.aL) ((sx.frames.take (((sx.frames.length : Int) - 1)).toNat).set ((((sx.frames.take (((sx.frames.length : Int) - 1)).toNat).length : Int) - 1)).toNat ({ gB with regs := (gB.regs.set (b).toNat a) })) us8 sx.cells ig)) rfl ⟨⟨⟨⟨trivial, trivial⟩, trivial⟩, trivial⟩, trivial⟩
 exact ⟨o2, u5, vs1, us8, ig, rfl, o1, o3⟩
def nA (y31 : Bool) (y34 : List LX.Frame) (y37 : List (List Val)) (y38 : Int) (y39 : Int) : Option (Gu × Bool × LX.State) :=
  some ((⟨false, 0, y31⟩ : Gu), true, (⟨y34, y37, y38, y39⟩ : LX.State))
def D8 (sx : LX.State) (uR : Bool) (NJ : List LX.Frame) : Option (Gu × Bool × LX.State) :=
  some ((⟨false, 0, false⟩ : Gu), uR, (⟨NJ, sx.cells, sx.status, sx.aL⟩ : LX.State))
def kE (N : Nat) (sx : LX.State) (x3 : LX.Frame) (bG : bL) (aT : Ins) (a : List bL) (x73 : Bool) : Option (Gu × Bool × LX.State) :=
  bif x73 then (IG (⟨(sx.frames.set (((sx.frames.length : Int) - 1)).toNat ({ x3 with at_ := (min (x3.at_ + 1) ((bG.code.length : Int) - 1)) })), sx.cells, sx.status, sx.aL⟩ : LX.State) aT ((sx.frames.length : Int) - 1) ({ x3 with at_ := (min (x3.at_ + 1) ((bG.code.length : Int) - 1)) })).bind fun jL => some ((⟨false, 0, false⟩ : Gu), jL.1, jL.2) else bif decide ((aT.op : Int) = 5) then (MG N (⟨(sx.frames.set (((sx.frames.length : Int) - 1)).toNat ({ x3 with at_ := (min (x3.at_ + 1) ((bG.code.length : Int) - 1)) })), sx.cells, sx.status, sx.aL⟩ : LX.State) aT).bind fun jM => some ((⟨false, 0, false⟩ : Gu), jM.1, jM.2) else bif decide ((aT.op : Int) = 7) then (Qn (⟨(sx.frames.set (((sx.frames.length : Int) - 1)).toNat ({ x3 with at_ := (min (x3.at_ + 1) ((bG.code.length : Int) - 1)) })), sx.cells, sx.status, sx.aL⟩ : LX.State) a aT).bind fun iO => some ((⟨false, 0, false⟩ : Gu), iO.1, iO.2) else bif decide ((aT.op : Int) = 8) then (idx x3.regs aT.a).bind fun NK => (Qo (⟨(sx.frames.set (((sx.frames.length : Int) - 1)).toNat ({ x3 with at_ := (min (x3.at_ + 1) ((bG.code.length : Int) - 1)) })), sx.cells, sx.status, sx.aL⟩ : LX.State) NK x3.lW).bind fun JS => nA false JS.frames JS.cells JS.status JS.aL else bif decide ((aT.op : Int) = 9) then (idx x3.regs aT.a).bind fun rO => some ((⟨true, rO.n, false⟩ : Gu), decide ((rO.kind : Int) = 1), (⟨(sx.frames.set (((sx.frames.length : Int) - 1)).toNat ({ x3 with at_ := (min (x3.at_ + 1) ((bG.code.length : Int) - 1)) })), sx.cells, sx.status, sx.aL⟩ : LX.State)) else bif decide ((aT.op : Int) = 10) then nA true (sx.frames.set (((sx.frames.length : Int) - 1)).toNat ({ x3 with at_ := (min (x3.at_ + 1) ((bG.code.length : Int) - 1)) })) sx.cells sx.status sx.aL else bif decide ((aT.op : Int) = 11) then (idx x3.regs aT.a).bind fun aab => bif decide ((aab.kind : Int) ≠ 1) then some ((⟨false, 0, false⟩ : Gu), false, (⟨(sx.frames.set (((sx.frames.length : Int) - 1)).toNat ({ x3 with at_ := (min (x3.at_ + 1) ((bG.code.length : Int) - 1)) })), sx.cells, sx.status, sx.aL⟩ : LX.State)) else nA true (sx.frames.set (((sx.frames.length : Int) - 1)).toNat ({ x3 with at_ := (min (x3.at_ + 1) ((bG.code.length : Int) - 1)) })) sx.cells 3 aab.n else bif decide ((aT.op : Int) = 12) then nA false ((sx.frames.set (((sx.frames.length : Int) - 1)).toNat ({ x3 with at_ := (min (x3.at_ + 1) ((bG.code.length : Int) - 1)) })).set (((sx.frames.length : Int) - 1)).toNat ({ x3 with at_ := aT.b })) sx.cells sx.status sx.aL else bif decide ((aT.op : Int) = 13) then (idx x3.regs aT.a).bind fun GZ => bif (decide ((GZ.kind : Int) = 0) || (decide ((GZ.kind : Int) = 1) && decide ((GZ.n : Int) = 0))) then nA false ((sx.frames.set (((sx.frames.length : Int) - 1)).toNat ({ x3 with at_ := (min (x3.at_ + 1) ((bG.code.length : Int) - 1)) })).set (((sx.frames.length : Int) - 1)).toNat ({ x3 with at_ := aT.b })) sx.cells sx.status sx.aL else nA false (sx.frames.set (((sx.frames.length : Int) - 1)).toNat ({ x3 with at_ := (min (x3.at_ + 1) ((bG.code.length : Int) - 1)) })) sx.cells sx.status sx.aL else nA false (sx.frames.set (((sx.frames.length : Int) - 1)).toNat ({ x3 with at_ := (min (x3.at_ + 1) ((bG.code.length : Int) - 1)) })) sx.cells sx.status sx.aL
def tq (N : Nat) (sx : LX.State) (a : List bL) : Option (Gu × Bool × LX.State) :=
  ib (jV ((sx.frames.length : Int) - 1)) ((idx sx.frames ((sx.frames.length : Int) - 1)).bind fun x3 => (idx a x3.proc).bind fun bG => (idx bG.code x3.at_).bind fun aT => ib (jV (x3.at_ + 1)) (ib (jV ((bG.code.length : Int) - 1)) (bif decide ((aT.op : Int) = 1) then (idx x3.regs aT.a).bind fun x41 => nA false ((sx.frames.set (((sx.frames.length : Int) - 1)).toNat ({ x3 with at_ := (min (x3.at_ + 1) ((bG.code.length : Int) - 1)) })).set (((sx.frames.length : Int) - 1)).toNat ({ x3 with at_ := (min (x3.at_ + 1) ((bG.code.length : Int) - 1)), regs := (x3.regs.set (aT.a).toNat (⟨1, aT.b⟩ : Val)) })) sx.cells sx.status sx.aL else bif decide ((aT.op : Int) = 2) then (idx x3.regs aT.b).bind fun Ib => (idx x3.regs aT.a).bind fun QD => nA false ((sx.frames.set (((sx.frames.length : Int) - 1)).toNat ({ x3 with at_ := (min (x3.at_ + 1) ((bG.code.length : Int) - 1)) })).set (((sx.frames.length : Int) - 1)).toNat ({ x3 with at_ := (min (x3.at_ + 1) ((bG.code.length : Int) - 1)), regs := (x3.regs.set (aT.a).toNat Ib) })) sx.cells sx.status sx.aL else bif decide ((aT.op : Int) = 3) then (idx aT.args 0).bind fun IK => (idx x3.regs aT.b).bind fun wV => (idx x3.regs aT.c).bind fun wW => (Rv IK wV wW).bind fun iP => (idx x3.regs aT.a).bind fun WM => D8 sx iP.2 ((sx.frames.set (((sx.frames.length : Int) - 1)).toNat ({ x3 with at_ := (min (x3.at_ + 1) ((bG.code.length : Int) - 1)) })).set (((sx.frames.length : Int) - 1)).toNat ({ x3 with at_ := (min (x3.at_ + 1) ((bG.code.length : Int) - 1)), regs := (x3.regs.set (aT.a).toNat iP.1) })) else bif decide ((aT.op : Int) = 4) then kE N sx x3 bG aT a (decide ((aT.op : Int) = 4)) else kE N sx x3 bG aT a (decide ((aT.op : Int) = 6)))))
end
end Go.Proofs.YtfclkapelkhlpaaGreatDoor
