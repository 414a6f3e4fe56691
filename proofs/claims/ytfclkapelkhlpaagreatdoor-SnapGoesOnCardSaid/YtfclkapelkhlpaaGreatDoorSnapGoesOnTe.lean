/-
  What the law SnapGoesOn needs of our own library and of the walks, no more.
-/
import Derived.Test.YtfclkapelkhlpaaGreatDoorProg
import Derived.Test.YtfclkapelkhlpaaGreatDoorSnapGoesOnTd
set_option linter.unusedSimpArgs false
set_option linter.unusedVariables false
set_option maxRecDepth 10000
namespace Go.Proofs.YtfclkapelkhlpaaGreatDoor
open Go Go.Proofs Go.LX
noncomputable section
theorem Sq (w0 : World) (M : BS) (hM : ∀ b, M b → b < w0.heap.size) (a : Int) (b : Val) (c : Val) (r : Val × Bool) (hs : O6 a b c = some r) :
    Calls Tryz.prog 87 #[(I6 a), (.agg #[(I6 b.kind), (I6 b.n)]), (.agg #[(I6 c.kind), (I6 c.n)])] w0 (fun e w' => Grow w0 w' ∧ e = .returned (.tuple #[.agg #[.int .i64 r.1.kind, .int .i64 r.1.n], .bool r.2])) := by
 refine aL (args := [(I6 a), (.agg #[(I6 b.kind), (I6 b.n)]), (.agg #[(I6 c.kind), (I6 c.n)])]) Tryz.func87 rfl Tryz.ntmps87 (bC rfl) ?_
 have h := SH.init hM
 refine nG (oP (cs := [(I6 b.kind), (I6 b.n)]) h 1 rfl rfl fun w b1 h => oP (cs := [(I6 c.kind), (I6 c.n)]) h 2 rfl rfl fun w b2 h => bO h 3 bS fun w b3 h => aa (ae (v := (.bool (false))) rfl) (nJ (aa (ae (v := (.func (.func 117) #[] #[])) rfl) (nK (aa (ah (v := (I6 a)) rfl) (aa (bD rfl rfl) (nN (aH hs rfl (fun c4 hs => ?_) (fun c4 hs => ?_)))))))))
 refine nG (aa (ah (v := (.func (.func 117) #[] #[])) rfl) (aa (dh (vs := [(I6 b.kind), (I6 b.n)]) h 1 rfl bS rfl rfl rfl) (aa (dh (vs := [(I6 c.kind), (I6 c.n)]) h 2 rfl bS rfl rfl rfl) (aa (r_eqlP Sl rfl rfl) (jP (args := [(.bool ((decide (b.kind = c.kind) && decide (b.n = c.n))))]) Sc rfl rfl (aL (args := [(.bool ((decide (b.kind = c.kind) && decide (b.n = c.n))))]) Tryz.func117 rfl Tryz.ntmps117 (bC rfl) (nG (bO h 4 bS fun w b5 h => aa (ae (v := (.bool (false))) rfl) (nK (aa (ah (v := (.bool ((decide (b.kind = c.kind) && decide (b.n = c.n))))) rfl) (nN (aH hs rfl (fun c6 hs => ?_) (fun c6 hs => ?_)))))))))))))
 refine nG (aa (dH (pv := [(0, (I6 1)), (1, (I6 1))]) (out := [(I6 1), (I6 1)]) uL rfl ⟨0, 1, [(I6 1)], rfl, rfl, rfl, bC rfl, ⟨1, 1, [(I6 1)], rfl, rfl, rfl, bC rfl, rfl⟩⟩) (dn (vs := [(I6 1), (I6 1)]) h 4 [(I6 1), (I6 1)] rfl bS rfl rfl rfl rfl rfl (ai rfl (ai rfl aT)) fun w h => aa (ae (v := (.bool (true))) rfl) (nR (az (jV (vs := [(I6 1), (I6 1)]) (v2 := (.bool (true))) Tryz.results117 rfl rfl h 4 rfl bS rfl (⟨_, rfl, ?_⟩))))))
 refine aa (aY rfl rfl) (aa (aY rfl rfl) (dn (vs := [(I6 1), (I6 1)]) h 3 [(I6 1), (I6 1)] rfl bS rfl rfl rfl rfl rfl (ai rfl (ai rfl aT)) fun w h => aa (ae (v := (.bool (true))) rfl) (nR (az (jV (vs := [(I6 1), (I6 1)]) (v2 := (.bool (true))) Tryz.results87 rfl rfl h 3 rfl bS rfl ?_)))))
 obtain rfl := fI hs
 exact ⟨h.grown, rfl⟩
 refine nS (aa (dH (pv := [(0, (I6 1))]) (out := [(I6 1), (I6 0)]) uL rfl ⟨0, 1, [(I6 1)], rfl, rfl, rfl, bC rfl, rfl⟩) (dn (vs := [(I6 1), (I6 0)]) h 4 [(I6 1), (I6 0)] rfl bS rfl rfl rfl rfl rfl (ai rfl (ai rfl aT)) fun w h => aa (ae (v := (.bool (true))) rfl) (nR (jV (vs := [(I6 1), (I6 0)]) (v2 := (.bool (true))) Tryz.results117 rfl rfl h 4 rfl bS rfl (⟨_, rfl, ?_⟩)))))
 refine aa (aY rfl rfl) (aa (aY rfl rfl) (dn (vs := [(I6 1), (I6 0)]) h 3 [(I6 1), (I6 0)] rfl bS rfl rfl rfl rfl rfl (ai rfl (ai rfl aT)) fun w h => aa (ae (v := (.bool (true))) rfl) (nR (az (jV (vs := [(I6 1), (I6 0)]) (v2 := (.bool (true))) Tryz.results87 rfl rfl h 3 rfl bS rfl ?_)))))
 obtain rfl := fI hs
 exact ⟨h.grown, rfl⟩
 refine aI (ak (aO (nG (aa (ag sP rfl) (aa (aA h 1 rfl aU rfl rfl) (aa (iP rfl rfl) (aa (ah (v := (.bool (decide ((b.kind : Int) ≠ 1)))) rfl) (aC rfl rfl (fun q => ag sP rfl) (aC rfl rfl (fun q => aA h 2 rfl aU (dE q) rfl) (aC rfl rfl (fun q => iP (dE q) rfl) (aa (iy rfl rfl nQ) (nN (aH hs rfl (fun c7 hs => ?_) (fun c7 hs => ?_))))))))))))))
 refine nG (aa (dH (pv := []) (out := [(I6 0), (I6 0)]) uL rfl rfl) (dn (vs := [(I6 0), (I6 0)]) h 3 [(I6 0), (I6 0)] rfl bS rfl rfl rfl rfl rfl (ai rfl (ai rfl aT)) fun w h => aa (ae (v := (.bool (false))) rfl) (nR (az (jV (vs := [(I6 0), (I6 0)]) (v2 := (.bool (false))) Tryz.results87 rfl rfl h 3 rfl bS rfl ?_)))))
 obtain rfl := fI hs
 exact ⟨h.grown, rfl⟩
 refine nS (aa (ae (v := (I6 0)) rfl) (nN (bX (σ := Int) (inl ([7, 9] ++ rg 28 33)) (fun x8 => [(9, (I6 x8))]) (fun x8 w => SH w0 M BE w (hset [(3, .blk b3 [(I6 0), (I6 0)])]) ∧ Ay x8 = some r) ?_ ?_)))
 rintro x8 w dz ⟨h, hs⟩
 refine nG (aa (ah (v := (I6 x8)) rfl) (aa (dH (pv := [(0, (I6 1)), (1, (I6 x8))]) (out := [(I6 1), (I6 x8)]) uL rfl ⟨0, 1, [(I6 1)], rfl, rfl, rfl, bC rfl, ⟨1, 1, [(I6 x8)], rfl, rfl, rfl, bC rfl, rfl⟩⟩) (aa (ah (v := (I6 x8)) rfl) (aa (qy rfl rfl) (aa (ah (v := (.bool (decide ((-1000000000 : Int) ≤ x8)))) rfl) (aC rfl rfl (fun q => ah (v := (I6 x8)) rfl) (aC rfl rfl (fun q => Fs (dE q) rfl) (aa (gP rfl rfl nQ) (dn (vs := [(I6 1), (I6 x8)]) h 3 [(I6 1), (I6 x8)] rfl bS rfl rfl rfl rfl rfl (ai rfl (ai rfl aT)) fun w h => aa (ae (v := (.bool ((decide ((-1000000000 : Int) ≤ x8) && decide ((x8 : Int) ≤ 1000000000))))) rfl) (nR (jV (vs := [(I6 1), (I6 x8)]) (v2 := (.bool ((decide ((-1000000000 : Int) ≤ x8) && decide ((x8 : Int) ≤ 1000000000))))) Tryz.results87 rfl rfl h 3 rfl bS rfl ?_)))))))))))
 obtain rfl := fI hs
 exact ⟨h.grown, rfl⟩
 refine nG (aa (ah (v := (I6 a)) rfl) (nN (aP (nG (aa (bD rfl rfl) (aa (ae (v := (.bool (decide ((a : Int) = 1)))) rfl) (nN (aH hs rfl (fun c9 hs => ?_) (fun c9 hs => ?_)))))))))
 refine aB (aa (ag iq rfl) (aa (aA h 1 rfl aU rfl rfl) (aa (ag iq rfl) (aa (aA h 2 rfl aU rfl rfl) ?_))))
 obtain ⟨a10, hs⟩ := bu hs
 refine aa (dm rfl rfl a10) (aa (ae (v := (I6 ((b.n + c.n)))) rfl) (ay (ax (au ?_))))
 exact bP (b.n + c.n) ⟨h.cn _, hs⟩
 refine nG (aa (bD rfl rfl) (aa (ae (v := (.bool (decide ((a : Int) = 2)))) rfl) (nN (aH hs rfl (fun c11 hs => ?_) (fun c11 hs => ?_)))))
 refine aB (aa (ag iq rfl) (aa (aA h 1 rfl aU rfl rfl) (aa (ag iq rfl) (aa (aA h 2 rfl aU rfl rfl) ?_))))
 obtain ⟨a12, hs⟩ := bu hs
 refine aa (oO rfl rfl a12) (aa (ae (v := (I6 ((b.n - c.n)))) rfl) (ay (ax (au ?_))))
 exact bP (b.n - c.n) ⟨h.cn _, hs⟩
 refine nG (aa (bD rfl rfl) (aa (ae (v := (.bool (decide ((a : Int) = 3)))) rfl) (nN (aH hs rfl (fun c13 hs => ?_) (fun c13 hs => ?_)))))
 refine aB (aa (ag iq rfl) (aa (aA h 1 rfl aU rfl rfl) (aa (ag iq rfl) (aa (aA h 2 rfl aU rfl rfl) ?_))))
 obtain ⟨a14, hs⟩ := bu hs
 refine aa (r_mul rfl rfl a14) (aa (ae (v := (I6 ((b.n * c.n)))) rfl) (ay (ax (au ?_))))
 exact bP (b.n * c.n) ⟨h.cn _, hs⟩
 refine nG (aa (bD rfl rfl) (aa (ae (v := (.bool (decide ((a : Int) = 4)))) rfl) (nN (aH hs rfl (fun c15 hs => ?_) (fun c15 hs => ?_)))))
 refine nG (aa (ah (v := (.func (.func 117) #[] #[])) rfl) (aa (ag iq rfl) (aa (aA h 1 rfl aU rfl rfl) (aa (ag iq rfl) (aa (aA h 2 rfl aU rfl rfl) (aa (dL rfl rfl) (jP (args := [(.bool (decide ((b.n : Int) < c.n)))]) Sc rfl rfl (aL (args := [(.bool (decide ((b.n : Int) < c.n)))]) Tryz.func117 rfl Tryz.ntmps117 (bC rfl) (nG (bO h 5 bS fun w b16 h => aa (ae (v := (.bool (false))) rfl) (nK (aa (ah (v := (.bool (decide ((b.n : Int) < c.n)))) rfl) (nN (aH hs rfl (fun c17 hs => ?_) (fun c17 hs => ?_)))))))))))))))
 refine nG (aa (dH (pv := [(0, (I6 1)), (1, (I6 1))]) (out := [(I6 1), (I6 1)]) uL rfl ⟨0, 1, [(I6 1)], rfl, rfl, rfl, bC rfl, ⟨1, 1, [(I6 1)], rfl, rfl, rfl, bC rfl, rfl⟩⟩) (dn (vs := [(I6 1), (I6 1)]) h 5 [(I6 1), (I6 1)] rfl bS rfl rfl rfl rfl rfl (ai rfl (ai rfl aT)) fun w h => aa (ae (v := (.bool (true))) rfl) (nR (az (jV (vs := [(I6 1), (I6 1)]) (v2 := (.bool (true))) Tryz.results117 rfl rfl h 5 rfl bS rfl (⟨_, rfl, ?_⟩))))))
 refine aa (aY rfl rfl) (aa (aY rfl rfl) (dn (vs := [(I6 1), (I6 1)]) h 3 [(I6 1), (I6 1)] rfl bS rfl rfl rfl rfl rfl (ai rfl (ai rfl aT)) fun w h => aa (ae (v := (.bool (true))) rfl) (nR (aF (az (jV (vs := [(I6 1), (I6 1)]) (v2 := (.bool (true))) Tryz.results87 rfl rfl h 3 rfl bS rfl ?_))))))
 obtain rfl := fI hs
 exact ⟨h.grown, rfl⟩
 refine nS (aa (dH (pv := [(0, (I6 1))]) (out := [(I6 1), (I6 0)]) uL rfl ⟨0, 1, [(I6 1)], rfl, rfl, rfl, bC rfl, rfl⟩) (dn (vs := [(I6 1), (I6 0)]) h 5 [(I6 1), (I6 0)] rfl bS rfl rfl rfl rfl rfl (ai rfl (ai rfl aT)) fun w h => aa (ae (v := (.bool (true))) rfl) (nR (jV (vs := [(I6 1), (I6 0)]) (v2 := (.bool (true))) Tryz.results117 rfl rfl h 5 rfl bS rfl (⟨_, rfl, ?_⟩)))))
 refine aa (aY rfl rfl) (aa (aY rfl rfl) (dn (vs := [(I6 1), (I6 0)]) h 3 [(I6 1), (I6 0)] rfl bS rfl rfl rfl rfl rfl (ai rfl (ai rfl aT)) fun w h => aa (ae (v := (.bool (true))) rfl) (nR (aF (az (jV (vs := [(I6 1), (I6 0)]) (v2 := (.bool (true))) Tryz.results87 rfl rfl h 3 rfl bS rfl ?_))))))
 obtain rfl := fI hs
 exact ⟨h.grown, rfl⟩
 refine aI (ax (au ?_))
 exact bP 0 ⟨h.cn _, hs⟩
def xg (sx : LX.State) (a : Ins) (x5 : Val) (xb : LX.Frame) (kb : Int) (x14 : Bool) : Option (Bool × LX.State) :=
  bif x14 then some (false, sx) else bif decide ((a.op : Int) = 6) then (idx sx.cells x5.n).bind fun Bl => (idx xb.regs a.b).bind fun x27 => (idx Bl a.c).bind fun zW => some (true, (⟨sx.frames, (sx.cells.set (x5.n).toNat (Bl.set (a.c).toNat x27)), sx.status, sx.aQ⟩ : LX.State)) else (idx sx.cells x5.n).bind fun x41 => (idx x41 a.c).bind fun Zg => (idx xb.regs a.a).bind fun x59 => some (true, (⟨(sx.frames.set (kb).toNat ({ xb with regs := (xb.regs.set (a.a).toNat Zg) })), sx.cells, sx.status, sx.aQ⟩ : LX.State))
def xh (xb : LX.Frame) (sx : LX.State) (a : Ins) (kb : Int) (x4 : Int) : Option (Bool × LX.State) :=
  (idx xb.regs x4).bind fun x5 => bif decide ((x5.kind : Int) ≠ 2) then xg sx a x5 xb kb true else (idx sx.cells x5.n).bind fun x66 => xg sx a x5 xb kb (decide (((x66.length : Int) : Int) ≤ a.c))
def FZ (sx : LX.State) (a : Ins) (kb : Int) (xb : LX.Frame) : Option (Bool × LX.State) :=
  bif decide ((a.op : Int) = 6) then xh xb sx a kb a.a else xh xb sx a kb a.b
theorem JX (w0 : World) (M : BS) (hM : ∀ b, M b → b < w0.heap.size) (sb : Nat) (sx : LX.State) (gV vs1 : Value) (j6 jJ : List Value) (hC : Chunk.holds w0 M (Chunk.own' (cT sb gV vs1 (sx.status) (sx.aQ) sx.frames j6 sx.cells jJ)) (cT sb gV vs1 (sx.status) (sx.aQ) sx.frames j6 sx.cells jJ)) (hap : ∀ b, Chunk.own' (cT sb gV vs1 (sx.status) (sx.aQ) sx.frames j6 sx.cells jJ) b → ¬ M b) (a : Ins) (EF : Value) (ha4 : eX dA w0 (fun b => M b ∨ (cT sb gV vs1 (sx.status) (sx.aQ) sx.frames j6 sx.cells jJ).own' b) EF a.args) (kb : Int) (xb : LX.Frame) (gb : 0 ≤ kb) (eb : sx.frames[kb.toNat]? = some xb) (vb : Value) (hb : j6[kb.toNat]? = some vb) (r : Bool × LX.State) (hs : FZ sx a kb xb = some r) :
    Calls Tryz.prog 88 #[(.pointer (some ⟨sb, 0, none⟩)), (.agg #[(I6 a.op), (I6 a.a), (I6 a.b), (I6 a.c), EF]), vb] w0 (fun e w' => aD (Chunk.own' (cT sb gV vs1 (sx.status) (sx.aQ) sx.frames j6 sx.cells jJ)) w0 w' ∧ ∃ zM, ∃ NF, ∃ NG, ∃ NH, e = .returned (.bool r.1) ∧ Chunk.holds w' M (Chunk.own' (cT sb zM NF r.2.status r.2.aQ r.2.frames NG r.2.cells NH)) (cT sb zM NF r.2.status r.2.aQ r.2.frames NG r.2.cells NH) ∧ (∀ b, Chunk.own' (cT sb zM NF r.2.status r.2.aQ r.2.frames NG r.2.cells NH) b → b < w0.heap.size → Chunk.own' (cT sb gV vs1 (sx.status) (sx.aQ) sx.frames j6 sx.cells jJ) b)) := by
 refine aL (args := [(.pointer (some ⟨sb, 0, none⟩)), (.agg #[(I6 a.op), (I6 a.a), (I6 a.b), (I6 a.c), EF]), vb]) Tryz.func88 rfl Tryz.ntmps88 (bC rfl) ?_
 have h := SH.Ci hM hC hap
 replace h := h.yw 6 ha4 ze
 generalize yB : (cT sb gV vs1 (sx.status) (sx.aQ) sx.frames j6 sx.cells jJ).own' = K0 at h
 replace h := h.bN 1 5 (by decide) rfl rfl
 replace h := h.bN 1 4 (by decide) rfl rfl
 replace h := h.bN 1 3 (by decide) rfl rfl
 replace h := h.bN 1 2 (by decide) rfl rfl
 obtain ⟨u1, e2, h⟩ := h.qA 3 7 xb.regs rfl rfl (by decide) eb rfl
 obtain rfl : vb = u1 := fI (hb.symm.trans e2)
 refine nG (oP (cs := [(I6 a.op), (I6 a.a), (I6 a.b), (I6 a.c), EF]) h 8 rfl rfl fun w b3 h => aa (ae (v := (.bool (false))) rfl) (nJ (aa (ag iZ rfl) (aa (aA h 8 rfl aU rfl rfl) (aa (ae (v := (I6 a.b)) rfl) (nN (bX (σ := Int) (inl [7, 11, 12, 13, 14, 15]) (fun x4 => [(7, (I6 x4))]) (fun x4 w => SH w0 M K0 w (hset [(1, .blk sb [gV, vs1, (I6 sx.status), (I6 sx.aQ)]), (2, .own bU.raw 49 gV (List.zip sx.frames j6)), (3, .ib (dB bJ 51 (hat (kb).toNat) j6 (List.map bU.sub sx.frames))), (4, .own (eT Val).raw 47 vs1 (List.zip sx.cells jJ)), (5, .ib (dB bJ 51 hn jJ (List.map (eT Val).sub sx.cells))), (6, .rd dA EF a.args), (7, .own bJ 51 vb xb.regs), (8, .blk b3 [(I6 a.op), (I6 a.a), (I6 a.b), (I6 a.c), EF])]) ∧ xh xb sx a kb x4 = some r) ?_ ?_)))))))
 rintro x4 w dz ⟨h, hs⟩
 refine nG (aa (ah (v := vb) rfl) (aa (ah (v := (I6 x4)) rfl) ?_))
 obtain ⟨x5, e6, hs⟩ := aJ hs
 obtain ⟨b8, q9, i7⟩ := h.xL 7 rfl bH rfl (aG e6).1 (aG e6).2
 refine aa (i7 _ _ _ _ _ _ _ _ _ rfl rfl) ?_
 obtain ⟨cs10, m11, r12⟩ := h.zV 7 rfl q9 (aG e6).2
 obtain rfl := r12
 refine aa (oZ (k := 0) (vs := [(I6 x5.kind), (I6 x5.n)]) m11 bS rfl rfl rfl (bC rfl)) (bO h 9 bS fun w b13 h => dn (vs := [(I6 x5.kind), (I6 x5.n)]) h 9 [(I6 x5.kind), (I6 x5.n)] rfl bS rfl rfl rfl rfl rfl (ai rfl (ai rfl aT)) fun w h => nN (aO (bX (σ := Bool) (inl (rg 20 17)) (fun x14 => [(36, (.bool (x14)))]) (fun x14 w => SH w0 M K0 w (hset [(1, .blk sb [gV, vs1, (I6 sx.status), (I6 sx.aQ)]), (2, .own bU.raw 49 gV (List.zip sx.frames j6)), (3, .ib (dB bJ 51 (hat (kb).toNat) j6 (List.map bU.sub sx.frames))), (4, .own (eT Val).raw 47 vs1 (List.zip sx.cells jJ)), (5, .ib (dB bJ 51 hn jJ (List.map (eT Val).sub sx.cells))), (6, .rd dA EF a.args), (7, .own bJ 51 vb xb.regs), (8, .blk b3 [(I6 a.op), (I6 a.a), (I6 a.b), (I6 a.c), EF]), (9, .blk b13 [(I6 x5.kind), (I6 x5.n)])]) ∧ xg sx a x5 xb kb x14 = some r) ?_ ?_)))
 rintro x14 w dz ⟨h, hs⟩
 refine aH hs rfl (fun c15 hs => ?_) (fun c15 hs => ?_)
 refine nG (aa (ae (v := (.bool (false))) rfl) (nR (az (bR (v := (.bool (false))) Tryz.results88 rfl ?_))))
 replace h := h.iQ 3 7 rfl rfl (by decide) eb hb rfl
 replace h := h.pair 1 2 (by decide)
 replace h := h.pair 1 3 (by decide)
 replace h := h.pair 1 4 (by decide)
 replace h := h.pair 1 5 (by decide)
 obtain rfl := fI hs
 subst yB
 obtain ⟨o1, o2, o3⟩ := h.o8 1 (C := (cT sb gV vs1 (sx.status) (sx.aQ) sx.frames j6 sx.cells jJ)) rfl ⟨⟨⟨⟨trivial, trivial⟩, trivial⟩, trivial⟩, trivial⟩
 exact ⟨o2, gV, vs1, j6, jJ, rfl, o1, o3⟩
 refine aI (ak (aO (nG (aa (ag qB rfl) (aa (aA h 8 rfl aU rfl rfl) (aa (bD rfl rfl) (nN (aH hs rfl (fun c16 hs => ?_) (fun c16 hs => ?_)))))))))
 refine sI 16 mixed (by kernel_rfl) h fun w h => aM (ah (v := (.pointer (some ⟨sb, 0, none⟩))) rfl) (aM (bz rfl) (aM (ag il rfl) (aM (aA h 1 rfl kr rfl rfl) (aM (ag iq rfl) (aM (aA h 9 rfl aU rfl rfl) ?_)))))
 obtain ⟨Bl, e18, hs⟩ := aJ hs
 obtain ⟨u22, e23, h⟩ := h.qA 5 10 Bl rfl rfl (by decide) (aG e18).2 rfl
 obtain ⟨b20, q21, i19⟩ := h.xL 4 rfl eB rfl (aG e18).1 (fw (aG e18).2 e23)
 refine aM (i19 _ _ _ _ _ _ _ _ _ rfl rfl) ?_
 obtain ⟨cs24, m25, r26⟩ := h.zV 4 rfl q21 (fw (aG e18).2 e23)
 obtain ⟨rfl, -⟩ := r26
 refine aM (qa (k := 0) m25 lC rfl rfl) (aM (ag rz rfl) (aM (aA h 8 rfl aU rfl rfl) (aM (ah (v := vb) rfl) (aM (ag iZ rfl) (aM (aA h 8 rfl aU rfl rfl) ?_)))))
 obtain ⟨x27, e28, hs⟩ := aJ hs
 obtain ⟨b30, q31, i29⟩ := h.xL 7 rfl bH rfl (aG e28).1 (aG e28).2
 refine aM (i29 _ _ _ _ _ _ _ _ _ rfl rfl) ?_
 obtain ⟨cs32, m33, r34⟩ := h.zV 7 rfl q31 (aG e28).2
 obtain rfl := r34
 refine aM (oZ (k := 0) (vs := [(I6 x27.kind), (I6 x27.n)]) m33 bS rfl rfl rfl (bC rfl)) ?_
 obtain ⟨zW, e36, hs⟩ := aJ hs
 obtain ⟨b38, q39, i37⟩ := h.xL 10 rfl bH rfl (aG e36).1 (aG e36).2
 refine aM (i37 _ _ _ _ _ _ _ _ _ rfl rfl) (Ch (zF (a' := x27) (vs := [(I6 x27.kind), (I6 x27.n)]) h 10 rfl q39 rfl (aG e36).2 bS rfl rfl rfl rfl rfl fun w h k40 => nJ (aa (ae (v := (.bool (true))) rfl) (nR (bR (v := (.bool (true))) Tryz.results88 rfl ?_)))))
 replace h := h.iQ 3 7 rfl rfl (by decide) eb hb rfl
 replace h := h.sM 4 5 10 (Bl.set (a.c).toNat x27) rfl rfl rfl (by decide) (by decide) (by decide) (aG e18).2 e23 rfl
 replace h := h.pair 1 2 (by decide)
 replace h := h.pair 1 3 (by decide)
 replace h := h.pair 1 4 (by decide)
 replace h := h.pair 1 5 (by decide)
 obtain rfl := fI hs
 subst yB
 obtain ⟨o1, o2, o3⟩ := h.o8 1 (C := (cT sb gV vs1 (sx.status) (sx.aQ) sx.frames j6 (sx.cells.set (x5.n).toNat (Bl.set (a.c).toNat x27)) jJ)) rfl ⟨⟨⟨⟨trivial, trivial⟩, trivial⟩, trivial⟩, trivial⟩
 exact ⟨o2, gV, vs1, j6, jJ, rfl, o1, o3⟩
 refine sI 16 mixed (by kernel_rfl) h fun w h => aM (ah (v := vb) rfl) (aM (ag kU rfl) (aM (aA h 8 rfl aU rfl rfl) (aM (ah (v := (.pointer (some ⟨sb, 0, none⟩))) rfl) (aM (bz rfl) (aM (ag il rfl) (aM (aA h 1 rfl kr rfl rfl) (aM (ag iq rfl) (aM (aA h 9 rfl aU rfl rfl) ?_))))))))
 obtain ⟨x41, e42, hs⟩ := aJ hs
 obtain ⟨u46, e47, h⟩ := h.qA 5 11 x41 rfl rfl (by decide) (aG e42).2 rfl
 obtain ⟨Ua, q45, i43⟩ := h.xL 4 rfl eB rfl (aG e42).1 (fw (aG e42).2 e47)
 refine aM (i43 _ _ _ _ _ _ _ _ _ rfl rfl) ?_
 obtain ⟨cs48, m49, r50⟩ := h.zV 4 rfl q45 (fw (aG e42).2 e47)
 obtain ⟨rfl, -⟩ := r50
 refine aM (qa (k := 0) m49 lC rfl rfl) (aM (ag rz rfl) (aM (aA h 8 rfl aU rfl rfl) ?_))
 obtain ⟨Zg, e52, hs⟩ := aJ hs
 obtain ⟨b54, q55, i53⟩ := h.xL 11 rfl bH rfl (aG e52).1 (aG e52).2
 refine aM (i53 _ _ _ _ _ _ _ _ _ rfl rfl) ?_
 obtain ⟨cs56, m57, r58⟩ := h.zV 11 rfl q55 (aG e52).2
 obtain rfl := r58
 refine aM (oZ (k := 0) (vs := [(I6 Zg.kind), (I6 Zg.n)]) m57 bS rfl rfl rfl (bC rfl)) ?_
 obtain ⟨x59, e60, hs⟩ := aJ hs
 obtain ⟨b62, q63, i61⟩ := h.xL 7 rfl bH rfl (aG e60).1 (aG e60).2
 refine aM (i61 _ _ _ _ _ _ _ _ _ rfl rfl) (Ch (zF (a' := Zg) (vs := [(I6 Zg.kind), (I6 Zg.n)]) h 7 rfl q63 rfl (aG e60).2 bS rfl rfl rfl rfl rfl fun w h k64 => nJ (aa (ae (v := (.bool (true))) rfl) (nR (bR (v := (.bool (true))) Tryz.results88 rfl ?_)))))
 replace h := h.sM 2 3 7 ({ xb with regs := (xb.regs.set (a.a).toNat Zg) }) rfl rfl rfl (by decide) (by decide) (by decide) eb hb rfl
 replace h := h.iQ 5 11 rfl rfl (by decide) (aG e42).2 e47 rfl
 replace h := h.pair 1 2 (by decide)
 replace h := h.pair 1 3 (by decide)
 replace h := h.pair 1 4 (by decide)
 replace h := h.pair 1 5 (by decide)
 obtain rfl := fI hs
 subst yB
 obtain ⟨o1, o2, o3⟩ := h.o8 1 (C := (cT sb gV vs1 (sx.status) (sx.aQ) (sx.frames.set (kb).toNat ({ xb with regs := (xb.regs.set (a.a).toNat Zg) })) j6 sx.cells jJ)) rfl ⟨⟨⟨⟨trivial, trivial⟩, trivial⟩, trivial⟩, trivial⟩
 exact ⟨o2, gV, vs1, j6, jJ, rfl, o1, o3⟩
 refine Cz mixed (by kernel_rfl) h fun w h => aM (ag sP rfl) (aM (aA h 9 rfl aU rfl rfl) (aM (iP rfl rfl) (aM (ah (v := (.bool (decide ((x5.kind : Int) ≠ 2)))) rfl) (jL (b := decide ((x5.kind : Int) ≠ 2)) hs (fun yA hs => ?_) (fun yA hs => ?_)))))
 refine gD (b' := true) rfl (cB yA) rfl (gD (b' := true) rfl (cB yA) rfl (gD (b' := true) rfl (cB yA) rfl (gD (b' := true) rfl (cB yA) rfl (gD (b' := true) rfl (cB yA) rfl (gD (b' := true) rfl (cB yA) rfl (gD (b' := true) rfl (cB yA) rfl (gD (b' := true) rfl (cB yA) rfl (gD (b' := true) rfl (cB yA) rfl (gD (b' := true) rfl (cB yA) rfl (gD (b' := true) rfl (cB yA) rfl (gD (b' := true) rfl (cB yA) rfl (aM (dJ (b := true) (v := (.bool (true))) (cB yA) rfl) (Bu (au ?_))))))))))))))
 exact bP true ⟨h.cn _, hs⟩
 refine jf rfl (cB yA) (aM (ag rz rfl) (jf rfl (cB yA) (aM (aA h 8 rfl aU rfl rfl) (jf rfl (cB yA) (aM (ah (v := (.pointer (some ⟨sb, 0, none⟩))) rfl) (jf rfl (cB yA) (aM (bz rfl) (jf rfl (cB yA) (aM (ag il rfl) (jf rfl (cB yA) (aM (aA h 1 rfl kr rfl rfl) (jf rfl (cB yA) (aM (ag iq rfl) (jf rfl (cB yA) (aM (aA h 9 rfl aU rfl rfl) (jf rfl (cB yA) ?_))))))))))))))))
 obtain ⟨x66, Xq, hs⟩ := aJ hs
 obtain ⟨u71, Zh, h⟩ := h.qA 5 12 x66 rfl rfl (by decide) (aG Xq).2 rfl
 obtain ⟨b69, q70, i68⟩ := h.xL 4 rfl eB rfl (aG Xq).1 (fw (aG Xq).2 Zh)
 refine aM (i68 _ _ _ _ _ _ _ _ _ rfl rfl) (jf rfl (cB yA) ?_)
 obtain ⟨cs73, Zi, r75⟩ := h.zV 4 rfl q70 (fw (aG Xq).2 Zh)
 obtain ⟨rfl, -⟩ := r75
 refine aM (qa (k := 0) Zi lC rfl rfl) (jf rfl (cB yA) (aM (bT bH rfl (h.dG 12 rfl)) (jf rfl (cB yA) (aM (qy rfl rfl) (aM (dJ (b := false) (v := (.bool (decide (((x66.length : Int) : Int) ≤ a.c)))) (cB yA) rfl) (Bu ?_))))))
 replace h := h.iQ 5 12 rfl rfl (by decide) (aG Xq).2 Zh rfl
 refine au ?_
 exact bP (decide (((x66.length : Int) : Int) ≤ a.c)) ⟨h.cn _, hs⟩
 refine nG (aa (ag qB rfl) (aa (aA h 8 rfl aU rfl rfl) (aa (bD rfl rfl) (nN (aH hs rfl (fun c76 hs => ?_) (fun c76 hs => ?_))))))
 refine aB (aa (ag kU rfl) (aa (aA h 8 rfl aU rfl rfl) (aa (ae (v := (I6 a.a)) rfl) (ay (au ?_)))))
 exact bP a.a ⟨h.cn _, hs⟩
 refine aI (au ?_)
 exact bP a.b ⟨h.cn _, hs⟩
def u6 (NB : (List Int × List (Int × Bool)) → Option (List Int × Int)) (tq : List Int) (BK : List (Int × Bool)) : Option (List Int × Int) :=
  NB (tq, BK)
def u7 (LK : (List Int × List (Int × Bool)) → Option (List Int × Int)) (QU : List Int) (G5 : List (Int × Bool)) : Option (List Int × Int) :=
  LK (QU, G5)
def oG (vR : Val) (s : List Int × List (Int × Bool)) (LK : List Int × List (Int × Bool) → Option (List Int × Int)) : Option (List Int × Int) :=
  match s with | (gW, qf) => bif (decide ((vR.kind : Int) = 2) && (!((lk vR.n qf).getD false))) then gJ (Room 8 gW [vR.n]) (u7 LK (gW ++ [vR.n]) (BF vR.n true qf)) else u7 LK gW qf
def oH (JY : Int) (O7 : (Int × List Int × List (Int × Bool)) → Option (List Int × Int)) (s : List Int × List (Int × Bool)) : Option (List Int × Int) :=
  match s with | (gW, qf) => gJ (jI (JY + 1)) (O7 ((JY + 1), gW, qf))
def mg (a : List (List Val)) (s : Int × List Int × List (Int × Bool)) (O7 : Int × List Int × List (Int × Bool) → Option (List Int × Int)) : Option (List Int × Int) :=
  match s with | (JY, BM, Bj) => bif decide ((JY : Int) < (BM.length : Int)) then (idx BM JY).bind fun x79 => (idx a x79).bind fun x87 => each oG (oH JY O7) x87 (BM, Bj) else some (BM, 0)
def qV (sZ : Val) (s : List Int × List (Int × Bool)) (NB : List Int × List (Int × Bool) → Option (List Int × Int)) : Option (List Int × Int) :=
  match s with | (y32, Qb) => bif (decide ((sZ.kind : Int) = 2) && (!((lk sZ.n Qb).getD false))) then gJ (Room 8 y32 [sZ.n]) (u6 NB (y32 ++ [sZ.n]) (BF sZ.n true Qb)) else u6 NB y32 Qb
def vg (N : Nat) (a : List (List Val)) (s : List Int × List (Int × Bool)) : Option (List Int × Int) :=
  match s with | (y32, Qb) => again (mg a) N (0, y32, Qb)
def qW (a : List (List Val)) (x6 : Val) (s : Unit) (nx8 : Unit → Option (List Int × Int)) : Option (List Int × Int) :=
  bif decide (((cz x6 (a.length : Int)) : Int) ≠ 0) then some ([], (cz x6 (a.length : Int))) else nx8 ()
def oI (N : Nat) (a : List (List Val)) (b : List Val) (s : Unit) : Option (List Int × Int) :=
  each qV (vg N a) b ([], ([] : List (Int × Bool)))
def BX (N : Nat) (a : List (List Val)) (b : List Val) : Option (List Int × Int) :=
  bif decide (((dK a) : Int) ≠ 0) then some ([], (dK a)) else bif decide ((400 : Int) < (b.length : Int)) then some ([], 2) else each (qW a) (oI N a b) b ()
theorem NI (N : Nat) (w0 : World) (M : BS) (hM : ∀ b, M b → b < w0.heap.size) (va : Value) (a : List (List Val)) (ha : fP (oV bJ) w0 BE M va a) (vb : Value) (b : List Val) (hb : fP bJ w0 BE M vb b) (r : List Int × Int) (hs : BX N a b = some r) :
    Calls Tryz.prog 48 #[va, vb] w0 (fun e w' => Grow w0 w' ∧ ∃ u0, e = .returned (.tuple #[u0, .int .i64 r.2]) ∧ dY dA 3 w' M u0 r.1 ∧ (∀ b, ob u0 b → w0.heap.size ≤ b)) := by
 refine aL (args := [va, vb]) Tryz.func48 rfl Tryz.ntmps48 (bC rfl) ?_
 have h := SH.init hM
 replace h := h.fG 1 ha bE
 replace h := h.fG 2 hb (cO bE)
 have vE := ha.bW
 have KZ := hb.bW
 refine nG (aa (ae (v := (.slice none 0 0)) rfl) (aa (ae (v := (I6 0)) rfl) (nK (aa (ah (v := va) rfl) (aR V8 rfl rfl (Cm _ _ h.lt va a (h.iM 1 rfl) _ rfl) ?_)))))
 rintro _ w ⟨k1, rfl⟩
 refine ⟨_, rfl, ?_⟩
 replace h := h.grow k1
 refine aa (ae (v := (I6 ((dK a)))) rfl) (nJ (aa (ah (v := (I6 ((dK a)))) rfl) (aa (iP rfl rfl) (nN (aH hs rfl (fun c2 hs => ?_) (fun c2 hs => ?_))))))
 refine nG (aa (ah (v := (I6 ((dK a)))) rfl) (aa (ae (v := (.slice none 0 0)) rfl) (aa (ae (v := (I6 ((dK a)))) rfl) (nR (az (D9 (v1 := (.slice none 0 0)) (v2 := (I6 ((dK a)))) Tryz.results48 rfl rfl ?_))))))
 obtain rfl := fI hs
 exact ⟨h.grown, _, rfl, dY.nil, kz⟩
 refine aI (ak (aO (nG (aa (ah (v := vb) rfl) (aa (bT bH rfl (h.iM 2 rfl)) (aa (j5 rfl rfl) (nN (aH hs rfl (fun c3 hs => ?_) (fun c3 hs => ?_)))))))))
 refine nG (aa (ae (v := (.slice none 0 0)) rfl) (aa (ae (v := (I6 2)) rfl) (nR (az (D9 (v1 := (.slice none 0 0)) (v2 := (I6 2)) Tryz.results48 rfl rfl ?_)))))
 obtain rfl := fI hs
 exact ⟨h.grown, _, rfl, dY.nil, kz⟩
 refine aI (ak (aO (nG (aa (ah (v := vb) rfl) (aa (bT bH rfl (h.iM 2 rfl)) (aa (ah (v := (I6 0)) rfl) (nN (aP (fT (σ := Nat × Int) (inl ([4, 5, 8, 9] ++ rg 28 12)) (fun ⟨k4, i5⟩ => [(28, (I6 i5))]) (fun ⟨k4, i5⟩ w => SH w0 M BE w (hset [(1, .sr (oV bJ) va a), (2, .sr bJ vb b)]) ∧ i5 = (k4 : Int) ∧ each (qW a) (oI N a b) (b.drop k4) () = some r) (fun ⟨k4, i5⟩ => b.length - k4) ⟨0, 0⟩ ⟨rfl, trivial⟩ ?_ ?_)))))))))
 exact ⟨h.cn _, rfl, hs⟩
 rintro ⟨k4, i5⟩ w dz ⟨h, hik, hs⟩
 refine nG ?_
 refine aa (dL rfl rfl) (nN ?_)
 refine aO (iw rfl (fun e9 => ?_) (fun e9 => ?_))
 refine aI (ak ?_)
 obtain ⟨x6, e10a, e10b⟩ := gK (hik ▸ e9)
 rw [e10b, dO] at hs
 generalize hnx8 : each (qW a) (oI N a b) (b.drop (k4 + 1)) = nx8 at hs
 have e10r := gN ((h.iM 2 rfl)).bW hik e9
 refine aO (aP (nG ?_))
 obtain ⟨b12, o13, cs14, h, r15, i11⟩ := h.Br 2 3 rfl bH rfl (jb hik) (gM hik e10a)
 obtain rfl := r15
 refine aa (i11 _ _ _ _ _ _ _ _ _ rfl rfl) (aa (jm (k := 0) (vs := [(I6 x6.kind), (I6 x6.n)]) h 3 rfl bS rfl rfl rfl (bC rfl)) (bO h 4 bS fun w b16 h => dn (vs := [(I6 x6.kind), (I6 x6.n)]) h 4 [(I6 x6.kind), (I6 x6.n)] rfl bS rfl rfl rfl rfl rfl (ai rfl (ai rfl aT)) fun w h => nJ (aa (dh (vs := [(I6 x6.kind), (I6 x6.n)]) h 4 rfl bS rfl rfl rfl) (aa (ah (v := va) rfl) (aa (bT eB rfl (h.iM 1 rfl)) (aR Qp rfl rfl (BQ _ _ h.lt x6 (a.length : Int) _ rfl) ?_))))))
 rintro _ w ⟨k17, rfl⟩
 refine ⟨_, rfl, ?_⟩
 replace h := h.grow k17
 refine aa (ae (v := (I6 ((cz x6 (a.length : Int))))) rfl) (nJ (aa (ah (v := (I6 ((cz x6 (a.length : Int))))) rfl) (aa (iP rfl rfl) (nN (aH hs rfl (fun c18 hs => ?_) (fun c18 hs => ?_))))))
 refine nG (aa (ah (v := (I6 ((cz x6 (a.length : Int))))) rfl) (aa (ae (v := (.slice none 0 0)) rfl) (aa (ae (v := (I6 ((cz x6 (a.length : Int))))) rfl) (nR (aF (az (az (aF (az (D9 (v1 := (.slice none 0 0)) (v2 := (I6 ((cz x6 (a.length : Int))))) Tryz.results48 rfl rfl ?_))))))))))
 obtain rfl := fI hs
 exact ⟨h.grown, _, rfl, dY.nil, kz⟩
 refine aI (ax (ak (aB (aa (dm rfl rfl e10r) (aa (ah (v := (I6 ((i5 + 1)))) rfl) (ay (au ?_)))))))
 subst hnx8
 exact jQ ⟨k4 + 1, i5 + 1⟩ ⟨h.cn _, by omega, hs⟩ (by have := qE e9; dsimp only; omega)
 rw [gL (hik ▸ e9), gT] at hs
 refine nE (Dv h 5 fun w b19 h => qF h 6 GJ fun w b20 h => eH h 6 [(.map (some b19))] rfl GJ rfl rfl rfl rfl rfl fun w h => nJ (qF h 7 rQ fun w KT h => nJ (aa (sU (c1 := []) (c2 := [(.pointer (some ⟨b20, 0, none⟩)), (.pointer (some ⟨KT, 0, none⟩))]) rfl rfl) (aa (ae (v := (.func (.func 82) #[] #[(.pointer (some ⟨b20, 0, none⟩)), (.pointer (some ⟨KT, 0, none⟩))])) rfl) (nN (aO ?_))))))
 refine nG (aa (ah (v := vb) rfl) (aa (bT bH rfl (h.iM 2 rfl)) (aa (ah (v := (I6 0)) rfl) (nN (aP ?_)))))
 replace h := h.zb (R := dA) (E := 3) 11
 refine fT (σ := Nat × Int × Value × List Int × List (Int × Bool)) (inl ([14] ++ rg 44 8)) (fun ⟨O0, i35, v31, y32, Qb⟩ => [(44, (I6 i35))]) (fun ⟨O0, i35, v31, y32, Qb⟩ w => SH w0 M BE w (hset [(1, .sr (oV bJ) va a), (2, .sr bJ vb b), (5, .mp b19 (List.map (fun p => (p.1, (fun x => Value.bool x) p.2)) Qb)), (6, .blk b20 [(.map (some b19))]), (7, .blk KT [v31]), (11, .own dA 3 v31 y32)]) ∧ i35 = (O0 : Int) ∧ each qV (vg N a) (b.drop O0) (y32, Qb) = some r) (fun ⟨O0, i35, v31, y32, Qb⟩ => b.length - O0) ⟨0, 0, (.slice none 0 0), [], ([] : List (Int × Bool))⟩ ⟨rfl, trivial⟩ ?_ ?_
 exact ⟨h.cn _, rfl, hs⟩
 rintro ⟨O0, i35, v31, y32, Qb⟩ w dz ⟨h, hik, hs⟩
 refine nG ?_
 refine aa (dL rfl rfl) (nN ?_)
 refine aO (iw rfl (fun e39 => ?_) (fun e39 => ?_))
 refine aI (ak ?_)
 obtain ⟨sZ, Xe, Xf⟩ := gK (hik ▸ e39)
 rw [Xf, dO] at hs
 generalize Xg : each qV (vg N a) (b.drop (O0 + 1)) = NB at hs
 have e40r := gN ((h.iM 2 rfl)).bW hik e39
 refine bX (σ := Value × List Int × List (Int × Bool)) (inl [14, 46, 47, 48, 49, 50]) (fun ⟨v41, tq, BK⟩ => []) (fun ⟨v41, tq, BK⟩ w => SH w0 M BE w (hset [(1, .sr (oV bJ) va a), (2, .sr bJ vb b), (5, .mp b19 (List.map (fun p => (p.1, (fun x => Value.bool x) p.2)) BK)), (6, .blk b20 [(.map (some b19))]), (7, .blk KT [v41]), (11, .own dA 3 v41 tq)]) ∧ u6 NB tq BK = some r) ?_ ?_
 rintro ⟨v41, tq, BK⟩ w dz ⟨h, hs⟩
 refine aB (aa (dm rfl rfl e40r) (aa (ah (v := (I6 ((i35 + 1)))) rfl) (ay (au ?_))))
 subst Xg
 exact jQ ⟨O0 + 1, i35 + 1, v41, tq, BK⟩ ⟨h.cn _, by omega, hs⟩ (by have := qE e39; dsimp only; omega)
 refine aP (nG ?_)
 obtain ⟨Yu, o46, cs47, h, r48, i44⟩ := h.Br 2 12 rfl bH rfl (jb hik) (gM hik Xe)
 obtain rfl := r48
 refine aa (i44 _ _ _ _ _ _ _ _ _ rfl rfl) (aa (jm (k := 0) (vs := [(I6 sZ.kind), (I6 sZ.n)]) h 12 rfl bS rfl rfl rfl (bC rfl)) (bO h 13 bS fun w b49 h => dn (vs := [(I6 sZ.kind), (I6 sZ.n)]) h 13 [(I6 sZ.kind), (I6 sZ.n)] rfl bS rfl rfl rfl rfl rfl (ai rfl (ai rfl aT)) fun w h => nN (aB (aa (ah (v := (.func (.func 82) #[] #[(.pointer (some ⟨b20, 0, none⟩)), (.pointer (some ⟨KT, 0, none⟩))])) rfl) (aa (dh (vs := [(I6 sZ.kind), (I6 sZ.n)]) h 13 rfl bS rfl rfl rfl) (jP (args := [(.agg #[(I6 sZ.kind), (I6 sZ.n)]), (.pointer (some ⟨b20, 0, none⟩)), (.pointer (some ⟨KT, 0, none⟩))]) V9 rfl rfl (aL (args := [(.agg #[(I6 sZ.kind), (I6 sZ.n)]), (.pointer (some ⟨b20, 0, none⟩)), (.pointer (some ⟨KT, 0, none⟩))]) Tryz.func82 rfl Tryz.ntmps82 (bC rfl) (nG (oP (cs := [(I6 sZ.kind), (I6 sZ.n)]) h 14 rfl rfl fun w b50 h => nJ (aa (ag sP rfl) (aa (aA h 14 rfl aU rfl rfl) (aa (bD rfl rfl) (aa (ah (v := (.bool (decide ((sZ.kind : Int) = 2)))) rfl) (aC rfl rfl (fun q => aA h 6 rfl GJ rfl rfl) (aC rfl rfl (fun q => ag iq rfl) ?_)))))))))))))))
 refine aC rfl rfl (fun q => aA h 14 rfl aU (dE q) rfl) (aC rfl rfl (fun q => ZY (f := (fun x => Value.bool x)) (zz := false) Qb h 5 rfl FL (dE q) (dE q) rfl rfl) (aC rfl rfl (fun q => gQ (dE q)) (aa (gP rfl rfl nQ) (nN (aH hs rfl (fun c51 hs => ?_) (fun c51 hs => ?_))))))
 refine nG (aa (aA h 6 rfl GJ rfl rfl) (aa (ag iq rfl) (aa (aA h 14 rfl aU rfl rfl) (CB (qz := (List.map (fun p => (p.1, (fun x => Value.bool x) p.2)) (BF sZ.n true Qb))) h 5 rfl FL rfl rfl rfl (Dz (f := (fun x => Value.bool x)) _) fun w h => nN (aB (aa (aA h 7 rfl rQ rfl rfl) (aa (ag iq rfl) (aa (aA h 14 rfl aU rfl rfl) (sV (R := dA) (vs := [(I6 sZ.n)]) (xs := [sZ.n]) h 15 iR rfl rfl rfl ⟨rfl, trivial⟩ rfl fun w Yr h => ?_)))))))))
 obtain ⟨a53, hs⟩ := bu hs
 refine lg (R := dA) (m := [sZ.n]) h 11 rfl (h.dG 15 rfl) iR rfl rfl rfl a53.1 a53.2 fun w WY h => eH h 7 [WY] rfl rQ rfl rfl rfl rfl (h.dC 11 rfl).one fun w h => ay (Lg Tryz.results82 (⟨_, rfl, ?_⟩))
 refine ay (ax (au ?_))
 exact bP (WY, (y32 ++ [sZ.n]), (BF sZ.n true Qb)) ⟨h.cn _, hs⟩
 refine aI (Lg Tryz.results82 (⟨_, rfl, ?_⟩))
 refine ay (ax (au ?_))
 exact bP (v31, y32, Qb) ⟨h.cn _, hs⟩
 rw [gL (hik ▸ e39), gT] at hs
 refine iT (bK (bK (dU (ak (aO (nG (aa (ae (v := (I6 0)) rfl) (nN (aP (fT (σ := Nat × Int × Value × List Int × List (Int × Bool)) (inl ([15, 17] ++ rg 52 22)) (fun ⟨Zi, JY, v68, BM, Bj⟩ => [(15, (I6 JY))]) (fun ⟨Zi, JY, v68, BM, Bj⟩ w => SH w0 M BE w (hset [(1, .sr (oV bJ) va a), (5, .mp b19 (List.map (fun p => (p.1, (fun x => Value.bool x) p.2)) Bj)), (6, .blk b20 [(.map (some b19))]), (7, .blk KT [v68]), (11, .own dA 3 v68 BM)]) ∧ again (mg a) Zi (JY, BM, Bj) = some r) (fun ⟨Zi, JY, v68, BM, Bj⟩ => Zi) ⟨N, 0, v31, y32, Qb⟩ ⟨rfl, trivial⟩ ?_ ?_))))))))))
 exact ⟨h.cn _, hs⟩
 rintro ⟨Zi, JY, v68, BM, Bj⟩ w dz ⟨h, hs⟩
 obtain ⟨m741, m74e, m74h⟩ := og hs
 subst m74e
 replace hs := m74h
 generalize hnx75 : again (mg a) m741 = O7 at hs
 refine aO (nG (aa (ah (v := (I6 JY)) rfl) (aa (aA h 7 rfl rQ rfl rfl) (aa (bT bZ rfl (h.dG 11 rfl)) (aa (dL rfl rfl) (nN (aH hs rfl (fun c78 hs => ?_) (fun c78 hs => ?_))))))))
 refine aI (ak (aO (aP (nG (aa (ah (v := va) rfl) (aa (aA h 7 rfl rQ rfl rfl) (aa (ah (v := (I6 JY)) rfl) ?_)))))))
 obtain ⟨x79, Zj, hs⟩ := aJ hs
 obtain ⟨b82, q83, i81⟩ := h.xL 11 rfl bZ rfl (aG Zj).1 (aG Zj).2
 refine aa (i81 _ _ _ _ _ _ _ _ _ rfl rfl) ?_
 obtain ⟨cs84, m85, r86⟩ := h.zV 11 rfl q83 (aG Zj).2
 obtain rfl := r86
 refine aa (qa (k := 0) m85 aU rfl rfl) ?_
 obtain ⟨x87, Zk, hs⟩ := aJ hs
 obtain ⟨b90, o91, cs92, h, r93, i89⟩ := h.Br 1 16 rfl eB rfl (aG Zk).1 (aG Zk).2
 obtain ⟨u94, rfl, g95⟩ := r93
 replace h := h.bM 17 g95.up
 refine aa (i89 _ _ _ _ _ _ _ _ _ rfl rfl) (aa (eU (k := 0) h 16 rfl lC rfl rfl) (aa (bT bH rfl (h.mM 17 rfl)) (aa (ah (v := (I6 0)) rfl) (nN (aP (fT (σ := Nat × Int × Value × List Int × List (Int × Bool)) (inl ([17] ++ rg 66 8)) (fun ⟨K4, i109, v105, gW, qf⟩ => [(66, (I6 i109))]) (fun ⟨K4, i109, v105, gW, qf⟩ w => SH w0 M BE w (hset [(1, .sr (oV bJ) va a), (5, .mp b19 (List.map (fun p => (p.1, (fun x => Value.bool x) p.2)) qf)), (6, .blk b20 [(.map (some b19))]), (7, .blk KT [v105]), (11, .own dA 3 v105 gW), (17, .rd bJ u94 x87)]) ∧ i109 = (K4 : Int) ∧ each oG (oH JY O7) (x87.drop K4) (gW, qf) = some r) (fun ⟨K4, i109, v105, gW, qf⟩ => x87.length - K4) ⟨0, 0, v68, BM, Bj⟩ ⟨rfl, trivial⟩ ?_ ?_))))))
 exact ⟨h.cn _, rfl, hs⟩
 rintro ⟨K4, i109, v105, gW, qf⟩ w dz ⟨h, hik, hs⟩
 refine nG ?_
 refine aa (dL rfl rfl) (nN ?_)
 refine aO (iw rfl (fun Xr => ?_) (fun Xr => ?_))
 refine aI (ak ?_)
 obtain ⟨vR, e114a, e114b⟩ := gK (hik ▸ Xr)
 rw [e114b, dO] at hs
 generalize hnx112 : each oG (oH JY O7) (x87.drop (K4 + 1)) = LK at hs
 have e114r := gN ((h.mM 17 rfl)).bW hik Xr
 refine bX (σ := Value × List Int × List (Int × Bool)) (inl [17, 68, 69, 70, 71, 72]) (fun ⟨Xt, QU, G5⟩ => []) (fun ⟨Xt, QU, G5⟩ w => SH w0 M BE w (hset [(1, .sr (oV bJ) va a), (5, .mp b19 (List.map (fun p => (p.1, (fun x => Value.bool x) p.2)) G5)), (6, .blk b20 [(.map (some b19))]), (7, .blk KT [Xt]), (11, .own dA 3 Xt QU), (17, .rd bJ u94 x87)]) ∧ u7 LK QU G5 = some r) ?_ ?_
 rintro ⟨Xt, QU, G5⟩ w dz ⟨h, hs⟩
 refine aB (aa (dm rfl rfl e114r) (aa (ah (v := (I6 ((i109 + 1)))) rfl) (ay (au ?_))))
 subst hnx112
 exact jQ ⟨K4 + 1, i109 + 1, Xt, QU, G5⟩ ⟨h.cn _, by omega, hs⟩ (by have := qE Xr; dsimp only; omega)
 refine aP (nG ?_)
 obtain ⟨b119, o120, cs121, h, r122, i118⟩ := h.Fw 17 18 rfl bH rfl (jb hik) (gM hik e114a)
 obtain rfl := r122
 refine aa (i118 _ _ _ _ _ _ _ _ _ rfl rfl) (aa (jm (k := 0) (vs := [(I6 vR.kind), (I6 vR.n)]) h 18 rfl bS rfl rfl rfl (bC rfl)) (bO h 19 bS fun w b123 h => dn (vs := [(I6 vR.kind), (I6 vR.n)]) h 19 [(I6 vR.kind), (I6 vR.n)] rfl bS rfl rfl rfl rfl rfl (ai rfl (ai rfl aT)) fun w h => nN (aB (aa (ah (v := (.func (.func 82) #[] #[(.pointer (some ⟨b20, 0, none⟩)), (.pointer (some ⟨KT, 0, none⟩))])) rfl) (aa (dh (vs := [(I6 vR.kind), (I6 vR.n)]) h 19 rfl bS rfl rfl rfl) (jP (args := [(.agg #[(I6 vR.kind), (I6 vR.n)]), (.pointer (some ⟨b20, 0, none⟩)), (.pointer (some ⟨KT, 0, none⟩))]) V9 rfl rfl (aL (args := [(.agg #[(I6 vR.kind), (I6 vR.n)]), (.pointer (some ⟨b20, 0, none⟩)), (.pointer (some ⟨KT, 0, none⟩))]) Tryz.func82 rfl Tryz.ntmps82 (bC rfl) (nG (oP (cs := [(I6 vR.kind), (I6 vR.n)]) h 20 rfl rfl fun w b124 h => nJ (aa (ag sP rfl) (aa (aA h 20 rfl aU rfl rfl) (aa (bD rfl rfl) (aa (ah (v := (.bool (decide ((vR.kind : Int) = 2)))) rfl) (aC rfl rfl (fun q => aA h 6 rfl GJ rfl rfl) (aC rfl rfl (fun q => ag iq rfl) ?_)))))))))))))))
 refine aC rfl rfl (fun q => aA h 20 rfl aU (dE q) rfl) (aC rfl rfl (fun q => ZY (f := (fun x => Value.bool x)) (zz := false) qf h 5 rfl FL (dE q) (dE q) rfl rfl) (aC rfl rfl (fun q => gQ (dE q)) (aa (gP rfl rfl nQ) (nN (aH hs rfl (fun tu hs => ?_) (fun tu hs => ?_))))))
 refine nG (aa (aA h 6 rfl GJ rfl rfl) (aa (ag iq rfl) (aa (aA h 20 rfl aU rfl rfl) (CB (qz := (List.map (fun p => (p.1, (fun x => Value.bool x) p.2)) (BF vR.n true qf))) h 5 rfl FL rfl rfl rfl (Dz (f := (fun x => Value.bool x)) _) fun w h => nN (aB (aa (aA h 7 rfl rQ rfl rfl) (aa (ag iq rfl) (aa (aA h 20 rfl aU rfl rfl) (sV (R := dA) (vs := [(I6 vR.n)]) (xs := [vR.n]) h 21 iR rfl rfl rfl ⟨rfl, trivial⟩ rfl fun w u126 h => ?_)))))))))
 obtain ⟨a127, hs⟩ := bu hs
 refine lg (R := dA) (m := [vR.n]) h 11 rfl (h.dG 21 rfl) iR rfl rfl rfl a127.1 a127.2 fun w u128 h => eH h 7 [u128] rfl rQ rfl rfl rfl rfl (h.dC 11 rfl).one fun w h => ay (Lg Tryz.results82 (⟨_, rfl, ?_⟩))
 refine ay (ax (au ?_))
 exact bP (u128, (gW ++ [vR.n]), (BF vR.n true qf)) ⟨h.cn _, hs⟩
 refine aI (Lg Tryz.results82 (⟨_, rfl, ?_⟩))
 refine ay (ax (au ?_))
 exact bP (v105, gW, qf) ⟨h.cn _, hs⟩
 rw [gL (hik ▸ Xr), gT] at hs
 refine iT (bK (bK (dU (ax (ak (aB (aa (ah (v := (I6 JY)) rfl) ?_)))))))
 obtain ⟨a129, hs⟩ := bu hs
 refine aa (dm rfl rfl a129) (aa (ae (v := (I6 ((JY + 1)))) rfl) (ay (au ?_)))
 subst hnx75
 exact jQ ⟨m741, (JY + 1), v105, gW, qf⟩ ⟨h.cn _, hs⟩
 refine nE (aa (aA h 7 rfl rQ rfl rfl) (aa (ae (v := v68) rfl) (aa (ae (v := (I6 0)) rfl) (nR (D9 (v1 := v68) (v2 := (I6 0)) Tryz.results48 rfl rfl ?_)))))
 obtain rfl := fI hs
 exact ⟨h.grown, _, rfl, (h.mQ 11 rfl).1, (h.mQ 11 rfl).2⟩
def DN (Jg : List Val → Option (List Val)) (Am : List Val) : Option (List Val) :=
  Jg Am
def DR (mL : List (Int × Int)) (i6 : Int) (x4 : List Val) (Jg : List Val → Option (List Val)) : Option (List Val) :=
  (idx x4 i6).bind fun F3 => bif decide ((F3.kind : Int) = 2) then DN Jg (x4.set (i6).toNat { F3 with n := ((lk F3.n mL).getD (0 : Int)) }) else DN Jg x4
def G6 (x4 : List Val) : Option (List Val) :=
  some x4
def JZ (sx : List Val) (mL : List (Int × Int)) : Option (List Val) :=
  upto (DR mL) G6 0 ((sx.length : Int)).toNat sx
theorem O8 (w0 : World) (M : BS) (hM : ∀ b, M b → b < w0.heap.size) (bq bm : Nat) (sv : Value) (sx : List Val) (hC : Chunk.holds w0 M (Chunk.own' (.own bJ 51 sv sx : Chunk)) (.own bJ 51 sv sx : Chunk)) (hap : ∀ b, Chunk.own' (.own bJ 51 sv sx : Chunk) b → ¬ M b) (mL : List (Int × Int)) (hbm : xK w0 bm (List.map (fun p => (p.1, (fun x => Value.int .i64 x) p.2)) mL)) (nbm : ¬ Chunk.own' (.own bJ 51 sv sx : Chunk) bm) (hbq : ∃ E, w0.heap[bq]? = some (.cells #[(.map (some bm))] E (0, 0))) (nbq : ¬ Chunk.own' (.own bJ 51 sv sx : Chunk) bq) (r : List Val) (hs : JZ sx mL = some r) :
    Calls Tryz.prog 50 #[sv, (.pointer (some ⟨bq, 0, none⟩))] w0 (fun e w' => aD (Chunk.own' (.own bJ 51 sv sx : Chunk)) w0 w' ∧ e = .returned (.tuple #[]) ∧ Chunk.holds w' M (Chunk.own' (.own bJ 51 sv r : Chunk)) (.own bJ 51 sv r : Chunk) ∧ (∀ b, Chunk.own' (.own bJ 51 sv r : Chunk) b → b < w0.heap.size → Chunk.own' (.own bJ 51 sv sx : Chunk) b)) := by
 refine aL (args := [sv, (.pointer (some ⟨bq, 0, none⟩))]) Tryz.func50 rfl Tryz.ntmps50 (bC rfl) ?_
 have h := SH.Ci hM hC hap
 replace h := h.BD 3 (cs := [(.map (some bm))]) hbq nbq ze
 have nbqK := nbq
 have nbmK := nbm
 generalize yB : (.own bJ 51 sv sx : Chunk).own' = K0 at h nbqK nbmK
 refine nG (aa (ah (v := sv) rfl) (aa (bT bH rfl (h.dG 1 rfl)) (aa (ah (v := (I6 0)) rfl) (nN (aP ?_)))))
 have hli6 := (h.dG 1 rfl).bW
 refine fT (σ := Nat × Int × List Val) (inl ([3, 4] ++ rg 7 17)) (fun ⟨k5, i6, x4⟩ => [(7, (I6 i6))]) (fun ⟨k5, i6, x4⟩ w => SH w0 M K0 w (hset [(1, .own bJ 51 sv x4), (2, .no), (3, .pt bq 0 [(.map (some bm))])]) ∧ i6 = (k5 : Int) ∧ upto (DR mL) G6 i6 (((sx.length : Int)).toNat - k5) x4 = some r) (fun ⟨k5, i6, x4⟩ => ((sx.length : Int)).toNat - k5) ⟨0, 0, sx⟩ ⟨rfl, trivial⟩ ?_ ?_
 exact ⟨h.cn _, rfl, hs⟩
 rintro ⟨k5, i6, x4⟩ w dz ⟨h, hik, hs⟩
 refine nG ?_
 refine aa (dL rfl rfl) (nN ?_)
 refine aO (iw rfl (fun e10 => ?_) (fun e10 => ?_))
 refine aI (ak ?_)
 rw [sJ (by have := qE e10; omega)] at hs
 generalize Wt : upto (DR mL) G6 (i6 + 1) (((sx.length : Int)).toNat - (k5 + 1)) = Jg at hs
 have Wu : jI (i6 + 1) := (by have := qE e10; have := hli6; exact jI.mk (by omega) (by omega))
 refine bX (σ := List Val) (inl ([3, 4] ++ rg 9 14)) (fun Am => []) (fun Am w => SH w0 M K0 w (hset [(1, .own bJ 51 sv Am), (2, .no), (3, .pt bq 0 [(.map (some bm))])]) ∧ DN Jg Am = some r) ?_ ?_
 rintro Am w dz ⟨h, hs⟩
 refine aB (aa (dm rfl rfl Wu) (aa (ah (v := (I6 ((i6 + 1)))) rfl) (ay (au ?_))))
 subst Wt
 exact jQ ⟨k5 + 1, i6 + 1, Am⟩ ⟨h.cn _, by omega, hs⟩ (by have := qE e10; dsimp only; omega)
 refine aP (nG (aa (ah (v := (I6 i6)) rfl) ?_))
 obtain ⟨F3, e14, hs⟩ := aJ hs
 obtain ⟨b16, q17, i15⟩ := h.xL 1 rfl bH rfl (aG e14).1 (aG e14).2
 refine aa (i15 _ _ _ _ _ _ _ _ _ rfl rfl) ?_
 obtain ⟨cs18, m19, TF⟩ := h.zV 1 rfl q17 (aG e14).2
 obtain rfl := TF
 refine aa (oZ (k := 0) (vs := [(I6 F3.kind), (I6 F3.n)]) m19 bS rfl rfl rfl (bC rfl)) (bO h 4 bS fun w KT h => aa (ae (v := (I6 i6)) rfl) (dn (vs := [(I6 F3.kind), (I6 F3.n)]) h 4 [(I6 F3.kind), (I6 F3.n)] rfl bS rfl rfl rfl rfl rfl (ai rfl (ai rfl aT)) fun w h => nJ (aa (ag sP rfl) (aa (aA h 4 rfl aU rfl rfl) (aa (bD rfl rfl) (nN (aH hs rfl (fun c22 hs => ?_) (fun c22 hs => ?_))))))))
 refine aB (aa (ah (v := sv) rfl) (aa (ah (v := (I6 i6)) rfl) (aa (eU (k := 0) h 3 rfl Sk rfl rfl) (aa (ag iq rfl) (aa (aA h 4 rfl aU rfl rfl) (aa (r_lk1M (f := (fun x => Value.int .i64 x)) (zz := (0 : Int)) mL ((hbm).keep h.keep nbmK) Sj rfl rfl rfl) ?_))))))
 obtain ⟨b24, q25, i23⟩ := h.xL 1 rfl bH rfl (aG e14).1 (aG e14).2
 refine aa (i23 _ _ _ _ _ _ _ _ _ rfl rfl) (aa (ag iq rfl) (Li (a' := { F3 with n := ((lk F3.n mL).getD (0 : Int)) }) h 1 rfl q25 rfl (aG e14).2 aU rfl rfl rfl rfl (by rintro _ rfl; rfl) fun w h => ay (ax (au ?_))))
 exact bP (x4.set (i6).toNat { F3 with n := ((lk F3.n mL).getD (0 : Int)) }) ⟨h.cn _, hs⟩
 refine aI (ax (au ?_))
 exact bP x4 ⟨h.cn _, hs⟩
 rw [sK (by have := of_decide_eq_false e10; omega)] at hs
 refine iT (bK (bK (dU (Lg Tryz.results50 ?_))))
 obtain rfl := fI hs
 subst yB
 obtain ⟨o1, o2, o3⟩ := h.o8 1 (C := (.own bJ 51 sv x4 : Chunk)) rfl trivial
 exact ⟨o2, rfl, o1, o3⟩
def xk (Bp : List (Int × Int)) (i127 : Int) (G7 : List (List Val)) (nx130 : List (List Val) → Option LX.State) : Option LX.State :=
  (idx G7 i127).bind fun Ex => (JZ Ex Bp).bind fun Xu => nx130 (G7.set (i127).toNat Xu)
def xW (IK : List LX.Frame) (vK : LX.State) (G7 : List (List Val)) : Option LX.State :=
  some (⟨IK, G7, vK.status, vK.aQ⟩ : LX.State)
def vk (Bp : List (Int × Int)) (i99 : Int) (IK : List LX.Frame) (nx102 : List LX.Frame → Option LX.State) : Option LX.State :=
  (idx IK i99).bind fun x105 => (JZ x105.regs Bp).bind fun G5 => nx102 (IK.set (i99).toNat ({ x105 with regs := G5 }))
def xX (Bp : List (Int × Int)) (vK : LX.State) (qO : List (List Val)) (IK : List LX.Frame) : Option LX.State :=
  upto (xk Bp) (xW IK vK) 0 ((qO.length : Int)).toNat qO
def pW (vK : LX.State) (i67 : Int) (Xv : Int) (s : List (List Val) × List Int × List (Int × Int)) (nx70 : List (List Val) × List Int × List (Int × Int) → Option LX.State) : Option LX.State :=
  match s with | (qO, K6, Bp) => (idx vK.cells Xv).bind fun x78 => gJ (Xv ∉ K6) (gJ (Room 24 qO [x78]) (nx70 ((qO ++ [x78]), (K6 ++ [Xv]), (BF Xv i67 Bp))))
def rF (vK : LX.State) (s : List (List Val) × List Int × List (Int × Int)) : Option LX.State :=
  match s with | (qO, K6, Bp) => upto (vk Bp) (xX Bp vK qO) 0 ((vK.frames.length : Int)).toNat vK.frames
def rG (F3 : LX.Frame) (Cr : List Val) (nx15 : List Val → Option LX.State) : Option LX.State :=
  gJ (Room 16 Cr F3.regs) (nx15 (Cr ++ F3.regs))
def xY (N : Nat) (a : LX.State) (Cr : List Val) : Option LX.State :=
  (BX N a.cells Cr).bind fun y28 => bif decide ((y28.2 : Int) ≠ 0) then none else (DL a).bind fun vK => fq (pW vK) (rF vK) 0 y28.1 ([], ([] : List Int), ([] : List (Int × Int)))
def sD (N : Nat) (a : LX.State) : Option LX.State :=
  each rG (xY N a) a.frames []
theorem vS (N : Nat) (w0 : World) (M : BS) (hM : ∀ b, M b → b < w0.heap.size) (a : LX.State) (Fp FX : Value) (ha0 : fP eu w0 BE M Fp a.frames) (ha1 : fP (oV bJ) w0 BE M FX a.cells) (r : LX.State) (hs : sD N a = some r) :
    Calls Tryz.prog 20 #[(.agg #[Fp, FX, (I6 a.status), (I6 a.aQ)])] w0 (fun e w' => Grow w0 w' ∧ ∃ yD, ∃ Cs, ∃ FW, ∃ QT, e = .returned (.agg #[yD, Cs, .int .i64 r.status, .int .i64 r.aQ]) ∧ Chunk.holds w' M (Chunk.own' ((cU yD Cs r.frames FW r.cells QT) : Chunk)) ((cU yD Cs r.frames FW r.cells QT) : Chunk) ∧ (∀ b, Chunk.own' ((cU yD Cs r.frames FW r.cells QT) : Chunk) b → w0.heap.size ≤ b)) := by
 refine aL (args := [(.agg #[Fp, FX, (I6 a.status), (I6 a.aQ)])]) Tryz.func20 rfl Tryz.ntmps20 (bC rfl) ?_
 have h := SH.init hM
 replace h := h.fG 1 ha0 bE
 replace h := h.fG 2 ha1 (cO bE)
 refine nG (oP (cs := [Fp, FX, (I6 a.status), (I6 a.aQ)]) h 3 rfl rfl fun w b1 h => bO h 4 bV fun w b2 h => nJ (aa (ae (v := (.slice none 0 0)) rfl) (nK (aa (ag ed rfl) (aa (aA h 3 rfl iU rfl rfl) (aa (bT df rfl (h.iM 1 rfl)) (aa (ah (v := (I6 0)) rfl) (nN (aP ?_)))))))))
 replace h := h.zb (R := bJ) (E := 51) 8
 refine fT (σ := Nat × Int × Value × List Val) (inl ([3, 5] ++ rg 20 9)) (fun ⟨k11, i12, v9, Cr⟩ => [(3, v9), (20, (I6 i12))]) (fun ⟨k11, i12, v9, Cr⟩ w => SH w0 M BE w (hset [(1, .sr eu Fp a.frames), (2, .sr (oV bJ) FX a.cells), (3, .blk b1 [Fp, FX, (I6 a.status), (I6 a.aQ)]), (4, .blk b2 [(.slice none 0 0), (.slice none 0 0), (I6 0), (I6 0)]), (8, .own bJ 51 v9 Cr)]) ∧ i12 = (k11 : Int) ∧ each rG (xY N a) (a.frames.drop k11) Cr = some r) (fun ⟨k11, i12, v9, Cr⟩ => a.frames.length - k11) ⟨0, 0, (.slice none 0 0), []⟩ ⟨rfl, rfl, trivial⟩ ?_ ?_
 exact ⟨h.cn _, rfl, hs⟩
 rintro ⟨k11, i12, v9, Cr⟩ w dz ⟨h, hik, hs⟩
 refine nG ?_
 refine aa (dL rfl rfl) (nN ?_)
 refine aO (iw rfl (fun e16 => ?_) (fun e16 => ?_))
 refine aI (ak ?_)
 obtain ⟨F3, e17a, e17b⟩ := gK (hik ▸ e16)
 rw [e17b, dO] at hs
 generalize hnx15 : each rG (xY N a) (a.frames.drop (k11 + 1)) = nx15 at hs
 have e17r := gN ((h.iM 1 rfl)).bW hik e16
 refine aO (aP (nG ?_))
 obtain ⟨b19, o20, cs21, h, r22, i18⟩ := h.Br 1 9 rfl df rfl (jb hik) (gM hik e17a)
 obtain ⟨u23, rfl, g24⟩ := wM r22
 replace h := h.bM 10 g24.up
 refine aa (i18 _ _ _ _ _ _ _ _ _ rfl rfl) (aa (jm (k := 0) (vs := [(I6 F3.proc), (I6 F3.at_), u23, (I6 F3.kP)]) h 9 rfl iA rfl rfl rfl (bC rfl)) (bO h 11 iA fun w b25 h => dn (vs := [(I6 F3.proc), (I6 F3.at_), u23, (I6 F3.kP)]) h 11 [(I6 F3.proc), (I6 F3.at_), u23, (I6 F3.kP)] rfl iA rfl rfl rfl rfl rfl (ai rfl (ai rfl (ai (h.fM 10 rfl).one (ai rfl aT)))) fun w h => nN (aB (aa (ah (v := v9) rfl) (aa (ag kT rfl) (aa (aA h 11 rfl lC rfl rfl) ?_))))))
 obtain ⟨a26, hs⟩ := bu hs
 refine lg (R := bJ) (m := F3.regs) h 8 rfl (h.mM 10 rfl) rZ rfl rfl rfl a26.1 a26.2 fun w u27 h => aa (ae (v := u27) rfl) (ay (ax (ak (aB (aa (dm rfl rfl e17r) (aa (ah (v := (I6 ((i12 + 1)))) rfl) (ay (au ?_))))))))
 subst hnx15
 exact jQ ⟨k11 + 1, i12 + 1, u27, (Cr ++ F3.regs)⟩ ⟨h.cn _, by omega, hs⟩ (by have := qE e16; dsimp only; omega)
 rw [gL (hik ▸ e16), gT] at hs
 refine nE (aa (ag il rfl) (aa (aA h 3 rfl kr rfl rfl) (aa (ah (v := v9) rfl) ?_)))
 obtain ⟨y28, e29, hs⟩ := aJ hs
 refine aR fnOk48 rfl rfl (NI N _ _ h.lt FX a.cells (h.iM 2 rfl) v9 Cr (h.dG 8 rfl) _ e29) ?_
 rintro _ w ⟨Vj, u30, rfl, g31, g32⟩
 refine ⟨_, rfl, ?_⟩
 replace h := h.kG 12 Vj g31 g32
 refine aa (ah (v := (.tuple #[u30, (I6 y28.2)])) rfl) (aa (aY rfl rfl) (aa (aY rfl rfl) (aa (ae (v := u30) rfl) (aa (ae (v := (I6 y28.2)) rfl) (nK (aa (ah (v := (I6 y28.2)) rfl) (aa (iP rfl rfl) (nN (aH hs rfl (fun c34 hs => ?_) (fun c34 hs => ?_))))))))))
 refine nG (aa (dh (vs := [Fp, FX, (I6 a.status), (I6 a.aQ)]) h 3 rfl bV rfl rfl rfl) (dn (vs := [Fp, FX, (I6 a.status), (I6 a.aQ)]) h 4 [Fp, FX, (I6 a.status), (I6 a.aQ)] rfl bV rfl rfl rfl rfl rfl (ai (h.Ta 1 rfl).one (ai (h.Ta 2 rfl).one (ai rfl (ai rfl aT)))) fun w h => nR (az ?_)))
 cases hs
 refine nS (aa (dh (vs := [Fp, FX, (I6 a.status), (I6 a.aQ)]) h 3 rfl bV rfl rfl rfl) ?_)
 obtain ⟨vK, e36, hs⟩ := aJ hs
 refine aR Qn rfl rfl (GZ _ _ h.lt a Fp FX (h.iM 1 rfl) (h.iM 2 rfl) _ e36) ?_
 rintro _ w ⟨k43, u37, QV, NJ, QW, rfl, h41, h42⟩
 refine ⟨_, rfl, ?_⟩
 replace h := h.JA 13 (C := (cU u37 QV vK.frames NJ vK.cells QW)) k43 ⟨⟨⟨trivial, trivial⟩, trivial⟩, trivial⟩ h41 h42
 replace h := h.bN 13 16 (by decide) rfl rfl
 replace h := h.bN 13 15 (by decide) rfl rfl
 replace h := h.bN 13 14 (by decide) rfl rfl
 refine dn (vs := [u37, QV, (I6 vK.status), (I6 vK.aQ)]) h 3 [u37, QV, (I6 vK.status), (I6 vK.aQ)] rfl bV rfl rfl rfl rfl rfl (ai (h.dC 13 rfl).one (ai (h.dC 15 rfl).one (ai rfl (ai rfl aT)))) fun w h => nJ (Dv h 17 fun w Ua h => qF h 18 Sk fun w Yu h => eH h 18 [(.map (some Ua))] rfl Sk rfl rfl rfl rfl rfl fun w h => nJ (aa (ae (v := (.slice none 0 0)) rfl) (nK (aa (ah (v := u30) rfl) (aa (bT bZ rfl (h.dG 12 rfl)) (aa (ah (v := (I6 0)) rfl) (nN (aP ?_))))))))
 replace h := h.freeze 12 rfl
 replace h := h.famMv0 16 rfl
 replace h := h.zb (R := (eT Val).raw) (E := 47) 25
 replace h := h.famNil (R := bJ) (Es := 51) 26
 refine fT (σ := Nat × Int × Value × List Value × List (List Val) × List Int × List (Int × Int)) (inl ([9, 10, 11] ++ rg 44 17)) (fun ⟨k66, i67, v61, Ja, qO, K6, Bp⟩ => [(9, v61), (44, (I6 i67))]) (fun ⟨k66, i67, v61, Ja, qO, K6, Bp⟩ w => SH w0 M BE w (hset [(3, .blk b1 [u37, QV, (I6 vK.status), (I6 vK.aQ)]), (4, .blk b2 [(.slice none 0 0), (.slice none 0 0), (I6 0), (I6 0)]), (12, .rd dA u30 y28.1), (13, .own bU.raw 49 u37 (List.zip vK.frames NJ)), (14, .ib (dB bJ 51 hn NJ (List.map bU.sub vK.frames))), (15, .own (eT Val).raw 47 QV (List.zip vK.cells QW)), (16, .ib (dB bJ 51 (hmv K6) QW (List.map (eT Val).sub vK.cells))), (17, .mp Ua (List.map (fun p => (p.1, (fun x => Value.int .i64 x) p.2)) Bp)), (18, .blk Yu [(.map (some Ua))]), (25, .own (eT Val).raw 47 v61 (List.zip qO Ja)), (26, .ib (dB bJ 51 hn Ja (List.map (eT Val).sub qO)))]) ∧ i67 = (k66 : Int) ∧ fq (pW vK) (rF vK) i67 (y28.1.drop k66) (qO, K6, Bp) = some r) (fun ⟨k66, i67, v61, Ja, qO, K6, Bp⟩ => y28.1.length - k66) ⟨0, 0, (.slice none 0 0), ([] : List Value), [], ([] : List Int), ([] : List (Int × Int))⟩ ⟨rfl, rfl, trivial⟩ ?_ ?_
 exact ⟨h.cn _, rfl, hs⟩
 rintro ⟨k66, i67, v61, Ja, qO, K6, Bp⟩ w dz ⟨h, hik, hs⟩
 refine nG ?_
 refine aa (dL rfl rfl) (nN ?_)
 refine aO (iw rfl (fun Zb => ?_) (fun Zb => ?_))
 refine aI (ak ?_)
 obtain ⟨Xv, e72a, e72b⟩ := gK (hik ▸ Zb)
 rw [e72b, ja] at hs
 generalize hnx70 : fq (pW vK) (rF vK) (i67 + 1) (y28.1.drop (k66 + 1)) = nx70 at hs
 have e72r := gN ((h.mM 12 rfl)).bW hik Zb
 refine aO (aP (nG (aa (ah (v := (I6 i67)) rfl) ?_)))
 obtain ⟨b74, o75, cs76, h, r77, i73⟩ := h.Fw 12 27 rfl bZ rfl (jb hik) (gM hik e72a)
 obtain rfl := r77
 refine aa (i73 _ _ _ _ _ _ _ _ _ rfl rfl) (aa (eU (k := 0) h 27 rfl aU rfl rfl) (aa (ae (v := (I6 i67)) rfl) (aa (ae (v := (I6 Xv)) rfl) (nJ (aa (aA h 18 rfl Sk rfl rfl) (aa (ah (v := (I6 Xv)) rfl) (aa (ah (v := (I6 i67)) rfl) (CB (qz := (List.map (fun p => (p.1, (fun x => Value.int .i64 x) p.2)) (BF Xv i67 Bp))) h 17 rfl Sj rfl rfl rfl (Dz (f := (fun x => Value.int .i64 x)) _) fun w h => nN (aB (aa (ah (v := v61) rfl) (aa (ag il rfl) (aa (aA h 3 rfl kr rfl rfl) (aa (ah (v := (I6 Xv)) rfl) ?_)))))))))))))
 obtain ⟨x78, e79, hs⟩ := aJ hs
 obtain ⟨a83, hs⟩ := bu hs
 obtain ⟨u84, e85, h⟩ := h.YN 16 28 x78 rfl rfl (by decide) (aG e79).1 (aG e79).2 a83 rfl
 obtain ⟨b81, q82, i80⟩ := h.xL 15 rfl eB rfl (aG e79).1 (fw (aG e79).2 e85)
 refine aa (i80 _ _ _ _ _ _ _ _ _ rfl rfl) ?_
 obtain ⟨cs86, m87, r88⟩ := h.zV 15 rfl q82 (fw (aG e79).2 e85)
 obtain ⟨rfl, -⟩ := r88
 refine aa (qa (k := 0) m87 lC rfl rfl) ?_
 have u89o : (Value.oneCell' u84) = true := (h.dC 28 rfl).one
 refine sV (R := (eT Val).raw) (vs := [u84]) (xs := List.zip [x78] [u84]) h 29 jS rfl rfl rfl ⟨⟨iW u89o, u89o⟩, trivial⟩ rfl fun w u89 h => ?_
 replace h := h.zl (N := (eT Val)) 28 x78 rfl rfl
 obtain ⟨a90, hs⟩ := bu hs
 have z92 := h.gX 26 rfl
 have z92b := h.gX 28 rfl
 refine lg (R := (eT Val).raw) (m := List.zip [x78] [u84]) h 25 rfl (h.dG 29 rfl) jS rfl rfl rfl (by rw [dZ z92, dZ z92b]; exact a90.1) (by rw [dZ z92, dZ z92b]; exact a90.2) fun w u91 h => ?_
 replace h := (h.zi 26 28 rfl rfl (by decide)).fH 29
 rw [zk z92, ← List.map_append] at h
 obtain ⟨us93, us93e⟩ : ∃ z, z = Ja ++ [u84] := ⟨_, rfl⟩
 rw [← us93e] at h
 refine aa (ae (v := u91) rfl) (ay (ax (ak (aB (aa (dm rfl rfl e72r) (aa (ah (v := (I6 ((i67 + 1)))) rfl) (ay (au ?_))))))))
 subst hnx70
 exact jQ ⟨k66 + 1, i67 + 1, u91, us93, (qO ++ [x78]), (K6 ++ [Xv]), (BF Xv i67 Bp)⟩ ⟨h.cn _, by omega, hs⟩ (by have := qE Zb; dsimp only; omega)
 rw [gL (hik ▸ Zb), nZ] at hs
 refine nE (aa (sU (c1 := []) (c2 := [(.pointer (some ⟨Yu, 0, none⟩))]) rfl rfl) (aa (ae (v := (.func (.func 50) #[] #[(.pointer (some ⟨Yu, 0, none⟩))])) rfl) (nK (aa (ag ed rfl) (aa (aA h 3 rfl iU rfl rfl) (aa (oo (N := bU) df rfl (h.dG 13 rfl) (h.gX 14 rfl)) (aa (ah (v := (I6 0)) rfl) (nN (aP ?_)))))))))
 have hli99 := JB (h.dG 13 rfl) (h.gX 14 rfl)
 refine fT (σ := Nat × Int × List LX.Frame) (inl ([14] ++ rg 65 9)) (fun ⟨k98, i99, IK⟩ => [(65, (I6 i99))]) (fun ⟨k98, i99, IK⟩ w => SH w0 M BE w (hset [(3, .blk b1 [u37, QV, (I6 vK.status), (I6 vK.aQ)]), (4, .blk b2 [(.slice none 0 0), (.slice none 0 0), (I6 0), (I6 0)]), (13, .own bU.raw 49 u37 (List.zip IK NJ)), (14, .ib (dB bJ 51 hn NJ (List.map bU.sub IK))), (15, .own (eT Val).raw 47 QV (List.zip vK.cells QW)), (16, .ib (dB bJ 51 (hmv K6) QW (List.map (eT Val).sub vK.cells))), (17, .mp Ua (List.map (fun p => (p.1, (fun x => Value.int .i64 x) p.2)) Bp)), (18, .blk Yu [(.map (some Ua))]), (25, .own (eT Val).raw 47 v61 (List.zip qO Ja)), (26, .ib (dB bJ 51 hn Ja (List.map (eT Val).sub qO)))]) ∧ i99 = (k98 : Int) ∧ upto (vk Bp) (xX Bp vK qO) i99 (((vK.frames.length : Int)).toNat - k98) IK = some r) (fun ⟨k98, i99, IK⟩ => ((vK.frames.length : Int)).toNat - k98) ⟨0, 0, vK.frames⟩ ⟨rfl, trivial⟩ ?_ ?_
 exact ⟨h.cn _, rfl, hs⟩
 rintro ⟨k98, i99, IK⟩ w dz ⟨h, hik, hs⟩
 refine nG ?_
 refine aa (dL rfl rfl) (nN ?_)
 refine aO (iw rfl (fun Xw => ?_) (fun Xw => ?_))
 refine aI (ak ?_)
 rw [sJ (by have := qE Xw; omega)] at hs
 generalize hnx102 : upto (vk Bp) (xX Bp vK qO) (i99 + 1) (((vK.frames.length : Int)).toNat - (k98 + 1)) = nx102 at hs
 have e104r : jI (i99 + 1) := (by have := qE Xw; have := hli99; exact jI.mk (by omega) (by omega))
 refine aO (aP (nG ?_))
 obtain ⟨x105, Xx, hs⟩ := aJ hs
 obtain ⟨Ec, e111, h⟩ := h.qA 14 30 x105.regs rfl rfl (by decide) (aG Xx).2 rfl
 obtain ⟨b108, q109, i107⟩ := h.xL 13 rfl df rfl (aG Xx).1 (fw (aG Xx).2 e111)
 refine aa (i107 _ _ _ _ _ _ _ _ _ rfl rfl) ?_
 obtain ⟨cs112, m113, r114⟩ := h.zV 13 rfl q109 (fw (aG Xx).2 e111)
 obtain ⟨rfl, -⟩ := r114
 refine aa (oZ (k := 0) (vs := [(I6 x105.proc), (I6 x105.at_), Ec, (I6 x105.kP)]) m113 iA rfl rfl rfl (bC rfl)) (bO h 31 iA fun w b115 h => dn (vs := [(I6 x105.proc), (I6 x105.at_), Ec, (I6 x105.kP)]) h 31 [(I6 x105.proc), (I6 x105.at_), Ec, (I6 x105.kP)] rfl iA rfl rfl rfl rfl rfl (ai rfl (ai rfl (ai (h.dC 30 rfl).one (ai rfl aT)))) fun w h => nN (aB (aa (ah (v := (.func (.func 50) #[] #[(.pointer (some ⟨Yu, 0, none⟩))])) rfl) (aa (ag kT rfl) (aa (aA h 31 rfl lC rfl rfl) ?_)))))
 obtain ⟨l116a, l116b, l116c⟩ := h.kC 30 (C := (.own bJ 51 Ec x105.regs : Chunk)) rfl trivial
 obtain ⟨G5, e118, hs⟩ := aJ hs
 refine aR V6 rfl rfl (O8 _ _ l116c Yu Ua Ec x105.regs l116a l116b Bp (h.Qd 17 rfl) (fun hb => h.apart 30 17 (by decide) _ hb rfl) (h.rP 18 rfl) (fun hb => h.apart 30 18 (by decide) _ hb rfl) _ e118) ?_
 rintro _ w ⟨k119, rfl, h120, h121⟩
 refine ⟨_, rfl, ?_⟩
 replace h := h.back 30 (C := (.own bJ 51 Ec x105.regs : Chunk)) (C' := (.own bJ 51 Ec G5 : Chunk)) rfl trivial h120 k119 h121
 refine ay (ax (ak (aB (aa (dm rfl rfl e104r) (aa (ah (v := (I6 ((i99 + 1)))) rfl) (ay ?_))))))
 replace h := h.sM 13 14 30 ({ x105 with regs := G5 }) rfl rfl rfl (by decide) (by decide) (by decide) (aG Xx).2 e111 rfl
 refine au ?_
 subst hnx102
 exact jQ ⟨k98 + 1, i99 + 1, (IK.set (i99).toNat ({ x105 with regs := G5 }))⟩ ⟨h.cn _, by omega, hs⟩ (by have := qE Xw; dsimp only; omega)
 rw [sK (by have := of_decide_eq_false Xw; omega)] at hs
 refine iT (bK (bK (dU (ak (aO (nG (aa (ah (v := v61) rfl) (aa (oo (N := (eT Val)) eB rfl (h.dG 25 rfl) (h.gX 26 rfl)) (aa (ah (v := (I6 0)) rfl) (nN (aP ?_)))))))))))
 have hli127 := JB (h.dG 25 rfl) (h.gX 26 rfl)
 refine fT (σ := Nat × Int × List (List Val)) (inl ([16] ++ rg 76 8)) (fun ⟨O9, i127, G7⟩ => [(76, (I6 i127))]) (fun ⟨O9, i127, G7⟩ w => SH w0 M BE w (hset [(3, .blk b1 [u37, QV, (I6 vK.status), (I6 vK.aQ)]), (4, .blk b2 [(.slice none 0 0), (.slice none 0 0), (I6 0), (I6 0)]), (13, .own bU.raw 49 u37 (List.zip IK NJ)), (14, .ib (dB bJ 51 hn NJ (List.map bU.sub IK))), (15, .own (eT Val).raw 47 QV (List.zip vK.cells QW)), (16, .ib (dB bJ 51 (hmv K6) QW (List.map (eT Val).sub vK.cells))), (17, .mp Ua (List.map (fun p => (p.1, (fun x => Value.int .i64 x) p.2)) Bp)), (18, .blk Yu [(.map (some Ua))]), (25, .own (eT Val).raw 47 v61 (List.zip G7 Ja)), (26, .ib (dB bJ 51 hn Ja (List.map (eT Val).sub G7)))]) ∧ i127 = (O9 : Int) ∧ upto (xk Bp) (xW IK vK) i127 (((qO.length : Int)).toNat - O9) G7 = some r) (fun ⟨O9, i127, G7⟩ => ((qO.length : Int)).toNat - O9) ⟨0, 0, qO⟩ ⟨rfl, trivial⟩ ?_ ?_
 exact ⟨h.cn _, rfl, hs⟩
 rintro ⟨O9, i127, G7⟩ w dz ⟨h, hik, hs⟩
 refine nG ?_
 refine aa (dL rfl rfl) (nN ?_)
 refine aO (iw rfl (fun Xy => ?_) (fun Xy => ?_))
 refine aI (ak ?_)
 rw [sJ (by have := qE Xy; omega)] at hs
 generalize hnx130 : upto (xk Bp) (xW IK vK) (i127 + 1) (((qO.length : Int)).toNat - (O9 + 1)) = nx130 at hs
 have e132r : jI (i127 + 1) := (by have := qE Xy; have := hli127; exact jI.mk (by omega) (by omega))
 refine aO (aP (nG ?_))
 obtain ⟨Ex, Xz, hs⟩ := aJ hs
 obtain ⟨u138, TW, h⟩ := h.qA 26 32 Ex rfl rfl (by decide) (aG Xz).2 rfl
 obtain ⟨b136, q137, i135⟩ := h.xL 25 rfl eB rfl (aG Xz).1 (fw (aG Xz).2 TW)
 refine aa (i135 _ _ _ _ _ _ _ _ _ rfl rfl) ?_
 obtain ⟨cs140, m141, r142⟩ := h.zV 25 rfl q137 (fw (aG Xz).2 TW)
 obtain ⟨rfl, -⟩ := r142
 refine aa (qa (k := 0) m141 lC rfl rfl) (aa (ae (v := u138) rfl) (nN (aB (aa (ah (v := (.func (.func 50) #[] #[(.pointer (some ⟨Yu, 0, none⟩))])) rfl) (aa (ah (v := u138) rfl) ?_)))))
 obtain ⟨l143a, l143b, l143c⟩ := h.kC 32 (C := (.own bJ 51 u138 Ex : Chunk)) rfl trivial
 obtain ⟨Xu, e145, hs⟩ := aJ hs
 refine aR V6 rfl rfl (O8 _ _ l143c Yu Ua u138 Ex l143a l143b Bp (h.Qd 17 rfl) (fun hb => h.apart 32 17 (by decide) _ hb rfl) (h.rP 18 rfl) (fun hb => h.apart 32 18 (by decide) _ hb rfl) _ e145) ?_
 rintro _ w ⟨k146, rfl, h147, h148⟩
 refine ⟨_, rfl, ?_⟩
 replace h := h.back 32 (C := (.own bJ 51 u138 Ex : Chunk)) (C' := (.own bJ 51 u138 Xu : Chunk)) rfl trivial h147 k146 h148
 refine ay (ax (ak (aB (aa (dm rfl rfl e132r) (aa (ah (v := (I6 ((i127 + 1)))) rfl) (ay ?_))))))
 replace h := h.sM 25 26 32 Xu rfl rfl rfl (by decide) (by decide) (by decide) (aG Xz).2 TW rfl
 refine au ?_
 subst hnx130
 exact jQ ⟨O9 + 1, i127 + 1, (G7.set (i127).toNat Xu)⟩ ⟨h.cn _, by omega, hs⟩ (by have := qE Xy; dsimp only; omega)
 rw [sK (by have := of_decide_eq_false Xy; omega)] at hs
 refine nE (aa (ah (v := v61) rfl) (aa (ag il rfl) (eH h 3 [u37, v61, (I6 vK.status), (I6 vK.aQ)] rfl kr rfl rfl rfl rfl (h.dC 25 rfl).one fun w h => nJ (aa (dh (vs := [u37, v61, (I6 vK.status), (I6 vK.aQ)]) h 3 rfl bV rfl rfl rfl) (dn (vs := [u37, v61, (I6 vK.status), (I6 vK.aQ)]) h 4 [u37, v61, (I6 vK.status), (I6 vK.aQ)] rfl bV rfl rfl rfl rfl rfl (ai (h.dC 13 rfl).one (ai (h.dC 25 rfl).one (ai rfl (ai rfl aT)))) fun w h => nR (Z5 (vs := [u37, v61, (I6 vK.status), (I6 vK.aQ)]) Tryz.results20 rfl h 4 rfl bV rfl ?_))))))
 replace h := h.pair 13 14 (by decide)
 replace h := h.pair 13 25 (by decide)
 replace h := h.pair 13 26 (by decide)
 obtain rfl := fI hs
 obtain ⟨o1, o2, o3⟩ := h.o8 13 (C := (cU u37 v61 IK NJ G7 Ja)) rfl ⟨⟨⟨trivial, trivial⟩, trivial⟩, trivial⟩
 exact ⟨o2, u37, v61, NJ, Ja, rfl, o1, M7 o3⟩
def qX (a : Ins) (y4 : List LX.Frame) (y7 : List (List Val)) (y8 : Int) (y9 : Int) : Option (Bool × LX.State) :=
  bif decide (((y7.length : Int) : Int) = 24) then some (false, (⟨y4, y7, y8, y9⟩ : LX.State)) else gJ (jI ((y4.length : Int) - 1)) ((idx y4 ((y4.length : Int) - 1)).bind fun Am => (idx Am.regs a.a).bind fun x22 => gJ (0 ≤ a.b ∧ a.b * 16 ≤ 140737488355328) (gJ (Room 24 y7 [(List.replicate a.b.toNat (⟨0, 0⟩ : Val))]) (some (true, (⟨(y4.set (((y4.length : Int) - 1)).toNat ({ Am with regs := (Am.regs.set (a.a).toNat (⟨2, (y7.length : Int)⟩ : Val)) })), (y7 ++ [(List.replicate a.b.toNat (⟨0, 0⟩ : Val))]), y8, y9⟩ : LX.State)))))
def J2 (N : Nat) (sx : LX.State) (a : Ins) : Option (Bool × LX.State) :=
  bif decide (((sx.cells.length : Int) : Int) = 24) then (sD N sx).bind fun y39 => qX a y39.frames y39.cells y39.status y39.aQ else qX a sx.frames sx.cells sx.status sx.aQ
theorem J3 (N : Nat) (w0 : World) (M : BS) (hM : ∀ b, M b → b < w0.heap.size) (sb : Nat) (sx : LX.State) (gV vs1 : Value) (j6 jJ : List Value) (hC : Chunk.holds w0 M (Chunk.own' (cT sb gV vs1 (sx.status) (sx.aQ) sx.frames j6 sx.cells jJ)) (cT sb gV vs1 (sx.status) (sx.aQ) sx.frames j6 sx.cells jJ)) (hap : ∀ b, Chunk.own' (cT sb gV vs1 (sx.status) (sx.aQ) sx.frames j6 sx.cells jJ) b → ¬ M b) (a : Ins) (EF : Value) (ha4 : eX dA w0 (fun b => M b ∨ (cT sb gV vs1 (sx.status) (sx.aQ) sx.frames j6 sx.cells jJ).own' b) EF a.args) (r : Bool × LX.State) (hs : J2 N sx a = some r) :
    Calls Tryz.prog 89 #[(.pointer (some ⟨sb, 0, none⟩)), (.agg #[(I6 a.op), (I6 a.a), (I6 a.b), (I6 a.c), EF])] w0 (fun e w' => aD (Chunk.own' (cT sb gV vs1 (sx.status) (sx.aQ) sx.frames j6 sx.cells jJ)) w0 w' ∧ ∃ zM, ∃ NF, ∃ NG, ∃ NH, e = .returned (.bool r.1) ∧ Chunk.holds w' M (Chunk.own' (cT sb zM NF r.2.status r.2.aQ r.2.frames NG r.2.cells NH)) (cT sb zM NF r.2.status r.2.aQ r.2.frames NG r.2.cells NH) ∧ (∀ b, Chunk.own' (cT sb zM NF r.2.status r.2.aQ r.2.frames NG r.2.cells NH) b → b < w0.heap.size → Chunk.own' (cT sb gV vs1 (sx.status) (sx.aQ) sx.frames j6 sx.cells jJ) b)) := by
 refine aL (args := [(.pointer (some ⟨sb, 0, none⟩)), (.agg #[(I6 a.op), (I6 a.a), (I6 a.b), (I6 a.c), EF])]) Tryz.func89 rfl Tryz.ntmps89 (bC rfl) ?_
 have h := SH.Ci hM hC hap
 replace h := h.yw 6 ha4 ze
 generalize yB : (cT sb gV vs1 (sx.status) (sx.aQ) sx.frames j6 sx.cells jJ).own' = K0 at h
 replace h := h.bN 1 5 (by decide) rfl rfl
 replace h := h.bN 1 4 (by decide) rfl rfl
 replace h := h.bN 1 3 (by decide) rfl rfl
 replace h := h.bN 1 2 (by decide) rfl rfl
 refine nG (oP (cs := [(I6 a.op), (I6 a.a), (I6 a.b), (I6 a.c), EF]) h 7 rfl rfl fun w b1 h => aa (ae (v := (.bool (false))) rfl) (nN (bX (σ := Value × List Value × List LX.Frame × Value × List Value × List (List Val) × Int × Int) (inl (rg 5 12)) (fun ⟨v2, Vl, y4, v5, N9, y7, y8, y9⟩ => []) (fun ⟨v2, Vl, y4, v5, N9, y7, y8, y9⟩ w => SH w0 M K0 w (hset [(1, .blk sb [v2, v5, (I6 y8), (I6 y9)]), (6, .rd dA EF a.args), (7, .blk b1 [(I6 a.op), (I6 a.a), (I6 a.b), (I6 a.c), EF]), (8, .own bU.raw 49 v2 (List.zip y4 Vl)), (9, .ib (dB bJ 51 hn Vl (List.map bU.sub y4))), (10, .own (eT Val).raw 47 v5 (List.zip y7 N9)), (11, .ib (dB bJ 51 hn N9 (List.map (eT Val).sub y7)))]) ∧ qX a y4 y7 y8 y9 = some r) ?_ ?_)))
 rintro ⟨v2, Vl, y4, v5, N9, y7, y8, y9⟩ w dz ⟨h, hs⟩
 refine aO (nG (aa (ah (v := (.pointer (some ⟨sb, 0, none⟩))) rfl) (aa (bz rfl) (aa (ag il rfl) (aa (aA h 1 rfl kr rfl rfl) (aa (oo (N := (eT Val)) eB rfl (h.dG 10 rfl) (h.gX 11 rfl)) (aa (bD rfl rfl) (nN (aH hs rfl (fun c10 hs => ?_) (fun c10 hs => ?_))))))))))
 refine nG (aa (ae (v := (.bool (false))) rfl) (nR (az (bR (v := (.bool (false))) Tryz.results89 rfl ?_))))
 replace h := h.pair 1 8 (by decide)
 replace h := h.pair 1 9 (by decide)
 replace h := h.pair 1 10 (by decide)
 replace h := h.pair 1 11 (by decide)
 obtain rfl := fI hs
 subst yB
 obtain ⟨o1, o2, o3⟩ := h.o8 1 (C := (cT sb v2 v5 (y8) (y9) y4 Vl y7 N9)) rfl ⟨⟨⟨⟨trivial, trivial⟩, trivial⟩, trivial⟩, trivial⟩
 exact ⟨o2, v2, v5, Vl, N9, rfl, o1, o3⟩
 refine aI (ak (aO (sI 22 mixed (by kernel_rfl) h fun w h => aM (ah (v := (.pointer (some ⟨sb, 0, none⟩))) rfl) (aM (bz rfl) (aM (ag ed rfl) (aM (aA h 1 rfl iU rfl rfl) (aM (ah (v := (.pointer (some ⟨sb, 0, none⟩))) rfl) (aM (bz rfl) (aM (ag ed rfl) (aM (aA h 1 rfl iU rfl rfl) (aM (oo (N := bU) df rfl (h.dG 8 rfl) (h.gX 9 rfl)) ?_)))))))))))
 obtain ⟨a11, hs⟩ := bu hs
 refine aM (oO rfl rfl a11) ?_
 obtain ⟨Am, e13, hs⟩ := aJ hs
 obtain ⟨Bi, e18, h⟩ := h.qA 9 12 Am.regs rfl rfl (by decide) (aG e13).2 rfl
 obtain ⟨b15, q16, i14⟩ := h.xL 8 rfl df rfl (aG e13).1 (fw (aG e13).2 e18)
 refine aM (i14 _ _ _ _ _ _ _ _ _ rfl rfl) (aM (ag kT rfl) ?_)
 obtain ⟨WM, m20, r21⟩ := h.zV 8 rfl q16 (fw (aG e13).2 e18)
 obtain ⟨rfl, -⟩ := r21
 refine aM (qa (k := 2) m20 lC rfl rfl) (aM (ag kU rfl) (aM (aA h 7 rfl aU rfl rfl) (aM (ah (v := (.pointer (some ⟨sb, 0, none⟩))) rfl) (aM (bz rfl) (aM (ag il rfl) (aM (aA h 1 rfl kr rfl rfl) (aM (oo (N := (eT Val)) eB rfl (h.dG 10 rfl) (h.gX 11 rfl)) (aM (dH (pv := [(0, (I6 2)), (1, (I6 ((y7.length : Int))))]) (out := [(I6 2), (I6 ((y7.length : Int)))]) uL rfl ⟨0, 1, [(I6 2)], rfl, rfl, rfl, bC rfl, ⟨1, 1, [(I6 ((y7.length : Int)))], rfl, rfl, rfl, bC rfl, rfl⟩⟩) ?_))))))))
 obtain ⟨x22, e23, hs⟩ := aJ hs
 obtain ⟨b25, q26, i24⟩ := h.xL 12 rfl bH rfl (aG e23).1 (aG e23).2
 refine aM (i24 _ _ _ _ _ _ _ _ _ rfl rfl) (Ch (zF (a' := (⟨2, (y7.length : Int)⟩ : Val)) (vs := [(I6 2), (I6 ((y7.length : Int)))]) h 12 rfl q26 rfl (aG e23).2 bS rfl rfl rfl rfl rfl fun w h k27 => nN (aO (kL (L := (fun b => ob v5 b ∨ b = sb)) mixed h fun w h => bA 0 (aD.refl _ _) rfl aj (by kernel_rfl) (by kernel_rfl) (by kernel_rfl) (fun w hk => ah (v := (.pointer (some ⟨sb, 0, none⟩))) rfl) (bA 1 (aD.refl _ _) rfl aj (by kernel_rfl) (by kernel_rfl) (by kernel_rfl) (fun w hk => ah (v := (.pointer (some ⟨sb, 0, none⟩))) rfl) (bA 2 (aD.refl _ _) rfl aj (by kernel_rfl) (by kernel_rfl) (by kernel_rfl) (fun w hk => bz rfl) (bA 3 (aD.refl _ _) rfl aj (by kernel_rfl) (by kernel_rfl) (by kernel_rfl) (fun w hk => ag il rfl) (bA 5 (aD.refl _ _) rfl aj (by kernel_rfl) (by kernel_rfl) (by kernel_rfl) (fun w hk => ag iZ rfl) (bA 6 (aD.refl _ _) rfl aj (by kernel_rfl) (by kernel_rfl) (by kernel_rfl) (fun w hk => have h := h.Gy 10 1 (by decide) rfl rfl hk; aA h 7 rfl aU rfl rfl) ?_)))))))))
 obtain ⟨Pb, hs⟩ := bu hs
 obtain ⟨Az, hs⟩ := bu hs
 obtain ⟨NK, ws36e⟩ : ∃ x, x = w := ⟨_, rfl⟩
 have kv : aD (fun b => ob v5 b ∨ b = sb) NK w := ws36e ▸ aD.refl (fun b => ob v5 b ∨ b = sb) w
 refine rU ws36e.symm (lu 4 7 (by kernel_rfl) rfl aj rfl aj ?_ ?_)
 refine aa (aA h 1 rfl kr rfl rfl) (ay (aN kv (bg 7 (by kernel_rfl) rfl aj (Aa (R := bJ) (zs := [(I6 0), (I6 0)]) (a := (⟨0, 0⟩ : Val)) h 97 rZ bS rfl (by decide) rfl rfl Pb rfl (fun _ _ => rfl) fun w jU h G8 G9 => ?_))))
 have Uc : ∀ b, ob jU b → NK.heap.size ≤ b := fun b hb => Nat.le_trans kv.size (G9 b hb)
 replace kv := kv.grow G8
 refine ay (aN kv (bg 8 (by kernel_rfl) rfl aj ?_))
 have ui : (Value.oneCell' jU) = true := (h.dC 97 rfl).one
 refine wK (R := (eT Val).raw) (vs := [jU]) (xs := List.zip [(List.replicate a.b.toNat (⟨0, 0⟩ : Val))] [jU]) h 109 jS rfl rfl rfl ⟨⟨iW ui, ui⟩, trivial⟩ rfl fun w C8 h AA AB => ?_
 have LM : ∀ b, ob C8 b → NK.heap.size ≤ b := fun b hb => Nat.le_trans kv.size (AB b hb)
 replace kv := kv.grow AA
 replace h := h.zl (N := (eT Val)) 97 (List.replicate a.b.toNat (⟨0, 0⟩ : Val)) rfl rfl
 refine ay (aN kv (bg 9 (by kernel_rfl) rfl aj ?_))
 have qY := h.gX 11 rfl
 have uj := h.gX 97 rfl
 have LP := kv.size
 refine kS (R := (eT Val).raw) (m := List.zip [(List.replicate a.b.toNat (⟨0, 0⟩ : Val))] [jU]) h 10 rfl (h.dG 109 rfl) jS rfl rfl rfl (by rw [dZ qY, dZ uj]; exact Az.1) (by rw [dZ qY, dZ uj]; exact Az.2) fun w nH h AJ AL => ?_
 have LQ : ∀ b, ob nH b → b < NK.heap.size → ob v5 b := fun b hb hl => AL b hb (Nat.lt_of_lt_of_le hl (kv).size)
 replace kv := aD.step kv AJ (fun _ hx _ => .inl (hx))
 replace h := (h.zi 11 97 rfl rfl (by decide)).fH 109
 rw [zk qY, ← List.map_append] at h
 obtain ⟨uk, yG⟩ : ∃ z, z = N9 ++ [jU] := ⟨_, rfl⟩
 rw [← yG] at h
 refine ay (aN kv (cK 10 kv rfl (by kernel_rfl) (fun w hk => bz rfl) (cK 11 kv rfl (by kernel_rfl) (fun w hk => ag il rfl) (bg 12 (by kernel_rfl) rfl aj (o7 h 1 [v2, nH, (I6 y8), (I6 y9)] rfl kr rfl rfl rfl rfl (h.dC 10 rfl).one fun w h AO => ?_)))))
 replace kv := aD.step kv AO (fun _ hx _ => .inr (hx))
 refine ay (aN kv (eY (by kernel_rfl) (ak (nG (aa (ae (v := (.bool (true))) rfl) (nR (bR (v := (.bool (true))) Tryz.results89 rfl ?_)))))))
 replace h := h.sM 8 9 12 ({ Am with regs := (Am.regs.set (a.a).toNat (⟨2, (y7.length : Int)⟩ : Val)) }) rfl rfl rfl (by decide) (by decide) (by decide) (aG e13).2 e18 rfl
 replace h := h.pair 1 8 (by decide)
 replace h := h.pair 1 9 (by decide)
 replace h := h.pair 1 10 (by decide)
 replace h := h.pair 1 11 (by decide)
 obtain rfl := fI hs
 subst yB
 obtain ⟨o1, o2, o3⟩ := h.o8 1 (C := (cT sb v2 nH (y8) (y9) (y4.set (((y4.length : Int) - 1)).toNat ({ Am with regs := (Am.regs.set (a.a).toNat (⟨2, (y7.length : Int)⟩ : Val)) })) Vl (y7 ++ [(List.replicate a.b.toNat (⟨0, 0⟩ : Val))]) uk)) rfl ⟨⟨⟨⟨trivial, trivial⟩, trivial⟩, trivial⟩, trivial⟩
 exact ⟨o2, v2, nH, Vl, uk, rfl, o1, o3⟩
 refine Aa (R := bJ) (zs := [(I6 0), (I6 0)]) (a := (⟨0, 0⟩ : Val)) h 97 rZ bS rfl (by decide) rfl rfl Pb rfl (fun _ _ => rfl) fun w jU h G8 G9 => ?_
 have Uc : ∀ b, ob jU b → NK.heap.size ≤ b := fun b hb => Nat.le_trans kv.size (G9 b hb)
 replace kv := kv.grow G8
 refine ay (aN kv (lu 4 8 (by kernel_rfl) rfl aj rfl aj ?_ ?_))
 refine aa (aA h 1 rfl kr rfl rfl) (ay (aN kv (bg 8 (by kernel_rfl) rfl aj ?_)))
 have ui : (Value.oneCell' jU) = true := (h.dC 97 rfl).one
 refine wK (R := (eT Val).raw) (vs := [jU]) (xs := List.zip [(List.replicate a.b.toNat (⟨0, 0⟩ : Val))] [jU]) h 109 jS rfl rfl rfl ⟨⟨iW ui, ui⟩, trivial⟩ rfl fun w C8 h AA AB => ?_
 have LM : ∀ b, ob C8 b → NK.heap.size ≤ b := fun b hb => Nat.le_trans kv.size (AB b hb)
 replace kv := kv.grow AA
 replace h := h.zl (N := (eT Val)) 97 (List.replicate a.b.toNat (⟨0, 0⟩ : Val)) rfl rfl
 refine ay (aN kv (bg 9 (by kernel_rfl) rfl aj ?_))
 have qY := h.gX 11 rfl
 have uj := h.gX 97 rfl
 have LP := kv.size
 refine kS (R := (eT Val).raw) (m := List.zip [(List.replicate a.b.toNat (⟨0, 0⟩ : Val))] [jU]) h 10 rfl (h.dG 109 rfl) jS rfl rfl rfl (by rw [dZ qY, dZ uj]; exact Az.1) (by rw [dZ qY, dZ uj]; exact Az.2) fun w nH h AJ AL => ?_
 have LQ : ∀ b, ob nH b → b < NK.heap.size → ob v5 b := fun b hb hl => AL b hb (Nat.lt_of_lt_of_le hl (kv).size)
 replace kv := aD.step kv AJ (fun _ hx _ => .inl (hx))
 replace h := (h.zi 11 97 rfl rfl (by decide)).fH 109
 rw [zk qY, ← List.map_append] at h
 obtain ⟨uk, yG⟩ : ∃ z, z = N9 ++ [jU] := ⟨_, rfl⟩
 rw [← yG] at h
 refine ay (aN kv (cK 10 kv rfl (by kernel_rfl) (fun w hk => bz rfl) (cK 11 kv rfl (by kernel_rfl) (fun w hk => ag il rfl) (bg 12 (by kernel_rfl) rfl aj (o7 h 1 [v2, nH, (I6 y8), (I6 y9)] rfl kr rfl rfl rfl rfl (h.dC 10 rfl).one fun w h AO => ?_)))))
 replace kv := aD.step kv AO (fun _ hx _ => .inr (hx))
 refine ay (aN kv (eY (by kernel_rfl) (ak (nG (aa (ae (v := (.bool (true))) rfl) (nR (bR (v := (.bool (true))) Tryz.results89 rfl ?_)))))))
 replace h := h.sM 8 9 12 ({ Am with regs := (Am.regs.set (a.a).toNat (⟨2, (y7.length : Int)⟩ : Val)) }) rfl rfl rfl (by decide) (by decide) (by decide) (aG e13).2 e18 rfl
 replace h := h.pair 1 8 (by decide)
 replace h := h.pair 1 9 (by decide)
 replace h := h.pair 1 10 (by decide)
 replace h := h.pair 1 11 (by decide)
 obtain rfl := fI hs
 subst yB
 obtain ⟨o1, o2, o3⟩ := h.o8 1 (C := (cT sb v2 nH (y8) (y9) (y4.set (((y4.length : Int) - 1)).toNat ({ Am with regs := (Am.regs.set (a.a).toNat (⟨2, (y7.length : Int)⟩ : Val)) })) Vl (y7 ++ [(List.replicate a.b.toNat (⟨0, 0⟩ : Val))]) uk)) rfl ⟨⟨⟨⟨trivial, trivial⟩, trivial⟩, trivial⟩, trivial⟩
 exact ⟨o2, v2, nH, Vl, uk, rfl, o1, o3⟩
 have ui : (Value.oneCell' jU) = true := (h.dC 97 rfl).one
 refine wK (R := (eT Val).raw) (vs := [jU]) (xs := List.zip [(List.replicate a.b.toNat (⟨0, 0⟩ : Val))] [jU]) h 109 jS rfl rfl rfl ⟨⟨iW ui, ui⟩, trivial⟩ rfl fun w C8 h AA AB => ?_
 have LM : ∀ b, ob C8 b → NK.heap.size ≤ b := fun b hb => Nat.le_trans kv.size (AB b hb)
 replace kv := kv.grow AA
 replace h := h.zl (N := (eT Val)) 97 (List.replicate a.b.toNat (⟨0, 0⟩ : Val)) rfl rfl
 refine ay (aN kv (bg 4 (by kernel_rfl) rfl aj (aa (aA h 1 rfl kr rfl rfl) (ay (aN kv (bg 9 (by kernel_rfl) rfl aj ?_))))))
 have qY := h.gX 11 rfl
 have uj := h.gX 97 rfl
 have LP := kv.size
 refine kS (R := (eT Val).raw) (m := List.zip [(List.replicate a.b.toNat (⟨0, 0⟩ : Val))] [jU]) h 10 rfl (h.dG 109 rfl) jS rfl rfl rfl (by rw [dZ qY, dZ uj]; exact Az.1) (by rw [dZ qY, dZ uj]; exact Az.2) fun w nH h AJ AL => ?_
 have LQ : ∀ b, ob nH b → b < NK.heap.size → ob v5 b := fun b hb hl => AL b hb (Nat.lt_of_lt_of_le hl (kv).size)
 replace kv := aD.step kv AJ (fun _ hx _ => .inl (hx))
 replace h := (h.zi 11 97 rfl rfl (by decide)).fH 109
 rw [zk qY, ← List.map_append] at h
 obtain ⟨uk, yG⟩ : ∃ z, z = N9 ++ [jU] := ⟨_, rfl⟩
 rw [← yG] at h
 refine ay (aN kv (cK 10 kv rfl (by kernel_rfl) (fun w hk => bz rfl) (cK 11 kv rfl (by kernel_rfl) (fun w hk => ag il rfl) (bg 12 (by kernel_rfl) rfl aj (o7 h 1 [v2, nH, (I6 y8), (I6 y9)] rfl kr rfl rfl rfl rfl (h.dC 10 rfl).one fun w h AO => ?_)))))
 replace kv := aD.step kv AO (fun _ hx _ => .inr (hx))
 refine ay (aN kv (eY (by kernel_rfl) (ak (nG (aa (ae (v := (.bool (true))) rfl) (nR (bR (v := (.bool (true))) Tryz.results89 rfl ?_)))))))
 replace h := h.sM 8 9 12 ({ Am with regs := (Am.regs.set (a.a).toNat (⟨2, (y7.length : Int)⟩ : Val)) }) rfl rfl rfl (by decide) (by decide) (by decide) (aG e13).2 e18 rfl
 replace h := h.pair 1 8 (by decide)
 replace h := h.pair 1 9 (by decide)
 replace h := h.pair 1 10 (by decide)
 replace h := h.pair 1 11 (by decide)
 obtain rfl := fI hs
 subst yB
 obtain ⟨o1, o2, o3⟩ := h.o8 1 (C := (cT sb v2 nH (y8) (y9) (y4.set (((y4.length : Int) - 1)).toNat ({ Am with regs := (Am.regs.set (a.a).toNat (⟨2, (y7.length : Int)⟩ : Val)) })) Vl (y7 ++ [(List.replicate a.b.toNat (⟨0, 0⟩ : Val))]) uk)) rfl ⟨⟨⟨⟨trivial, trivial⟩, trivial⟩, trivial⟩, trivial⟩
 exact ⟨o2, v2, nH, Vl, uk, rfl, o1, o3⟩
 refine nG (aa (ah (v := (.pointer (some ⟨sb, 0, none⟩))) rfl) (aa (bz rfl) (aa (ag il rfl) (aa (aA h 1 rfl kr rfl rfl) (aa (oo (N := (eT Val)) eB rfl (h.dG 4 rfl) (h.gX 5 rfl)) (aa (bD rfl rfl) (nN (aH hs rfl (fun OE hs => ?_) (fun OE hs => ?_)))))))))
 refine aB (aa (ah (v := (.pointer (some ⟨sb, 0, none⟩))) rfl) (aa (ah (v := (.pointer (some ⟨sb, 0, none⟩))) rfl) (aa (bz rfl) (aa (dh (vs := [gV, vs1, (I6 sx.status), (I6 sx.aQ)]) h 1 rfl bV rfl rfl rfl) ?_))))
 obtain ⟨y39, e40, hs⟩ := aJ hs
 refine aR GI rfl rfl (vS N _ BE (fun _ h => h.elim) sx gV vs1 (h.xx (N := bU) (R' := eu) 2 3 rfl rfl (by decide) rfl vP) (h.xx (N := (eT Val)) (R' := (oV bJ)) 4 5 rfl rfl (by decide) rfl BB) _ e40) ?_
 rintro _ w ⟨k47, TL, Ud, Ze, us44, rfl, h45, h46⟩
 refine ⟨_, rfl, ?_⟩
 replace h := h.Z8 181 (C := (cU TL Ud y39.frames Ze y39.cells us44)) k47 ⟨⟨⟨trivial, trivial⟩, trivial⟩, trivial⟩ ⟨⟨⟨(fun _ _ _ _ _ h => h), (DC (fun _ _ _ _ _ h => h))⟩, (fun _ _ _ _ _ h => h)⟩, (DC (fun _ _ _ _ _ h => h))⟩ h45 h46
 replace h := h.bN 181 184 (by decide) rfl rfl
 replace h := h.bN 181 183 (by decide) rfl rfl
 replace h := h.bN 181 182 (by decide) rfl rfl
 refine aa (bz rfl) (dn (vs := [TL, Ud, (I6 y39.status), (I6 y39.aQ)]) h 1 [TL, Ud, (I6 y39.status), (I6 y39.aQ)] rfl bV rfl rfl rfl rfl rfl (ai (h.dC 181 rfl).one (ai (h.dC 183 rfl).one (ai rfl (ai rfl aT)))) fun w h => ay (au ?_))
 replace h := (h.fH 8).moveC 181 8 rfl rfl (by decide)
 replace h := (h.fH 9).moveC 182 9 rfl rfl (by decide)
 replace h := (h.fH 10).moveC 183 10 rfl rfl (by decide)
 replace h := (h.fH 11).moveC 184 11 rfl rfl (by decide)
 exact bP (TL, Ze, y39.frames, Ud, us44, y39.cells, y39.status, y39.aQ) ⟨h.cn _, hs⟩
 refine aI (au ?_)
 replace h := (h.fH 8).moveC 2 8 rfl rfl (by decide)
 replace h := (h.fH 9).moveC 3 9 rfl rfl (by decide)
 replace h := (h.fH 10).moveC 4 10 rfl rfl (by decide)
 replace h := (h.fH 11).moveC 5 11 rfl rfl (by decide)
 exact bP (gV, j6, sx.frames, vs1, jJ, sx.cells, sx.status, sx.aQ) ⟨h.cn _, hs⟩
def vT (sx : LX.State) (i11 : Int) (Am : Int) (y9 : List Val) (nx14 : List Val → Option (Bool × LX.State)) : Option (Bool × LX.State) :=
  gJ (jI ((sx.frames.length : Int) - 1)) ((idx sx.frames ((sx.frames.length : Int) - 1)).bind fun rW => (idx rW.regs Am).bind fun Aj => (idx y9 i11).bind fun x41 => nx14 (y9.set (i11).toNat Aj))
def vU (sx : LX.State) (b : Ins) (a : List bQ) (y9 : List Val) : Option (Bool × LX.State) :=
  gJ (Room 48 sx.frames [(⟨b.b, 0, y9, b.a⟩ : LX.Frame)]) (some (true, (⟨(sx.frames ++ [(⟨b.b, 0, y9, b.a⟩ : LX.Frame)]), sx.cells, sx.status, sx.aQ⟩ : LX.State)))
def J4 (sx : LX.State) (i62 : Int) (qO : Int) (vI : List Val) (Nq : List Val → Option (Bool × LX.State)) : Option (Bool × LX.State) :=
  gJ (jI ((sx.frames.length : Int) - 1)) ((idx sx.frames ((sx.frames.length : Int) - 1)).bind fun x74 => (idx x74.regs qO).bind fun x84 => (idx vI i62).bind fun x92 => Nq (vI.set (i62).toNat x84))
def J5 (sx : LX.State) (b : Ins) (a : List bQ) (vI : List Val) : Option (Bool × LX.State) :=
  gJ (Room 48 sx.frames [(⟨b.b, 0, vI, b.a⟩ : LX.Frame)]) (some (true, (⟨(sx.frames ++ [(⟨b.b, 0, vI, b.a⟩ : LX.Frame)]), sx.cells, sx.status, sx.aQ⟩ : LX.State)))
def NL (sx : LX.State) (a : List bQ) (b : Ins) : Option (Bool × LX.State) :=
  bif decide (((sx.frames.length : Int) : Int) = 10) then some (false, sx) else (idx a b.b).bind fun DT => gJ (0 ≤ DT.regs ∧ DT.regs * 16 ≤ 140737488355328) (fq (vT sx) (vU sx b a) 0 b.args (List.replicate DT.regs.toNat (⟨0, 0⟩ : Val)))
theorem LU (w0 : World) (M : BS) (hM : ∀ b, M b → b < w0.heap.size) (sb : Nat) (sx : LX.State) (gV vs1 : Value) (j6 jJ : List Value) (hC : Chunk.holds w0 M (Chunk.own' (cT sb gV vs1 (sx.status) (sx.aQ) sx.frames j6 sx.cells jJ)) (cT sb gV vs1 (sx.status) (sx.aQ) sx.frames j6 sx.cells jJ)) (hap : ∀ b, Chunk.own' (cT sb gV vs1 (sx.status) (sx.aQ) sx.frames j6 sx.cells jJ) b → ¬ M b) (va : Value) (a : List bQ) (ha : eX jR w0 (fun b => M b ∨ (cT sb gV vs1 (sx.status) (sx.aQ) sx.frames j6 sx.cells jJ).own' b) va a) (b : Ins) (vb4 : Value) (hb4 : eX dA w0 (fun b => M b ∨ (cT sb gV vs1 (sx.status) (sx.aQ) sx.frames j6 sx.cells jJ).own' b) vb4 b.args) (r : Bool × LX.State) (hs : NL sx a b = some r) :
    Calls Tryz.prog 90 #[va, (.pointer (some ⟨sb, 0, none⟩)), (.agg #[(I6 b.op), (I6 b.a), (I6 b.b), (I6 b.c), vb4])] w0 (fun e w' => aD (Chunk.own' (cT sb gV vs1 (sx.status) (sx.aQ) sx.frames j6 sx.cells jJ)) w0 w' ∧ ∃ zM, ∃ NF, ∃ NG, ∃ NH, e = .returned (.bool r.1) ∧ Chunk.holds w' M (Chunk.own' (cT sb zM NF r.2.status r.2.aQ r.2.frames NG r.2.cells NH)) (cT sb zM NF r.2.status r.2.aQ r.2.frames NG r.2.cells NH) ∧ (∀ b, Chunk.own' (cT sb zM NF r.2.status r.2.aQ r.2.frames NG r.2.cells NH) b → b < w0.heap.size → Chunk.own' (cT sb gV vs1 (sx.status) (sx.aQ) sx.frames j6 sx.cells jJ) b)) := by
 refine aL (args := [va, (.pointer (some ⟨sb, 0, none⟩)), (.agg #[(I6 b.op), (I6 b.a), (I6 b.b), (I6 b.c), vb4])]) Tryz.func90 rfl Tryz.ntmps90 (bC rfl) ?_
 have h := SH.Ci hM hC hap
 replace h := h.yw 6 ha ze
 replace h := h.yw 7 hb4 (uJ ze)
 generalize yB : (cT sb gV vs1 (sx.status) (sx.aQ) sx.frames j6 sx.cells jJ).own' = K0 at h
 replace h := h.bN 1 5 (by decide) rfl rfl
 replace h := h.bN 1 4 (by decide) rfl rfl
 replace h := h.bN 1 3 (by decide) rfl rfl
 replace h := h.bN 1 2 (by decide) rfl rfl
 have vE := ha.bW
 refine nG (oP (cs := [(I6 b.op), (I6 b.a), (I6 b.b), (I6 b.c), vb4]) h 8 rfl rfl fun w b1 h => aa (ae (v := (.bool (false))) rfl) (nK (aa (ah (v := (.pointer (some ⟨sb, 0, none⟩))) rfl) (aa (bz rfl) (aa (ag ed rfl) (aa (aA h 1 rfl iU rfl rfl) (aa (oo (N := bU) df rfl (h.dG 2 rfl) (h.gX 3 rfl)) (aa (bD rfl rfl) (nN (aH hs rfl (fun c2 hs => ?_) (fun c2 hs => ?_)))))))))))
 refine nG (aa (ae (v := (.bool (false))) rfl) (nR (az (bR (v := (.bool (false))) Tryz.results90 rfl ?_))))
 replace h := h.pair 1 2 (by decide)
 replace h := h.pair 1 3 (by decide)
 replace h := h.pair 1 4 (by decide)
 replace h := h.pair 1 5 (by decide)
 obtain rfl := fI hs
 subst yB
 obtain ⟨o1, o2, o3⟩ := h.o8 1 (C := (cT sb gV vs1 (sx.status) (sx.aQ) sx.frames j6 sx.cells jJ)) rfl ⟨⟨⟨⟨trivial, trivial⟩, trivial⟩, trivial⟩, trivial⟩
 exact ⟨o2, gV, vs1, j6, jJ, rfl, o1, o3⟩
 refine aI (ak (aO (Bw mixed h fun w h => dD 0 (aD.refl BE _) rfl aj (by kernel_rfl) (by kernel_rfl) (by kernel_rfl) (fun w hk => ag iZ rfl) (dD 1 (aD.refl BE _) rfl aj (by kernel_rfl) (by kernel_rfl) (by kernel_rfl) (fun w hk => have h := h.grow hk; aA h 8 rfl aU rfl rfl) (dD 2 (aD.refl BE _) rfl aj (by kernel_rfl) (by kernel_rfl) (by kernel_rfl) (fun w hk => ah (v := va) rfl) (dD 3 (aD.refl BE _) rfl aj (by kernel_rfl) (by kernel_rfl) (by kernel_rfl) (fun w hk => ag iZ rfl) (dD 4 (aD.refl BE _) rfl aj (by kernel_rfl) (by kernel_rfl) (by kernel_rfl) (fun w hk => have h := h.grow hk; aA h 8 rfl aU rfl rfl) ?_)))))))
 obtain ⟨DT, Sr, hs⟩ := aJ hs
 obtain ⟨bq3x5_4, oq3x5_5, csq3x5_6, h, Zl, Zm⟩ := h.Fw 6 69 rfl jW rfl (aG Sr).1 (aG Sr).2
 obtain ⟨uq3x5_8, rfl, Zn⟩ := pg Zl
 replace h := h.bM 70 Zn.up
 refine dD 5 (aD.refl BE _) rfl aj (by kernel_rfl) (by kernel_rfl) (by kernel_rfl) (fun w hk => Zm _ _ _ _ _ _ _ _ _ rfl rfl) (dD 6 (aD.refl BE _) rfl aj (by kernel_rfl) (by kernel_rfl) (by kernel_rfl) (fun w hk => ag BG rfl) (dD 7 (aD.refl BE _) rfl aj (by kernel_rfl) (by kernel_rfl) (by kernel_rfl) (fun w hk => have h := h.grow hk; eU (k := 1) h 69 rfl aU rfl rfl) (dD 9 (aD.refl BE _) rfl aj (by kernel_rfl) (by kernel_rfl) (by kernel_rfl) (fun w hk => ag kU rfl) (dD 10 (aD.refl BE _) rfl aj (by kernel_rfl) (by kernel_rfl) (by kernel_rfl) (fun w hk => have h := h.grow hk; aA h 8 rfl aU rfl rfl) ?_))))
 obtain ⟨Su, hs⟩ := bu hs
 obtain ⟨ws4, ws4e⟩ : ∃ x, x = w := ⟨_, rfl⟩
 have hg5 : Grow ws4 w := ws4e ▸ aD.refl BE w
 refine IA ws4e.symm (YA 8 12 (by kernel_rfl) rfl aj rfl aj ?_ ?_)
 refine Aa (R := bJ) (zs := [(I6 0), (I6 0)]) (a := (⟨0, 0⟩ : Val)) h 105 rZ bS rfl (by decide) rfl rfl Su rfl (fun _ _ => rfl) fun w eG h J6 J7 => ?_
 have XA : ∀ b, ob eG b → ws4.heap.size ≤ b := fun b hb => Nat.le_trans hg5.size (J7 b hb)
 replace hg5 := hg5.trans J6
 refine ay (kQ hg5 (uK 11 hg5 rfl (by kernel_rfl) (fun w hk => dH (pv := [(0, (I6 b.b)), (2, eG), (3, (I6 b.a))]) (out := [(I6 b.b), (I6 0), eG, (I6 b.a)]) FM rfl ⟨0, 1, [(I6 b.b)], rfl, rfl, rfl, bC rfl, ⟨2, 1, [eG], rfl, (iW (h.dC 105 rfl).one), rfl, bC rfl, ⟨3, 1, [(I6 b.a)], rfl, rfl, rfl, bC rfl, rfl⟩⟩⟩) (qH 12 (by kernel_rfl) rfl aj (Gz h 153 iA fun w C9 h Ha Hd => ?_))))
 have He : ws4.heap.size ≤ C9 := Nat.le_trans hg5.size Hd
 replace hg5 := hg5.trans Ha
 refine ay (kQ hg5 (qH 13 (by kernel_rfl) rfl aj (zD (vs := [(I6 b.b), (I6 0), eG, (I6 b.a)]) h 153 [(I6 b.b), (I6 0), eG, (I6 b.a)] rfl iA rfl rfl rfl rfl rfl (ai rfl (ai rfl (ai (h.dC 105 rfl).one (ai rfl aT)))) fun w h J8 => ?_)))
 replace hg5 := hg5.fresh J8 (fun x hx => hx ▸ He)
 refine ay (kQ hg5 (ru (by kernel_rfl) (ak (aO (nG (aa (ag xS rfl) (aa (aA h 8 rfl rQ rfl rfl) (aa (bT bZ rfl (h.mM 7 rfl)) (aa (ah (v := (I6 0)) rfl) (nN (aP (fT (σ := Nat × Int × List Val) (inl ([8, 9] ++ rg 31 26)) (fun ⟨k10, i11, y9⟩ => [(31, (I6 i11))]) (fun ⟨k10, i11, y9⟩ w => SH w0 M K0 w (hset [(1, .blk sb [gV, vs1, (I6 sx.status), (I6 sx.aQ)]), (2, .own bU.raw 49 gV (List.zip sx.frames j6)), (3, .ib (dB bJ 51 hn j6 (List.map bU.sub sx.frames))), (4, .own (eT Val).raw 47 vs1 (List.zip sx.cells jJ)), (5, .ib (dB bJ 51 hn jJ (List.map (eT Val).sub sx.cells))), (7, .rd dA vb4 b.args), (105, .own bJ 51 eG y9), (153, .blk C9 [(I6 b.b), (I6 0), eG, (I6 b.a)])]) ∧ i11 = (k10 : Int) ∧ fq (vT sx) (vU sx b a) i11 (b.args.drop k10) y9 = some r) (fun ⟨k10, i11, y9⟩ => b.args.length - k10) ⟨0, 0, (List.replicate DT.regs.toNat (⟨0, 0⟩ : Val))⟩ ⟨rfl, trivial⟩ ?_ ?_))))))))))))
 exact ⟨h.cn _, rfl, hs⟩
 rintro ⟨k10, i11, y9⟩ w dz ⟨h, hik, hs⟩
 refine nG ?_
 refine aa (dL rfl rfl) (nN ?_)
 refine aO (iw rfl (fun e15 => ?_) (fun e15 => ?_))
 refine aI (ak ?_)
 obtain ⟨Am, e16a, e16b⟩ := gK (hik ▸ e15)
 rw [e16b, ja] at hs
 generalize hnx14 : fq (vT sx) (vU sx b a) (i11 + 1) (b.args.drop (k10 + 1)) = nx14 at hs
 have e16r := gN ((h.mM 7 rfl)).bW hik e15
 refine aO (aP (nG (aa (ah (v := (I6 i11)) rfl) ?_)))
 obtain ⟨b18, o19, cs20, h, r21, i17⟩ := h.Fw 7 189 rfl bZ rfl (jb hik) (gM hik e16a)
 obtain rfl := r21
 refine aa (i17 _ _ _ _ _ _ _ _ _ rfl rfl) (aa (eU (k := 0) h 189 rfl aU rfl rfl) (aa (ae (v := (I6 i11)) rfl) (aa (ae (v := (I6 Am)) rfl) (nN (sI 20 mixed (by kernel_rfl) h fun w h => aM (ag kT rfl) (aM (aA h 153 rfl lC rfl rfl) (aM (ah (v := (I6 i11)) rfl) (aM (ah (v := (.pointer (some ⟨sb, 0, none⟩))) rfl) (aM (bz rfl) (aM (ag ed rfl) (aM (aA h 1 rfl iU rfl rfl) (aM (ah (v := (.pointer (some ⟨sb, 0, none⟩))) rfl) (aM (bz rfl) (aM (ag ed rfl) (aM (aA h 1 rfl iU rfl rfl) (aM (oo (N := bU) df rfl (h.dG 2 rfl) (h.gX 3 rfl)) ?_))))))))))))))))
 obtain ⟨a22, hs⟩ := bu hs
 refine aM (oO rfl rfl a22) ?_
 obtain ⟨rW, e24, hs⟩ := aJ hs
 obtain ⟨u28, e29, h⟩ := h.qA 3 190 rW.regs rfl rfl (by decide) (aG e24).2 rfl
 obtain ⟨b26, q27, i25⟩ := h.xL 2 rfl df rfl (aG e24).1 (fw (aG e24).2 e29)
 refine aM (i25 _ _ _ _ _ _ _ _ _ rfl rfl) (aM (ag kT rfl) ?_)
 obtain ⟨cs30, m31, r32⟩ := h.zV 2 rfl q27 (fw (aG e24).2 e29)
 obtain ⟨rfl, -⟩ := r32
 refine aM (qa (k := 2) m31 lC rfl rfl) (aM (ah (v := (I6 Am)) rfl) ?_)
 obtain ⟨Aj, e34, hs⟩ := aJ hs
 obtain ⟨b36, q37, i35⟩ := h.xL 190 rfl bH rfl (aG e34).1 (aG e34).2
 refine aM (i35 _ _ _ _ _ _ _ _ _ rfl rfl) ?_
 obtain ⟨cs38, Zc, r40⟩ := h.zV 190 rfl q37 (aG e34).2
 obtain rfl := r40
 refine aM (oZ (k := 0) (vs := [(I6 Aj.kind), (I6 Aj.n)]) Zc bS rfl rfl rfl (bC rfl)) ?_
 obtain ⟨x41, e42, hs⟩ := aJ hs
 obtain ⟨Ua, q45, i43⟩ := h.xL 105 rfl bH rfl (aG e42).1 (aG e42).2
 refine aM (i43 _ _ _ _ _ _ _ _ _ rfl rfl) (Ch (zF (a' := Aj) (vs := [(I6 Aj.kind), (I6 Aj.n)]) h 105 rfl q45 rfl (aG e42).2 bS rfl rfl rfl rfl rfl fun w h k46 => ay (ax (ak (aB (aa (dm rfl rfl e16r) (aa (ah (v := (I6 ((i11 + 1)))) rfl) (ay ?_))))))))
 replace h := h.iQ 3 190 rfl rfl (by decide) (aG e24).2 e29 rfl
 refine au ?_
 subst hnx14
 exact jQ ⟨k10 + 1, i11 + 1, (y9.set (i11).toNat Aj)⟩ ⟨h.cn _, by omega, hs⟩ (by have := qE e15; dsimp only; omega)
 rw [gL (hik ▸ e15), nZ] at hs
 refine iT (bK (bK (dU (ak (aO (kL (L := (fun b => ob gV b ∨ b = sb)) mixed h fun w h => bA 0 (aD.refl _ _) rfl aj (by kernel_rfl) (by kernel_rfl) (by kernel_rfl) (fun w hk => ah (v := (.pointer (some ⟨sb, 0, none⟩))) rfl) (bA 1 (aD.refl _ _) rfl aj (by kernel_rfl) (by kernel_rfl) (by kernel_rfl) (fun w hk => ah (v := (.pointer (some ⟨sb, 0, none⟩))) rfl) (bA 2 (aD.refl _ _) rfl aj (by kernel_rfl) (by kernel_rfl) (by kernel_rfl) (fun w hk => bz rfl) (bA 3 (aD.refl _ _) rfl aj (by kernel_rfl) (by kernel_rfl) (by kernel_rfl) (fun w hk => ag ed rfl) (bA 5 (aD.refl _ _) rfl aj (by kernel_rfl) (by kernel_rfl) (by kernel_rfl) (fun w hk => have h := h.Gy 2 1 (by decide) rfl rfl hk; dh (vs := [(I6 b.b), (I6 0), eG, (I6 b.a)]) h 153 rfl iA rfl rfl rfl) ?_))))))))))
 obtain ⟨F4, hs⟩ := bu hs
 obtain ⟨XB, ws55e⟩ : ∃ x, x = w := ⟨_, rfl⟩
 have uF : aD (fun b => ob gV b ∨ b = sb) XB w := ws55e ▸ aD.refl (fun b => ob gV b ∨ b = sb) w
 refine rU ws55e.symm (lu 4 6 (by kernel_rfl) rfl aj rfl aj ?_ ?_)
 refine aa (aA h 1 rfl iU rfl rfl) (ay (aN uF (bg 6 (by kernel_rfl) rfl aj ?_)))
 have Hf : (Value.oneCell' eG) = true := (h.dC 105 rfl).one
 refine wK (R := bU.raw) (vs := [(.agg #[(I6 b.b), (I6 0), eG, (I6 b.a)])]) (xs := List.zip [(⟨b.b, 0, y9, b.a⟩ : LX.Frame)] [eG]) h 263 oq rfl rfl rfl ⟨⟨rfl, Hf⟩, trivial⟩ rfl fun w J9 h Hg Hl => ?_
 have Ue : ∀ b, ob J9 b → XB.heap.size ≤ b := fun b hb => Nat.le_trans uF.size (Hl b hb)
 replace uF := uF.grow Hg
 replace h := h.zl (N := bU) 105 (⟨b.b, 0, y9, b.a⟩ : LX.Frame) rfl rfl
 refine ay (aN uF (bg 7 (by kernel_rfl) rfl aj ?_))
 have yH := h.gX 3 rfl
 have AP := h.gX 105 rfl
 have Uf := uF.size
 refine kS (R := bU.raw) (m := List.zip [(⟨b.b, 0, y9, b.a⟩ : LX.Frame)] [eG]) h 2 rfl (h.dG 263 rfl) oq rfl rfl rfl (by rw [dZ yH, dZ AP]; exact F4.1) (by rw [dZ yH, dZ AP]; exact F4.2) fun w vo h Hm Ho => ?_
 have Ug : ∀ b, ob vo b → b < XB.heap.size → ob gV b := fun b hb hl => Ho b hb (Nat.lt_of_lt_of_le hl (uF).size)
 replace uF := aD.step uF Hm (fun _ hx _ => .inl (hx))
 replace h := (h.zi 3 105 rfl rfl (by decide)).fH 263
 rw [zk yH, ← List.map_append] at h
 obtain ⟨AQ, EJ⟩ : ∃ z, z = j6 ++ [eG] := ⟨_, rfl⟩
 rw [← EJ] at h
 refine ay (aN uF (cK 8 uF rfl (by kernel_rfl) (fun w hk => bz rfl) (cK 9 uF rfl (by kernel_rfl) (fun w hk => ag ed rfl) (bg 10 (by kernel_rfl) rfl aj (o7 h 1 [vo, vs1, (I6 sx.status), (I6 sx.aQ)] rfl iU rfl rfl rfl rfl (h.dC 2 rfl).one fun w h Hq => ?_)))))
 replace uF := aD.step uF Hq (fun _ hx _ => .inr (hx))
 refine ay (aN uF (eY (by kernel_rfl) (ak (nG (aa (ae (v := (.bool (true))) rfl) (nR (bR (v := (.bool (true))) Tryz.results90 rfl ?_)))))))
 replace h := h.pair 1 2 (by decide)
 replace h := h.pair 1 3 (by decide)
 replace h := h.pair 1 4 (by decide)
 replace h := h.pair 1 5 (by decide)
 obtain rfl := fI hs
 subst yB
 obtain ⟨o1, o2, o3⟩ := h.o8 1 (C := (cT sb vo vs1 (sx.status) (sx.aQ) (sx.frames ++ [(⟨b.b, 0, y9, b.a⟩ : LX.Frame)]) AQ sx.cells jJ)) rfl ⟨⟨⟨⟨trivial, trivial⟩, trivial⟩, trivial⟩, trivial⟩
 exact ⟨o2, vo, vs1, AQ, jJ, rfl, o1, o3⟩
 have Hf : (Value.oneCell' eG) = true := (h.dC 105 rfl).one
 refine wK (R := bU.raw) (vs := [(.agg #[(I6 b.b), (I6 0), eG, (I6 b.a)])]) (xs := List.zip [(⟨b.b, 0, y9, b.a⟩ : LX.Frame)] [eG]) h 263 oq rfl rfl rfl ⟨⟨rfl, Hf⟩, trivial⟩ rfl fun w J9 h Hg Hl => ?_
 have Ue : ∀ b, ob J9 b → XB.heap.size ≤ b := fun b hb => Nat.le_trans uF.size (Hl b hb)
 replace uF := uF.grow Hg
 replace h := h.zl (N := bU) 105 (⟨b.b, 0, y9, b.a⟩ : LX.Frame) rfl rfl
 refine ay (aN uF (bg 4 (by kernel_rfl) rfl aj (aa (aA h 1 rfl iU rfl rfl) (ay (aN uF (bg 7 (by kernel_rfl) rfl aj ?_))))))
 have yH := h.gX 3 rfl
 have AP := h.gX 105 rfl
 have Uf := uF.size
 refine kS (R := bU.raw) (m := List.zip [(⟨b.b, 0, y9, b.a⟩ : LX.Frame)] [eG]) h 2 rfl (h.dG 263 rfl) oq rfl rfl rfl (by rw [dZ yH, dZ AP]; exact F4.1) (by rw [dZ yH, dZ AP]; exact F4.2) fun w vo h Hm Ho => ?_
 have Ug : ∀ b, ob vo b → b < XB.heap.size → ob gV b := fun b hb hl => Ho b hb (Nat.lt_of_lt_of_le hl (uF).size)
 replace uF := aD.step uF Hm (fun _ hx _ => .inl (hx))
 replace h := (h.zi 3 105 rfl rfl (by decide)).fH 263
 rw [zk yH, ← List.map_append] at h
 obtain ⟨AQ, EJ⟩ : ∃ z, z = j6 ++ [eG] := ⟨_, rfl⟩
 rw [← EJ] at h
 refine ay (aN uF (cK 8 uF rfl (by kernel_rfl) (fun w hk => bz rfl) (cK 9 uF rfl (by kernel_rfl) (fun w hk => ag ed rfl) (bg 10 (by kernel_rfl) rfl aj (o7 h 1 [vo, vs1, (I6 sx.status), (I6 sx.aQ)] rfl iU rfl rfl rfl rfl (h.dC 2 rfl).one fun w h Hq => ?_)))))
 replace uF := aD.step uF Hq (fun _ hx _ => .inr (hx))
 refine ay (aN uF (eY (by kernel_rfl) (ak (nG (aa (ae (v := (.bool (true))) rfl) (nR (bR (v := (.bool (true))) Tryz.results90 rfl ?_)))))))
 replace h := h.pair 1 2 (by decide)
 replace h := h.pair 1 3 (by decide)
 replace h := h.pair 1 4 (by decide)
 replace h := h.pair 1 5 (by decide)
 obtain rfl := fI hs
 subst yB
 obtain ⟨o1, o2, o3⟩ := h.o8 1 (C := (cT sb vo vs1 (sx.status) (sx.aQ) (sx.frames ++ [(⟨b.b, 0, y9, b.a⟩ : LX.Frame)]) AQ sx.cells jJ)) rfl ⟨⟨⟨⟨trivial, trivial⟩, trivial⟩, trivial⟩, trivial⟩
 exact ⟨o2, vo, vs1, AQ, jJ, rfl, o1, o3⟩
 refine Gz h 153 iA fun w C9 h Ha Hd => ?_
 have He : ws4.heap.size ≤ C9 := Nat.le_trans hg5.size Hd
 replace hg5 := hg5.trans Ha
 refine ay (kQ hg5 (qH 8 (by kernel_rfl) rfl aj (Aa (R := bJ) (zs := [(I6 0), (I6 0)]) (a := (⟨0, 0⟩ : Val)) h 105 rZ bS rfl (by decide) rfl rfl Su rfl (fun _ _ => rfl) fun w eG h J6 J7 => ?_)))
 have XA : ∀ b, ob eG b → ws4.heap.size ≤ b := fun b hb => Nat.le_trans hg5.size (J7 b hb)
 replace hg5 := hg5.trans J6
 refine ay (kQ hg5 (uK 11 hg5 rfl (by kernel_rfl) (fun w hk => dH (pv := [(0, (I6 b.b)), (2, eG), (3, (I6 b.a))]) (out := [(I6 b.b), (I6 0), eG, (I6 b.a)]) FM rfl ⟨0, 1, [(I6 b.b)], rfl, rfl, rfl, bC rfl, ⟨2, 1, [eG], rfl, (iW (h.dC 105 rfl).one), rfl, bC rfl, ⟨3, 1, [(I6 b.a)], rfl, rfl, rfl, bC rfl, rfl⟩⟩⟩) (qH 13 (by kernel_rfl) rfl aj (zD (vs := [(I6 b.b), (I6 0), eG, (I6 b.a)]) h 153 [(I6 b.b), (I6 0), eG, (I6 b.a)] rfl iA rfl rfl rfl rfl rfl (ai rfl (ai rfl (ai (h.dC 105 rfl).one (ai rfl aT)))) fun w h J8 => ?_))))
 replace hg5 := hg5.fresh J8 (fun x hx => hx ▸ He)
 refine ay (kQ hg5 (ru (by kernel_rfl) (ak (aO (nG (aa (ag xS rfl) (aa (aA h 8 rfl rQ rfl rfl) (aa (bT bZ rfl (h.mM 7 rfl)) (aa (ah (v := (I6 0)) rfl) (nN (aP (fT (σ := Nat × Int × List Val) (inl ([8, 9] ++ rg 31 26)) (fun ⟨Zo, i62, vI⟩ => [(31, (I6 i62))]) (fun ⟨Zo, i62, vI⟩ w => SH w0 M K0 w (hset [(1, .blk sb [gV, vs1, (I6 sx.status), (I6 sx.aQ)]), (2, .own bU.raw 49 gV (List.zip sx.frames j6)), (3, .ib (dB bJ 51 hn j6 (List.map bU.sub sx.frames))), (4, .own (eT Val).raw 47 vs1 (List.zip sx.cells jJ)), (5, .ib (dB bJ 51 hn jJ (List.map (eT Val).sub sx.cells))), (7, .rd dA vb4 b.args), (105, .own bJ 51 eG vI), (153, .blk C9 [(I6 b.b), (I6 0), eG, (I6 b.a)])]) ∧ i62 = (Zo : Int) ∧ fq (J4 sx) (J5 sx b a) i62 (b.args.drop Zo) vI = some r) (fun ⟨Zo, i62, vI⟩ => b.args.length - Zo) ⟨0, 0, (List.replicate DT.regs.toNat (⟨0, 0⟩ : Val))⟩ ⟨rfl, trivial⟩ ?_ ?_))))))))))))
 exact ⟨h.cn _, rfl, hs⟩
 rintro ⟨Zo, i62, vI⟩ w dz ⟨h, hik, hs⟩
 refine nG ?_
 refine aa (dL rfl rfl) (nN ?_)
 refine aO (iw rfl (fun e66 => ?_) (fun e66 => ?_))
 refine aI (ak ?_)
 obtain ⟨qO, e67a, e67b⟩ := gK (hik ▸ e66)
 rw [e67b, ja] at hs
 generalize WU : fq (J4 sx) (J5 sx b a) (i62 + 1) (b.args.drop (Zo + 1)) = Nq at hs
 have e67r := gN ((h.mM 7 rfl)).bW hik e66
 refine aO (aP (nG (aa (ah (v := (I6 i62)) rfl) ?_)))
 obtain ⟨b69, o70, cs71, h, r72, i68⟩ := h.Fw 7 335 rfl bZ rfl (jb hik) (gM hik e67a)
 obtain rfl := r72
 refine aa (i68 _ _ _ _ _ _ _ _ _ rfl rfl) (aa (eU (k := 0) h 335 rfl aU rfl rfl) (aa (ae (v := (I6 i62)) rfl) (aa (ae (v := (I6 qO)) rfl) (nN (sI 20 mixed (by kernel_rfl) h fun w h => aM (ag kT rfl) (aM (aA h 153 rfl lC rfl rfl) (aM (ah (v := (I6 i62)) rfl) (aM (ah (v := (.pointer (some ⟨sb, 0, none⟩))) rfl) (aM (bz rfl) (aM (ag ed rfl) (aM (aA h 1 rfl iU rfl rfl) (aM (ah (v := (.pointer (some ⟨sb, 0, none⟩))) rfl) (aM (bz rfl) (aM (ag ed rfl) (aM (aA h 1 rfl iU rfl rfl) (aM (oo (N := bU) df rfl (h.dG 2 rfl) (h.gX 3 rfl)) ?_))))))))))))))))
 obtain ⟨a73, hs⟩ := bu hs
 refine aM (oO rfl rfl a73) ?_
 obtain ⟨x74, e75, hs⟩ := aJ hs
 obtain ⟨u79, Zj, h⟩ := h.qA 3 336 x74.regs rfl rfl (by decide) (aG e75).2 rfl
 obtain ⟨b77, q78, i76⟩ := h.xL 2 rfl df rfl (aG e75).1 (fw (aG e75).2 Zj)
 refine aM (i76 _ _ _ _ _ _ _ _ _ rfl rfl) (aM (ag kT rfl) ?_)
 obtain ⟨cs81, m82, r83⟩ := h.zV 2 rfl q78 (fw (aG e75).2 Zj)
 obtain ⟨rfl, -⟩ := r83
 refine aM (qa (k := 2) m82 lC rfl rfl) (aM (ah (v := (I6 qO)) rfl) ?_)
 obtain ⟨x84, e85, hs⟩ := aJ hs
 obtain ⟨Sm, q88, i86⟩ := h.xL 336 rfl bH rfl (aG e85).1 (aG e85).2
 refine aM (i86 _ _ _ _ _ _ _ _ _ rfl rfl) ?_
 obtain ⟨cs89, m90, r91⟩ := h.zV 336 rfl q88 (aG e85).2
 obtain rfl := r91
 refine aM (oZ (k := 0) (vs := [(I6 x84.kind), (I6 x84.n)]) m90 bS rfl rfl rfl (bC rfl)) ?_
 obtain ⟨x92, e93, hs⟩ := aJ hs
 obtain ⟨b95, q96, i94⟩ := h.xL 105 rfl bH rfl (aG e93).1 (aG e93).2
 refine aM (i94 _ _ _ _ _ _ _ _ _ rfl rfl) (Ch (zF (a' := x84) (vs := [(I6 x84.kind), (I6 x84.n)]) h 105 rfl q96 rfl (aG e93).2 bS rfl rfl rfl rfl rfl fun w h k97 => ay (ax (ak (aB (aa (dm rfl rfl e67r) (aa (ah (v := (I6 ((i62 + 1)))) rfl) (ay ?_))))))))
 replace h := h.iQ 3 336 rfl rfl (by decide) (aG e75).2 Zj rfl
 refine au ?_
 subst WU
 exact jQ ⟨Zo + 1, i62 + 1, (vI.set (i62).toNat x84)⟩ ⟨h.cn _, by omega, hs⟩ (by have := qE e66; dsimp only; omega)
 rw [gL (hik ▸ e66), nZ] at hs
 refine iT (bK (bK (dU (ak (aO (kL (L := (fun b => ob gV b ∨ b = sb)) mixed h fun w h => bA 0 (aD.refl _ _) rfl aj (by kernel_rfl) (by kernel_rfl) (by kernel_rfl) (fun w hk => ah (v := (.pointer (some ⟨sb, 0, none⟩))) rfl) (bA 1 (aD.refl _ _) rfl aj (by kernel_rfl) (by kernel_rfl) (by kernel_rfl) (fun w hk => ah (v := (.pointer (some ⟨sb, 0, none⟩))) rfl) (bA 2 (aD.refl _ _) rfl aj (by kernel_rfl) (by kernel_rfl) (by kernel_rfl) (fun w hk => bz rfl) (bA 3 (aD.refl _ _) rfl aj (by kernel_rfl) (by kernel_rfl) (by kernel_rfl) (fun w hk => ag ed rfl) (bA 5 (aD.refl _ _) rfl aj (by kernel_rfl) (by kernel_rfl) (by kernel_rfl) (fun w hk => have h := h.Gy 2 1 (by decide) rfl rfl hk; dh (vs := [(I6 b.b), (I6 0), eG, (I6 b.a)]) h 153 rfl iA rfl rfl rfl) ?_))))))))))
 obtain ⟨DU, hs⟩ := bu hs
 obtain ⟨Pf, XC⟩ : ∃ x, x = w := ⟨_, rfl⟩
 have mO : aD (fun b => ob gV b ∨ b = sb) Pf w := XC ▸ aD.refl (fun b => ob gV b ∨ b = sb) w
 refine rU XC.symm (lu 4 6 (by kernel_rfl) rfl aj rfl aj ?_ ?_)
 refine aa (aA h 1 rfl iU rfl rfl) (ay (aN mO (bg 6 (by kernel_rfl) rfl aj ?_)))
 have EK : (Value.oneCell' eG) = true := (h.dC 105 rfl).one
 refine wK (R := bU.raw) (vs := [(.agg #[(I6 b.b), (I6 0), eG, (I6 b.a)])]) (xs := List.zip [(⟨b.b, 0, vI, b.a⟩ : LX.Frame)] [eG]) h 409 oq rfl rfl rfl ⟨⟨rfl, EK⟩, trivial⟩ rfl fun w Hr h EL EM => ?_
 have QX : ∀ b, ob Hr b → Pf.heap.size ≤ b := fun b hb => Nat.le_trans mO.size (EM b hb)
 replace mO := mO.grow EL
 replace h := h.zl (N := bU) 105 (⟨b.b, 0, vI, b.a⟩ : LX.Frame) rfl rfl
 refine ay (aN mO (bg 7 (by kernel_rfl) rfl aj ?_))
 have vV := h.gX 3 rfl
 have yI := h.gX 105 rfl
 have QY := mO.size
 refine kS (R := bU.raw) (m := List.zip [(⟨b.b, 0, vI, b.a⟩ : LX.Frame)] [eG]) h 2 rfl (h.dG 409 rfl) oq rfl rfl rfl (by rw [dZ vV, dZ yI]; exact DU.1) (by rw [dZ vV, dZ yI]; exact DU.2) fun w rH h EN EO => ?_
 have QZ : ∀ b, ob rH b → b < Pf.heap.size → ob gV b := fun b hb hl => EO b hb (Nat.lt_of_lt_of_le hl (mO).size)
 replace mO := aD.step mO EN (fun _ hx _ => .inl (hx))
 replace h := (h.zi 3 105 rfl rfl (by decide)).fH 409
 rw [zk vV, ← List.map_append] at h
 obtain ⟨yJ, Da⟩ : ∃ z, z = j6 ++ [eG] := ⟨_, rfl⟩
 rw [← Da] at h
 refine ay (aN mO (cK 8 mO rfl (by kernel_rfl) (fun w hk => bz rfl) (cK 9 mO rfl (by kernel_rfl) (fun w hk => ag ed rfl) (bg 10 (by kernel_rfl) rfl aj (o7 h 1 [rH, vs1, (I6 sx.status), (I6 sx.aQ)] rfl iU rfl rfl rfl rfl (h.dC 2 rfl).one fun w h EP => ?_)))))
 replace mO := aD.step mO EP (fun _ hx _ => .inr (hx))
 refine ay (aN mO (eY (by kernel_rfl) (ak (nG (aa (ae (v := (.bool (true))) rfl) (nR (bR (v := (.bool (true))) Tryz.results90 rfl ?_)))))))
 replace h := h.pair 1 2 (by decide)
 replace h := h.pair 1 3 (by decide)
 replace h := h.pair 1 4 (by decide)
 replace h := h.pair 1 5 (by decide)
 obtain rfl := fI hs
 subst yB
 obtain ⟨o1, o2, o3⟩ := h.o8 1 (C := (cT sb rH vs1 (sx.status) (sx.aQ) (sx.frames ++ [(⟨b.b, 0, vI, b.a⟩ : LX.Frame)]) yJ sx.cells jJ)) rfl ⟨⟨⟨⟨trivial, trivial⟩, trivial⟩, trivial⟩, trivial⟩
 exact ⟨o2, rH, vs1, yJ, jJ, rfl, o1, o3⟩
 have EK : (Value.oneCell' eG) = true := (h.dC 105 rfl).one
 refine wK (R := bU.raw) (vs := [(.agg #[(I6 b.b), (I6 0), eG, (I6 b.a)])]) (xs := List.zip [(⟨b.b, 0, vI, b.a⟩ : LX.Frame)] [eG]) h 409 oq rfl rfl rfl ⟨⟨rfl, EK⟩, trivial⟩ rfl fun w Hr h EL EM => ?_
 have QX : ∀ b, ob Hr b → Pf.heap.size ≤ b := fun b hb => Nat.le_trans mO.size (EM b hb)
 replace mO := mO.grow EL
 replace h := h.zl (N := bU) 105 (⟨b.b, 0, vI, b.a⟩ : LX.Frame) rfl rfl
 refine ay (aN mO (bg 4 (by kernel_rfl) rfl aj (aa (aA h 1 rfl iU rfl rfl) (ay (aN mO (bg 7 (by kernel_rfl) rfl aj ?_))))))
 have vV := h.gX 3 rfl
 have yI := h.gX 105 rfl
 have QY := mO.size
 refine kS (R := bU.raw) (m := List.zip [(⟨b.b, 0, vI, b.a⟩ : LX.Frame)] [eG]) h 2 rfl (h.dG 409 rfl) oq rfl rfl rfl (by rw [dZ vV, dZ yI]; exact DU.1) (by rw [dZ vV, dZ yI]; exact DU.2) fun w rH h EN EO => ?_
 have QZ : ∀ b, ob rH b → b < Pf.heap.size → ob gV b := fun b hb hl => EO b hb (Nat.lt_of_lt_of_le hl (mO).size)
 replace mO := aD.step mO EN (fun _ hx _ => .inl (hx))
 replace h := (h.zi 3 105 rfl rfl (by decide)).fH 409
 rw [zk vV, ← List.map_append] at h
 obtain ⟨yJ, Da⟩ : ∃ z, z = j6 ++ [eG] := ⟨_, rfl⟩
 rw [← Da] at h
 refine ay (aN mO (cK 8 mO rfl (by kernel_rfl) (fun w hk => bz rfl) (cK 9 mO rfl (by kernel_rfl) (fun w hk => ag ed rfl) (bg 10 (by kernel_rfl) rfl aj (o7 h 1 [rH, vs1, (I6 sx.status), (I6 sx.aQ)] rfl iU rfl rfl rfl rfl (h.dC 2 rfl).one fun w h EP => ?_)))))
 replace mO := aD.step mO EP (fun _ hx _ => .inr (hx))
 refine ay (aN mO (eY (by kernel_rfl) (ak (nG (aa (ae (v := (.bool (true))) rfl) (nR (bR (v := (.bool (true))) Tryz.results90 rfl ?_)))))))
 replace h := h.pair 1 2 (by decide)
 replace h := h.pair 1 3 (by decide)
 replace h := h.pair 1 4 (by decide)
 replace h := h.pair 1 5 (by decide)
 obtain rfl := fI hs
 subst yB
 obtain ⟨o1, o2, o3⟩ := h.o8 1 (C := (cT sb rH vs1 (sx.status) (sx.aQ) (sx.frames ++ [(⟨b.b, 0, vI, b.a⟩ : LX.Frame)]) yJ sx.cells jJ)) rfl ⟨⟨⟨⟨trivial, trivial⟩, trivial⟩, trivial⟩, trivial⟩
 exact ⟨o2, rH, vs1, yJ, jJ, rfl, o1, o3⟩
def NM (sx : LX.State) (a : Val) (b : Int) : Option LX.State :=
  gJ (jI ((sx.frames.length : Int) - 1)) ((sub? sx.frames 0 ((sx.frames.length : Int) - 1)).bind fun x3 => bif decide ((((sx.frames.take (((sx.frames.length : Int) - 1)).toNat).length : Int) : Int) = 0) then some (⟨(sx.frames.take (((sx.frames.length : Int) - 1)).toNat), sx.cells, 1, sx.aQ⟩ : LX.State) else gJ (jI (((sx.frames.take (((sx.frames.length : Int) - 1)).toNat).length : Int) - 1)) ((idx (sx.frames.take (((sx.frames.length : Int) - 1)).toNat) (((sx.frames.take (((sx.frames.length : Int) - 1)).toNat).length : Int) - 1)).bind fun dS => (idx dS.regs b).bind fun zL => some (⟨((sx.frames.take (((sx.frames.length : Int) - 1)).toNat).set ((((sx.frames.take (((sx.frames.length : Int) - 1)).toNat).length : Int) - 1)).toNat ({ dS with regs := (dS.regs.set (b).toNat a) })), sx.cells, sx.status, sx.aQ⟩ : LX.State)))
theorem Uh (w0 : World) (M : BS) (hM : ∀ b, M b → b < w0.heap.size) (sb : Nat) (sx : LX.State) (gV vs1 : Value) (j6 jJ : List Value) (hC : Chunk.holds w0 M (Chunk.own' (cT sb gV vs1 (sx.status) (sx.aQ) sx.frames j6 sx.cells jJ)) (cT sb gV vs1 (sx.status) (sx.aQ) sx.frames j6 sx.cells jJ)) (hap : ∀ b, Chunk.own' (cT sb gV vs1 (sx.status) (sx.aQ) sx.frames j6 sx.cells jJ) b → ¬ M b) (a : Val) (b : Int) (r : LX.State) (hs : NM sx a b = some r) :
    Calls Tryz.prog 91 #[(.pointer (some ⟨sb, 0, none⟩)), (.agg #[(I6 a.kind), (I6 a.n)]), (I6 b)] w0 (fun e w' => aD (Chunk.own' (cT sb gV vs1 (sx.status) (sx.aQ) sx.frames j6 sx.cells jJ)) w0 w' ∧ ∃ zM, ∃ NF, ∃ NG, ∃ NH, e = .returned (.tuple #[]) ∧ Chunk.holds w' M (Chunk.own' (cT sb zM NF r.status r.aQ r.frames NG r.cells NH)) (cT sb zM NF r.status r.aQ r.frames NG r.cells NH) ∧ (∀ b, Chunk.own' (cT sb zM NF r.status r.aQ r.frames NG r.cells NH) b → b < w0.heap.size → Chunk.own' (cT sb gV vs1 (sx.status) (sx.aQ) sx.frames j6 sx.cells jJ) b)) := by
 refine aL (args := [(.pointer (some ⟨sb, 0, none⟩)), (.agg #[(I6 a.kind), (I6 a.n)]), (I6 b)]) Tryz.func91 rfl Tryz.ntmps91 (bC rfl) ?_
 have h := SH.Ci hM hC hap
 generalize yB : (cT sb gV vs1 (sx.status) (sx.aQ) sx.frames j6 sx.cells jJ).own' = K0 at h
 replace h := h.bN 1 5 (by decide) rfl rfl
 replace h := h.bN 1 4 (by decide) rfl rfl
 replace h := h.bN 1 3 (by decide) rfl rfl
 replace h := h.bN 1 2 (by decide) rfl rfl
 refine nG (oP (cs := [(I6 a.kind), (I6 a.n)]) h 6 rfl rfl fun w b1 h => nN (aO (sI 14 mixed (by kernel_rfl) h fun w h => aM (ah (v := (.pointer (some ⟨sb, 0, none⟩))) rfl) (aM (ah (v := (.pointer (some ⟨sb, 0, none⟩))) rfl) (aM (bz rfl) (aM (ag ed rfl) (aM (aA h 1 rfl iU rfl rfl) (aM (ah (v := (.pointer (some ⟨sb, 0, none⟩))) rfl) (aM (bz rfl) (aM (ag ed rfl) (aM (aA h 1 rfl iU rfl rfl) (aM (oo (N := bU) df rfl (h.dG 2 rfl) (h.gX 3 rfl)) ?_))))))))))))
 obtain ⟨a2, hs⟩ := bu hs
 refine aM (oO rfl rfl a2) ?_
 obtain ⟨x3, e4, hs⟩ := aJ hs
 obtain ⟨e7, e7a, e7b, e7c⟩ := Oe e4
 have us8z := h.gX 3 rfl
 obtain ⟨u5, h, i6⟩ := h.cutO 2 rfl df rfl e7b (by rw [dZ us8z]; exact e7c)
 rw [Tn] at h
 rw [dZ us8z] at i6
 replace h := h.YG 3 (((sx.frames.length : Int) - 1)).toNat rfl
 generalize List.take (((sx.frames.length : Int) - 1)).toNat j6 = us8 at h
 refine aM (i6 _ _ _ _ _ _ _ _ _ _ rfl (.inl ⟨rfl, rfl⟩) (.inr (congrArg some rfl))) (aM (bz rfl) (aM (ag ed rfl) (Ch (eH h 1 [u5, vs1, (I6 sx.status), (I6 sx.aQ)] rfl iU rfl rfl rfl rfl (h.dC 2 rfl).one fun w h => nK (aa (ah (v := (.pointer (some ⟨sb, 0, none⟩))) rfl) (aa (bz rfl) (aa (ag ed rfl) (aa (aA h 1 rfl iU rfl rfl) (aa (oo (N := bU) df rfl (h.dG 2 rfl) (h.gX 3 rfl)) (aa (bD rfl rfl) (nN (aH hs rfl (fun c9 hs => ?_) (fun c9 hs => ?_)))))))))))))
 refine nG (aa (ah (v := (.pointer (some ⟨sb, 0, none⟩))) rfl) (aa (bz rfl) (aa (ag nV rfl) (eH h 1 [u5, vs1, (I6 1), (I6 sx.aQ)] rfl aU rfl rfl rfl rfl rfl fun w h => nR (az (fin0 Tryz.results91 ?_))))))
 replace h := h.pair 1 2 (by decide)
 replace h := h.pair 1 3 (by decide)
 replace h := h.pair 1 4 (by decide)
 replace h := h.pair 1 5 (by decide)
 obtain rfl := fI hs
 subst yB
 obtain ⟨o1, o2, o3⟩ := h.o8 1 (C := (cT sb u5 vs1 (1) (sx.aQ) (sx.frames.take (((sx.frames.length : Int) - 1)).toNat) us8 sx.cells jJ)) rfl ⟨⟨⟨⟨trivial, trivial⟩, trivial⟩, trivial⟩, trivial⟩
 exact ⟨o2, u5, vs1, us8, jJ, rfl, o1, o3⟩
 refine aI (ak (sI 16 mixed (by kernel_rfl) h fun w h => aM (ah (v := (.pointer (some ⟨sb, 0, none⟩))) rfl) (aM (bz rfl) (aM (ag ed rfl) (aM (aA h 1 rfl iU rfl rfl) (aM (ah (v := (.pointer (some ⟨sb, 0, none⟩))) rfl) (aM (bz rfl) (aM (ag ed rfl) (aM (aA h 1 rfl iU rfl rfl) (aM (oo (N := bU) df rfl (h.dG 2 rfl) (h.gX 3 rfl)) ?_))))))))))
 obtain ⟨a10, hs⟩ := bu hs
 refine aM (oO rfl rfl a10) ?_
 obtain ⟨dS, e12, hs⟩ := aJ hs
 obtain ⟨u16, e17, h⟩ := h.qA 3 8 dS.regs rfl rfl (by decide) (aG e12).2 rfl
 obtain ⟨b14, q15, i13⟩ := h.xL 2 rfl df rfl (aG e12).1 (fw (aG e12).2 e17)
 refine aM (i13 _ _ _ _ _ _ _ _ _ rfl rfl) (aM (ag kT rfl) ?_)
 obtain ⟨cs18, m19, TF⟩ := h.zV 2 rfl q15 (fw (aG e12).2 e17)
 obtain ⟨rfl, -⟩ := TF
 refine aM (qa (k := 2) m19 lC rfl rfl) (aM (ah (v := (I6 b)) rfl) (aM (dh (vs := [(I6 a.kind), (I6 a.n)]) h 6 rfl bS rfl rfl rfl) ?_))
 obtain ⟨zL, e22, hs⟩ := aJ hs
 obtain ⟨b24, q25, i23⟩ := h.xL 8 rfl bH rfl (aG e22).1 (aG e22).2
 refine aM (i23 _ _ _ _ _ _ _ _ _ rfl rfl) (Ch (zF (a' := a) (vs := [(I6 a.kind), (I6 a.n)]) h 8 rfl q25 rfl (aG e22).2 bS rfl rfl rfl rfl rfl fun w h k26 => ay (Lg Tryz.results91 ?_)))
 replace h := h.sM 2 3 8 ({ dS with regs := (dS.regs.set (b).toNat a) }) rfl rfl rfl (by decide) (by decide) (by decide) (aG e12).2 e17 rfl
 replace h := h.pair 1 2 (by decide)
 replace h := h.pair 1 3 (by decide)
 replace h := h.pair 1 4 (by decide)
 replace h := h.pair 1 5 (by decide)
 obtain rfl := fI hs
 subst yB
 obtain ⟨o1, o2, o3⟩ := h.o8 1 (C := (cT sb u5 vs1 (sx.status) (sx.aQ) ((sx.frames.take (((sx.frames.length : Int) - 1)).toNat).set ((((sx.frames.take (((sx.frames.length : Int) - 1)).toNat).length : Int) - 1)).toNat ({ dS with regs := (dS.regs.set (b).toNat a) })) us8 sx.cells jJ)) rfl ⟨⟨⟨⟨trivial, trivial⟩, trivial⟩, trivial⟩, trivial⟩
 exact ⟨o2, u5, vs1, us8, jJ, rfl, o1, o3⟩
def kJ (y31 : Bool) (y34 : List LX.Frame) (Db : List (List Val)) (y38 : Int) (y39 : Int) : Option (Et × Bool × LX.State) :=
  some ((⟨false, 0, y31⟩ : Et), true, (⟨y34, Db, y38, y39⟩ : LX.State))
def BZ (sx : LX.State) (qO : Bool) (K6 : List LX.Frame) : Option (Et × Bool × LX.State) :=
  some ((⟨false, 0, false⟩ : Et), qO, (⟨K6, sx.cells, sx.status, sx.aQ⟩ : LX.State))
def jd (N : Nat) (sx : LX.State) (x3 : LX.Frame) (aX : bQ) (aK : Ins) (a : List bQ) (x73 : Bool) : Option (Et × Bool × LX.State) :=
  bif x73 then (FZ (⟨(sx.frames.set (((sx.frames.length : Int) - 1)).toNat ({ x3 with at_ := (min (x3.at_ + 1) ((aX.code.length : Int) - 1)) })), sx.cells, sx.status, sx.aQ⟩ : LX.State) aK ((sx.frames.length : Int) - 1) ({ x3 with at_ := (min (x3.at_ + 1) ((aX.code.length : Int) - 1)) })).bind fun iI => some ((⟨false, 0, false⟩ : Et), iI.1, iI.2) else bif decide ((aK.op : Int) = 5) then (J2 N (⟨(sx.frames.set (((sx.frames.length : Int) - 1)).toNat ({ x3 with at_ := (min (x3.at_ + 1) ((aX.code.length : Int) - 1)) })), sx.cells, sx.status, sx.aQ⟩ : LX.State) aK).bind fun iJ => some ((⟨false, 0, false⟩ : Et), iJ.1, iJ.2) else bif decide ((aK.op : Int) = 7) then (NL (⟨(sx.frames.set (((sx.frames.length : Int) - 1)).toNat ({ x3 with at_ := (min (x3.at_ + 1) ((aX.code.length : Int) - 1)) })), sx.cells, sx.status, sx.aQ⟩ : LX.State) a aK).bind fun fZ => some ((⟨false, 0, false⟩ : Et), fZ.1, fZ.2) else bif decide ((aK.op : Int) = 8) then (idx x3.regs aK.a).bind fun XD => (NM (⟨(sx.frames.set (((sx.frames.length : Int) - 1)).toNat ({ x3 with at_ := (min (x3.at_ + 1) ((aX.code.length : Int) - 1)) })), sx.cells, sx.status, sx.aQ⟩ : LX.State) XD x3.kP).bind fun Ht => kJ false Ht.frames Ht.cells Ht.status Ht.aQ else bif decide ((aK.op : Int) = 9) then (idx x3.regs aK.a).bind fun oJ => some ((⟨true, oJ.n, false⟩ : Et), decide ((oJ.kind : Int) = 1), (⟨(sx.frames.set (((sx.frames.length : Int) - 1)).toNat ({ x3 with at_ := (min (x3.at_ + 1) ((aX.code.length : Int) - 1)) })), sx.cells, sx.status, sx.aQ⟩ : LX.State)) else bif decide ((aK.op : Int) = 10) then kJ true (sx.frames.set (((sx.frames.length : Int) - 1)).toNat ({ x3 with at_ := (min (x3.at_ + 1) ((aX.code.length : Int) - 1)) })) sx.cells sx.status sx.aQ else bif decide ((aK.op : Int) = 11) then (idx x3.regs aK.a).bind fun XE => bif decide ((XE.kind : Int) ≠ 1) then some ((⟨false, 0, false⟩ : Et), false, (⟨(sx.frames.set (((sx.frames.length : Int) - 1)).toNat ({ x3 with at_ := (min (x3.at_ + 1) ((aX.code.length : Int) - 1)) })), sx.cells, sx.status, sx.aQ⟩ : LX.State)) else kJ true (sx.frames.set (((sx.frames.length : Int) - 1)).toNat ({ x3 with at_ := (min (x3.at_ + 1) ((aX.code.length : Int) - 1)) })) sx.cells 3 XE.n else bif decide ((aK.op : Int) = 12) then kJ false ((sx.frames.set (((sx.frames.length : Int) - 1)).toNat ({ x3 with at_ := (min (x3.at_ + 1) ((aX.code.length : Int) - 1)) })).set (((sx.frames.length : Int) - 1)).toNat ({ x3 with at_ := aK.b })) sx.cells sx.status sx.aQ else bif decide ((aK.op : Int) = 13) then (idx x3.regs aK.a).bind fun ER => bif (decide ((ER.kind : Int) = 0) || (decide ((ER.kind : Int) = 1) && decide ((ER.n : Int) = 0))) then kJ false ((sx.frames.set (((sx.frames.length : Int) - 1)).toNat ({ x3 with at_ := (min (x3.at_ + 1) ((aX.code.length : Int) - 1)) })).set (((sx.frames.length : Int) - 1)).toNat ({ x3 with at_ := aK.b })) sx.cells sx.status sx.aQ else kJ false (sx.frames.set (((sx.frames.length : Int) - 1)).toNat ({ x3 with at_ := (min (x3.at_ + 1) ((aX.code.length : Int) - 1)) })) sx.cells sx.status sx.aQ else kJ false (sx.frames.set (((sx.frames.length : Int) - 1)).toNat ({ x3 with at_ := (min (x3.at_ + 1) ((aX.code.length : Int) - 1)) })) sx.cells sx.status sx.aQ
def pX (N : Nat) (sx : LX.State) (a : List bQ) : Option (Et × Bool × LX.State) :=
  gJ (jI ((sx.frames.length : Int) - 1)) ((idx sx.frames ((sx.frames.length : Int) - 1)).bind fun x3 => (idx a x3.proc).bind fun aX => (idx aX.code x3.at_).bind fun aK => gJ (jI (x3.at_ + 1)) (gJ (jI ((aX.code.length : Int) - 1)) (bif decide ((aK.op : Int) = 1) then (idx x3.regs aK.a).bind fun x41 => kJ false ((sx.frames.set (((sx.frames.length : Int) - 1)).toNat ({ x3 with at_ := (min (x3.at_ + 1) ((aX.code.length : Int) - 1)) })).set (((sx.frames.length : Int) - 1)).toNat ({ x3 with at_ := (min (x3.at_ + 1) ((aX.code.length : Int) - 1)), regs := (x3.regs.set (aK.a).toNat (⟨1, aK.b⟩ : Val)) })) sx.cells sx.status sx.aQ else bif decide ((aK.op : Int) = 2) then (idx x3.regs aK.b).bind fun XF => (idx x3.regs aK.a).bind fun x56 => kJ false ((sx.frames.set (((sx.frames.length : Int) - 1)).toNat ({ x3 with at_ := (min (x3.at_ + 1) ((aX.code.length : Int) - 1)) })).set (((sx.frames.length : Int) - 1)).toNat ({ x3 with at_ := (min (x3.at_ + 1) ((aX.code.length : Int) - 1)), regs := (x3.regs.set (aK.a).toNat XF) })) sx.cells sx.status sx.aQ else bif decide ((aK.op : Int) = 3) then (idx aK.args 0).bind fun F5 => (idx x3.regs aK.b).bind fun um => (idx x3.regs aK.c).bind fun uo => (O6 F5 um uo).bind fun gm => (idx x3.regs aK.a).bind fun Ui => BZ sx gm.2 ((sx.frames.set (((sx.frames.length : Int) - 1)).toNat ({ x3 with at_ := (min (x3.at_ + 1) ((aX.code.length : Int) - 1)) })).set (((sx.frames.length : Int) - 1)).toNat ({ x3 with at_ := (min (x3.at_ + 1) ((aX.code.length : Int) - 1)), regs := (x3.regs.set (aK.a).toNat gm.1) })) else bif decide ((aK.op : Int) = 4) then jd N sx x3 aX aK a (decide ((aK.op : Int) = 4)) else jd N sx x3 aX aK a (decide ((aK.op : Int) = 6)))))
end
end Go.Proofs.YtfclkapelkhlpaaGreatDoor
