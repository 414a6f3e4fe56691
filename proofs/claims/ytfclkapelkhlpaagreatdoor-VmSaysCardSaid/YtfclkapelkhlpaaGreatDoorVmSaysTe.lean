/-
  What the law VmSays needs of our own library and of the walks, no more.
-/
import Derived.Test.YtfclkapelkhlpaaGreatDoorProg
import Derived.Test.YtfclkapelkhlpaaGreatDoorVmSaysTd
set_option linter.unusedSimpArgs false
set_option linter.unusedVariables false
set_option maxRecDepth 10000
namespace Go.Proofs.YtfclkapelkhlpaaGreatDoor
open Go Go.Proofs Go.LX
noncomputable section
theorem V8 (w0 : World) (M : BS) (hM : ∀ b, M b → b < w0.heap.size) (a : Int) (b : Val) (c : Val) (r : Val × Bool) (hs : R8 a b c = some r) :
    Calls Tryz.prog 87 #[(I6 a), (.agg #[(I6 b.kind), (I6 b.n)]), (.agg #[(I6 c.kind), (I6 c.n)])] w0 (fun e w' => Grow w0 w' ∧ e = .returned (.tuple #[.agg #[.int .i64 r.1.kind, .int .i64 r.1.n], .bool r.2])) := by
 refine aQ (args := [(I6 a), (.agg #[(I6 b.kind), (I6 b.n)]), (.agg #[(I6 c.kind), (I6 c.n)])]) Tryz.func87 rfl Tryz.ntmps87 (bD rfl) ?_
 have h := SH.init hM
 refine nG (kM (cs := [(I6 b.kind), (I6 b.n)]) h 1 rfl rfl fun w b1 h => kM (cs := [(I6 c.kind), (I6 c.n)]) h 2 rfl rfl fun w b2 h => bI h 3 aY fun w b3 h => aa (ae (v := (.bool (false))) rfl) (nJ (aa (ae (v := (.func (.func 117) #[] #[])) rfl) (nK (aa (ah (v := (I6 a)) rfl) (aa (bu rfl rfl) (nN (aI hs rfl (fun c4 hs => ?_) (fun c4 hs => ?_)))))))))
 refine nG (aa (ah (v := (.func (.func 117) #[] #[])) rfl) (aa (bU (vs := [(I6 b.kind), (I6 b.n)]) h 1 rfl aY rfl rfl rfl) (aa (bU (vs := [(I6 c.kind), (I6 c.n)]) h 2 rfl aY rfl rfl rfl) (aa (Zg Qu rfl rfl) (jY (args := [(.bool ((decide (b.kind = c.kind) && decide (b.n = c.n))))]) VW rfl rfl (aQ (args := [(.bool ((decide (b.kind = c.kind) && decide (b.n = c.n))))]) Tryz.func117 rfl Tryz.ntmps117 (bD rfl) (nG (bI h 4 aY fun w b5 h => aa (ae (v := (.bool (false))) rfl) (nK (aa (ah (v := (.bool ((decide (b.kind = c.kind) && decide (b.n = c.n))))) rfl) (nN (aI hs rfl (fun c6 hs => ?_) (fun c6 hs => ?_)))))))))))))
 refine nG (aa (fe (pv := [(0, (I6 1)), (1, (I6 1))]) (out := [(I6 1), (I6 1)]) qV rfl ⟨0, 1, [(I6 1)], rfl, rfl, rfl, bD rfl, ⟨1, 1, [(I6 1)], rfl, rfl, rfl, bD rfl, rfl⟩⟩) (dK (vs := [(I6 1), (I6 1)]) h 4 [(I6 1), (I6 1)] rfl aY rfl rfl rfl rfl rfl (ai rfl (ai rfl aS)) fun w h => aa (ae (v := (.bool (true))) rfl) (nR (ay (lV (vs := [(I6 1), (I6 1)]) (v2 := (.bool (true))) Tryz.results117 rfl rfl h 4 rfl aY rfl (⟨_, rfl, ?_⟩))))))
 refine aa (bg rfl rfl) (aa (bg rfl rfl) (dK (vs := [(I6 1), (I6 1)]) h 3 [(I6 1), (I6 1)] rfl aY rfl rfl rfl rfl rfl (ai rfl (ai rfl aS)) fun w h => aa (ae (v := (.bool (true))) rfl) (nR (ay (lV (vs := [(I6 1), (I6 1)]) (v2 := (.bool (true))) Tryz.results87 rfl rfl h 3 rfl aY rfl ?_)))))
 obtain rfl := fM hs
 exact ⟨h.grown, rfl⟩
 refine nS (aa (fe (pv := [(0, (I6 1))]) (out := [(I6 1), (I6 0)]) qV rfl ⟨0, 1, [(I6 1)], rfl, rfl, rfl, bD rfl, rfl⟩) (dK (vs := [(I6 1), (I6 0)]) h 4 [(I6 1), (I6 0)] rfl aY rfl rfl rfl rfl rfl (ai rfl (ai rfl aS)) fun w h => aa (ae (v := (.bool (true))) rfl) (nR (lV (vs := [(I6 1), (I6 0)]) (v2 := (.bool (true))) Tryz.results117 rfl rfl h 4 rfl aY rfl (⟨_, rfl, ?_⟩)))))
 refine aa (bg rfl rfl) (aa (bg rfl rfl) (dK (vs := [(I6 1), (I6 0)]) h 3 [(I6 1), (I6 0)] rfl aY rfl rfl rfl rfl rfl (ai rfl (ai rfl aS)) fun w h => aa (ae (v := (.bool (true))) rfl) (nR (ay (lV (vs := [(I6 1), (I6 0)]) (v2 := (.bool (true))) Tryz.results87 rfl rfl h 3 rfl aY rfl ?_)))))
 obtain rfl := fM hs
 exact ⟨h.grown, rfl⟩
 refine aH (ak (aM (nG (aa (ag lJ rfl) (aa (az h 1 rfl aR rfl rfl) (aa (gM rfl rfl) (aa (ah (v := (.bool (decide ((b.kind : Int) ≠ 1)))) rfl) (aF rfl rfl (fun q => ag lJ rfl) (aF rfl rfl (fun q => az h 2 rfl aR (eu q) rfl) (aF rfl rfl (fun q => gM (eu q) rfl) (aa (jD rfl rfl mY) (nN (aI hs rfl (fun c7 hs => ?_) (fun c7 hs => ?_))))))))))))))
 refine nG (aa (fe (pv := []) (out := [(I6 0), (I6 0)]) qV rfl rfl) (dK (vs := [(I6 0), (I6 0)]) h 3 [(I6 0), (I6 0)] rfl aY rfl rfl rfl rfl rfl (ai rfl (ai rfl aS)) fun w h => aa (ae (v := (.bool (false))) rfl) (nR (ay (lV (vs := [(I6 0), (I6 0)]) (v2 := (.bool (false))) Tryz.results87 rfl rfl h 3 rfl aY rfl ?_)))))
 obtain rfl := fM hs
 exact ⟨h.grown, rfl⟩
 refine nS (aa (ae (v := (I6 0)) rfl) (nN (cu (σ := Int) (inl ([7, 9] ++ rg 28 33)) (fun x8 => [(9, (I6 x8))]) (fun x8 w => SH w0 M BE w (hset [(3, .blk b3 [(I6 0), (I6 0)])]) ∧ Dn x8 = some r) ?_ ?_)))
 rintro x8 w dR ⟨h, hs⟩
 refine nG (aa (ah (v := (I6 x8)) rfl) (aa (fe (pv := [(0, (I6 1)), (1, (I6 x8))]) (out := [(I6 1), (I6 x8)]) qV rfl ⟨0, 1, [(I6 1)], rfl, rfl, rfl, bD rfl, ⟨1, 1, [(I6 x8)], rfl, rfl, rfl, bD rfl, rfl⟩⟩) (aa (ah (v := (I6 x8)) rfl) (aa (rH rfl rfl) (aa (ah (v := (.bool (decide ((-1000000000 : Int) ≤ x8)))) rfl) (aF rfl rfl (fun q => ah (v := (I6 x8)) rfl) (aF rfl rfl (fun q => II (eu q) rfl) (aa (fZ rfl rfl mY) (dK (vs := [(I6 1), (I6 x8)]) h 3 [(I6 1), (I6 x8)] rfl aY rfl rfl rfl rfl rfl (ai rfl (ai rfl aS)) fun w h => aa (ae (v := (.bool ((decide ((-1000000000 : Int) ≤ x8) && decide ((x8 : Int) ≤ 1000000000))))) rfl) (nR (lV (vs := [(I6 1), (I6 x8)]) (v2 := (.bool ((decide ((-1000000000 : Int) ≤ x8) && decide ((x8 : Int) ≤ 1000000000))))) Tryz.results87 rfl rfl h 3 rfl aY rfl ?_)))))))))))
 obtain rfl := fM hs
 exact ⟨h.grown, rfl⟩
 refine nG (aa (ah (v := (I6 a)) rfl) (nN (aN (nG (aa (bu rfl rfl) (aa (ae (v := (.bool (decide ((a : Int) = 1)))) rfl) (nN (aI hs rfl (fun c9 hs => ?_) (fun c9 hs => ?_)))))))))
 refine aD (aa (ag fu rfl) (aa (az h 1 rfl aR rfl rfl) (aa (ag fu rfl) (aa (az h 2 rfl aR rfl rfl) ?_))))
 obtain ⟨a10, hs⟩ := bG hs
 refine aa (dQ rfl rfl a10) (aa (ae (v := (I6 ((b.n + c.n)))) rfl) (aA (ax (au ?_))))
 exact bS (b.n + c.n) ⟨h.cn _, hs⟩
 refine nG (aa (bu rfl rfl) (aa (ae (v := (.bool (decide ((a : Int) = 2)))) rfl) (nN (aI hs rfl (fun c11 hs => ?_) (fun c11 hs => ?_)))))
 refine aD (aa (ag fu rfl) (aa (az h 1 rfl aR rfl rfl) (aa (ag fu rfl) (aa (az h 2 rfl aR rfl rfl) ?_))))
 obtain ⟨a12, hs⟩ := bG hs
 refine aa (oh rfl rfl a12) (aa (ae (v := (I6 ((b.n - c.n)))) rfl) (aA (ax (au ?_))))
 exact bS (b.n - c.n) ⟨h.cn _, hs⟩
 refine nG (aa (bu rfl rfl) (aa (ae (v := (.bool (decide ((a : Int) = 3)))) rfl) (nN (aI hs rfl (fun c13 hs => ?_) (fun c13 hs => ?_)))))
 refine aD (aa (ag fu rfl) (aa (az h 1 rfl aR rfl rfl) (aa (ag fu rfl) (aa (az h 2 rfl aR rfl rfl) ?_))))
 obtain ⟨a14, hs⟩ := bG hs
 refine aa (r_mul rfl rfl a14) (aa (ae (v := (I6 ((b.n * c.n)))) rfl) (aA (ax (au ?_))))
 exact bS (b.n * c.n) ⟨h.cn _, hs⟩
 refine nG (aa (bu rfl rfl) (aa (ae (v := (.bool (decide ((a : Int) = 4)))) rfl) (nN (aI hs rfl (fun c15 hs => ?_) (fun c15 hs => ?_)))))
 refine nG (aa (ah (v := (.func (.func 117) #[] #[])) rfl) (aa (ag fu rfl) (aa (az h 1 rfl aR rfl rfl) (aa (ag fu rfl) (aa (az h 2 rfl aR rfl rfl) (aa (eO rfl rfl) (jY (args := [(.bool (decide ((b.n : Int) < c.n)))]) VW rfl rfl (aQ (args := [(.bool (decide ((b.n : Int) < c.n)))]) Tryz.func117 rfl Tryz.ntmps117 (bD rfl) (nG (bI h 5 aY fun w b16 h => aa (ae (v := (.bool (false))) rfl) (nK (aa (ah (v := (.bool (decide ((b.n : Int) < c.n)))) rfl) (nN (aI hs rfl (fun c17 hs => ?_) (fun c17 hs => ?_)))))))))))))))
 refine nG (aa (fe (pv := [(0, (I6 1)), (1, (I6 1))]) (out := [(I6 1), (I6 1)]) qV rfl ⟨0, 1, [(I6 1)], rfl, rfl, rfl, bD rfl, ⟨1, 1, [(I6 1)], rfl, rfl, rfl, bD rfl, rfl⟩⟩) (dK (vs := [(I6 1), (I6 1)]) h 5 [(I6 1), (I6 1)] rfl aY rfl rfl rfl rfl rfl (ai rfl (ai rfl aS)) fun w h => aa (ae (v := (.bool (true))) rfl) (nR (ay (lV (vs := [(I6 1), (I6 1)]) (v2 := (.bool (true))) Tryz.results117 rfl rfl h 5 rfl aY rfl (⟨_, rfl, ?_⟩))))))
 refine aa (bg rfl rfl) (aa (bg rfl rfl) (dK (vs := [(I6 1), (I6 1)]) h 3 [(I6 1), (I6 1)] rfl aY rfl rfl rfl rfl rfl (ai rfl (ai rfl aS)) fun w h => aa (ae (v := (.bool (true))) rfl) (nR (aB (ay (lV (vs := [(I6 1), (I6 1)]) (v2 := (.bool (true))) Tryz.results87 rfl rfl h 3 rfl aY rfl ?_))))))
 obtain rfl := fM hs
 exact ⟨h.grown, rfl⟩
 refine nS (aa (fe (pv := [(0, (I6 1))]) (out := [(I6 1), (I6 0)]) qV rfl ⟨0, 1, [(I6 1)], rfl, rfl, rfl, bD rfl, rfl⟩) (dK (vs := [(I6 1), (I6 0)]) h 5 [(I6 1), (I6 0)] rfl aY rfl rfl rfl rfl rfl (ai rfl (ai rfl aS)) fun w h => aa (ae (v := (.bool (true))) rfl) (nR (lV (vs := [(I6 1), (I6 0)]) (v2 := (.bool (true))) Tryz.results117 rfl rfl h 5 rfl aY rfl (⟨_, rfl, ?_⟩)))))
 refine aa (bg rfl rfl) (aa (bg rfl rfl) (dK (vs := [(I6 1), (I6 0)]) h 3 [(I6 1), (I6 0)] rfl aY rfl rfl rfl rfl rfl (ai rfl (ai rfl aS)) fun w h => aa (ae (v := (.bool (true))) rfl) (nR (aB (ay (lV (vs := [(I6 1), (I6 0)]) (v2 := (.bool (true))) Tryz.results87 rfl rfl h 3 rfl aY rfl ?_))))))
 obtain rfl := fM hs
 exact ⟨h.grown, rfl⟩
 refine aH (ax (au ?_))
 exact bS 0 ⟨h.cn _, hs⟩
def zN (sx : LX.State) (a : Ins) (x5 : Val) (xb : LX.Frame) (kb : Int) (Lc : Bool) : Option (Bool × LX.State) :=
  bif Lc then some (false, sx) else bif decide ((a.op : Int) = 6) then (idx sx.cells x5.n).bind fun rJ => (idx xb.regs a.b).bind fun x27 => (idx rJ a.c).bind fun CF => some (true, (⟨sx.frames, (sx.cells.set (x5.n).toNat (rJ.set (a.c).toNat x27)), sx.status, sx.aK⟩ : LX.State)) else (idx sx.cells x5.n).bind fun x41 => (idx x41 a.c).bind fun QM => (idx xb.regs a.a).bind fun x59 => some (true, (⟨(sx.frames.set (kb).toNat ({ xb with regs := (xb.regs.set (a.a).toNat QM) })), sx.cells, sx.status, sx.aK⟩ : LX.State))
def zO (xb : LX.Frame) (sx : LX.State) (a : Ins) (kb : Int) (x4 : Int) : Option (Bool × LX.State) :=
  (idx xb.regs x4).bind fun x5 => bif decide ((x5.kind : Int) ≠ 2) then zN sx a x5 xb kb true else (idx sx.cells x5.n).bind fun x66 => zN sx a x5 xb kb (decide (((x66.length : Int) : Int) ≤ a.c))
def Jd (sx : LX.State) (a : Ins) (kb : Int) (xb : LX.Frame) : Option (Bool × LX.State) :=
  bif decide ((a.op : Int) = 6) then zO xb sx a kb a.a else zO xb sx a kb a.b
theorem M6 (w0 : World) (M : BS) (hM : ∀ b, M b → b < w0.heap.size) (sb : Nat) (sx : LX.State) (iA vs1 : Value) (iW iI : List Value) (hC : Chunk.holds w0 M (Chunk.own' (cT sb iA vs1 (sx.status) (sx.aK) sx.frames iW sx.cells iI)) (cT sb iA vs1 (sx.status) (sx.aK) sx.frames iW sx.cells iI)) (hap : ∀ b, Chunk.own' (cT sb iA vs1 (sx.status) (sx.aK) sx.frames iW sx.cells iI) b → ¬ M b) (a : Ins) (AX : Value) (ha4 : iL eY w0 (fun b => M b ∨ (cT sb iA vs1 (sx.status) (sx.aK) sx.frames iW sx.cells iI).own' b) AX a.args) (kb : Int) (xb : LX.Frame) (gb : 0 ≤ kb) (eb : sx.frames[kb.toNat]? = some xb) (vb : Value) (hb : iW[kb.toNat]? = some vb) (r : Bool × LX.State) (hs : Jd sx a kb xb = some r) :
    Calls Tryz.prog 88 #[(.pointer (some ⟨sb, 0, none⟩)), (.agg #[(I6 a.op), (I6 a.a), (I6 a.b), (I6 a.c), AX]), vb] w0 (fun e w' => aP (Chunk.own' (cT sb iA vs1 (sx.status) (sx.aK) sx.frames iW sx.cells iI)) w0 w' ∧ ∃ Ma, ∃ Mc, ∃ Md, ∃ Me, e = .returned (.bool r.1) ∧ Chunk.holds w' M (Chunk.own' (cT sb Ma Mc r.2.status r.2.aK r.2.frames Md r.2.cells Me)) (cT sb Ma Mc r.2.status r.2.aK r.2.frames Md r.2.cells Me) ∧ (∀ b, Chunk.own' (cT sb Ma Mc r.2.status r.2.aK r.2.frames Md r.2.cells Me) b → b < w0.heap.size → Chunk.own' (cT sb iA vs1 (sx.status) (sx.aK) sx.frames iW sx.cells iI) b)) := by
 refine aQ (args := [(.pointer (some ⟨sb, 0, none⟩)), (.agg #[(I6 a.op), (I6 a.a), (I6 a.b), (I6 a.c), AX]), vb]) Tryz.func88 rfl Tryz.ntmps88 (bD rfl) ?_
 have h := SH.IQ hM hC hap
 replace h := h.E5 6 ha4 D6
 generalize wE : (cT sb iA vs1 (sx.status) (sx.aK) sx.frames iW sx.cells iI).own' = K0 at h
 replace h := h.cK 1 5 (by decide) rfl rfl
 replace h := h.cK 1 4 (by decide) rfl rfl
 replace h := h.cK 1 3 (by decide) rfl rfl
 replace h := h.cK 1 2 (by decide) rfl rfl
 obtain ⟨u1, e2, h⟩ := h.mq 3 7 xb.regs rfl rfl (by decide) eb rfl
 obtain rfl : vb = u1 := fM (hb.symm.trans e2)
 refine nG (kM (cs := [(I6 a.op), (I6 a.a), (I6 a.b), (I6 a.c), AX]) h 8 rfl rfl fun w b3 h => aa (ae (v := (.bool (false))) rfl) (nJ (aa (ag gN rfl) (aa (az h 8 rfl aR rfl rfl) (aa (ae (v := (I6 a.b)) rfl) (nN (cu (σ := Int) (inl [7, 11, 12, 13, 14, 15]) (fun x4 => [(7, (I6 x4))]) (fun x4 w => SH w0 M K0 w (hset [(1, .blk sb [iA, vs1, (I6 sx.status), (I6 sx.aK)]), (2, .own bB.raw 49 iA (List.zip sx.frames iW)), (3, .iJ (ek bz 51 (hat (kb).toNat) iW (List.map bB.sub sx.frames))), (4, .own (eD Val).raw 47 vs1 (List.zip sx.cells iI)), (5, .iJ (ek bz 51 hn iI (List.map (eD Val).sub sx.cells))), (6, .rd eY AX a.args), (7, .own bz 51 vb xb.regs), (8, .blk b3 [(I6 a.op), (I6 a.a), (I6 a.b), (I6 a.c), AX])]) ∧ zO xb sx a kb x4 = some r) ?_ ?_)))))))
 rintro x4 w dR ⟨h, hs⟩
 refine nG (aa (ah (v := vb) rfl) (aa (ah (v := (I6 x4)) rfl) ?_))
 obtain ⟨x5, e6, hs⟩ := aL hs
 obtain ⟨b8, q9, i7⟩ := h.rO 7 rfl aZ rfl (aC e6).1 (aC e6).2
 refine aa (i7 _ _ _ _ _ _ _ _ _ rfl rfl) ?_
 obtain ⟨cs10, m11, r12⟩ := h.uQ 7 rfl q9 (aC e6).2
 obtain rfl := r12
 refine aa (kS (k := 0) (vs := [(I6 x5.kind), (I6 x5.n)]) m11 aY rfl rfl rfl (bD rfl)) (bI h 9 aY fun w b13 h => dK (vs := [(I6 x5.kind), (I6 x5.n)]) h 9 [(I6 x5.kind), (I6 x5.n)] rfl aY rfl rfl rfl rfl rfl (ai rfl (ai rfl aS)) fun w h => nN (aM (cu (σ := Bool) (inl (rg 20 17)) (fun Lc => [(36, (.bool (Lc)))]) (fun Lc w => SH w0 M K0 w (hset [(1, .blk sb [iA, vs1, (I6 sx.status), (I6 sx.aK)]), (2, .own bB.raw 49 iA (List.zip sx.frames iW)), (3, .iJ (ek bz 51 (hat (kb).toNat) iW (List.map bB.sub sx.frames))), (4, .own (eD Val).raw 47 vs1 (List.zip sx.cells iI)), (5, .iJ (ek bz 51 hn iI (List.map (eD Val).sub sx.cells))), (6, .rd eY AX a.args), (7, .own bz 51 vb xb.regs), (8, .blk b3 [(I6 a.op), (I6 a.a), (I6 a.b), (I6 a.c), AX]), (9, .blk b13 [(I6 x5.kind), (I6 x5.n)])]) ∧ zN sx a x5 xb kb Lc = some r) ?_ ?_)))
 rintro Lc w dR ⟨h, hs⟩
 refine aI hs rfl (fun c15 hs => ?_) (fun c15 hs => ?_)
 refine nG (aa (ae (v := (.bool (false))) rfl) (nR (ay (bR (v := (.bool (false))) Tryz.results88 rfl ?_))))
 replace h := h.eP 3 7 rfl rfl (by decide) eb hb rfl
 replace h := h.pair 1 2 (by decide)
 replace h := h.pair 1 3 (by decide)
 replace h := h.pair 1 4 (by decide)
 replace h := h.pair 1 5 (by decide)
 obtain rfl := fM hs
 subst wE
 obtain ⟨o1, o2, o3⟩ := h.lu 1 (C := (cT sb iA vs1 (sx.status) (sx.aK) sx.frames iW sx.cells iI)) rfl ⟨⟨⟨⟨trivial, trivial⟩, trivial⟩, trivial⟩, trivial⟩
 exact ⟨o2, iA, vs1, iW, iI, rfl, o1, o3⟩
 refine aH (ak (aM (nG (aa (ag ni rfl) (aa (az h 8 rfl aR rfl rfl) (aa (bu rfl rfl) (nN (aI hs rfl (fun c16 hs => ?_) (fun c16 hs => ?_)))))))))
 refine mZ 16 mixed (by kernel_rfl) h fun w h => aG (ah (v := (.pointer (some ⟨sb, 0, none⟩))) rfl) (aG (aX rfl) (aG (ag gJ rfl) (aG (az h 1 rfl jQ rfl rfl) (aG (ag fu rfl) (aG (az h 9 rfl aR rfl rfl) ?_)))))
 obtain ⟨rJ, e18, hs⟩ := aL hs
 obtain ⟨u22, e23, h⟩ := h.mq 5 10 rJ rfl rfl (by decide) (aC e18).2 rfl
 obtain ⟨b20, q21, i19⟩ := h.rO 4 rfl dV rfl (aC e18).1 (eU (aC e18).2 e23)
 refine aG (i19 _ _ _ _ _ _ _ _ _ rfl rfl) ?_
 obtain ⟨cs24, m25, r26⟩ := h.uQ 4 rfl q21 (eU (aC e18).2 e23)
 obtain ⟨rfl, -⟩ := r26
 refine aG (lh (k := 0) m25 jH rfl rfl) (aG (ag nk rfl) (aG (az h 8 rfl aR rfl rfl) (aG (ah (v := vb) rfl) (aG (ag gN rfl) (aG (az h 8 rfl aR rfl rfl) ?_)))))
 obtain ⟨x27, e28, hs⟩ := aL hs
 obtain ⟨b30, q31, i29⟩ := h.rO 7 rfl aZ rfl (aC e28).1 (aC e28).2
 refine aG (i29 _ _ _ _ _ _ _ _ _ rfl rfl) ?_
 obtain ⟨cs32, m33, r34⟩ := h.uQ 7 rfl q31 (aC e28).2
 obtain rfl := r34
 refine aG (kS (k := 0) (vs := [(I6 x27.kind), (I6 x27.n)]) m33 aY rfl rfl rfl (bD rfl)) ?_
 obtain ⟨CF, e36, hs⟩ := aL hs
 obtain ⟨b38, q39, i37⟩ := h.rO 10 rfl aZ rfl (aC e36).1 (aC e36).2
 refine aG (i37 _ _ _ _ _ _ _ _ _ rfl rfl) (wz (rX (a' := x27) (vs := [(I6 x27.kind), (I6 x27.n)]) h 10 rfl q39 rfl (aC e36).2 aY rfl rfl rfl rfl rfl fun w h k40 => nJ (aa (ae (v := (.bool (true))) rfl) (nR (bR (v := (.bool (true))) Tryz.results88 rfl ?_)))))
 replace h := h.eP 3 7 rfl rfl (by decide) eb hb rfl
 replace h := h.mo 4 5 10 (rJ.set (a.c).toNat x27) rfl rfl rfl (by decide) (by decide) (by decide) (aC e18).2 e23 rfl
 replace h := h.pair 1 2 (by decide)
 replace h := h.pair 1 3 (by decide)
 replace h := h.pair 1 4 (by decide)
 replace h := h.pair 1 5 (by decide)
 obtain rfl := fM hs
 subst wE
 obtain ⟨o1, o2, o3⟩ := h.lu 1 (C := (cT sb iA vs1 (sx.status) (sx.aK) sx.frames iW (sx.cells.set (x5.n).toNat (rJ.set (a.c).toNat x27)) iI)) rfl ⟨⟨⟨⟨trivial, trivial⟩, trivial⟩, trivial⟩, trivial⟩
 exact ⟨o2, iA, vs1, iW, iI, rfl, o1, o3⟩
 refine mZ 16 mixed (by kernel_rfl) h fun w h => aG (ah (v := vb) rfl) (aG (ag jy rfl) (aG (az h 8 rfl aR rfl rfl) (aG (ah (v := (.pointer (some ⟨sb, 0, none⟩))) rfl) (aG (aX rfl) (aG (ag gJ rfl) (aG (az h 1 rfl jQ rfl rfl) (aG (ag fu rfl) (aG (az h 9 rfl aR rfl rfl) ?_))))))))
 obtain ⟨x41, e42, hs⟩ := aL hs
 obtain ⟨u46, e47, h⟩ := h.mq 5 11 x41 rfl rfl (by decide) (aC e42).2 rfl
 obtain ⟨QK, q45, i43⟩ := h.rO 4 rfl dV rfl (aC e42).1 (eU (aC e42).2 e47)
 refine aG (i43 _ _ _ _ _ _ _ _ _ rfl rfl) ?_
 obtain ⟨cs48, m49, r50⟩ := h.uQ 4 rfl q45 (eU (aC e42).2 e47)
 obtain ⟨rfl, -⟩ := r50
 refine aG (lh (k := 0) m49 jH rfl rfl) (aG (ag nk rfl) (aG (az h 8 rfl aR rfl rfl) ?_))
 obtain ⟨QM, e52, hs⟩ := aL hs
 obtain ⟨b54, q55, i53⟩ := h.rO 11 rfl aZ rfl (aC e52).1 (aC e52).2
 refine aG (i53 _ _ _ _ _ _ _ _ _ rfl rfl) ?_
 obtain ⟨cs56, m57, r58⟩ := h.uQ 11 rfl q55 (aC e52).2
 obtain rfl := r58
 refine aG (kS (k := 0) (vs := [(I6 QM.kind), (I6 QM.n)]) m57 aY rfl rfl rfl (bD rfl)) ?_
 obtain ⟨x59, e60, hs⟩ := aL hs
 obtain ⟨b62, q63, i61⟩ := h.rO 7 rfl aZ rfl (aC e60).1 (aC e60).2
 refine aG (i61 _ _ _ _ _ _ _ _ _ rfl rfl) (wz (rX (a' := QM) (vs := [(I6 QM.kind), (I6 QM.n)]) h 7 rfl q63 rfl (aC e60).2 aY rfl rfl rfl rfl rfl fun w h k64 => nJ (aa (ae (v := (.bool (true))) rfl) (nR (bR (v := (.bool (true))) Tryz.results88 rfl ?_)))))
 replace h := h.mo 2 3 7 ({ xb with regs := (xb.regs.set (a.a).toNat QM) }) rfl rfl rfl (by decide) (by decide) (by decide) eb hb rfl
 replace h := h.eP 5 11 rfl rfl (by decide) (aC e42).2 e47 rfl
 replace h := h.pair 1 2 (by decide)
 replace h := h.pair 1 3 (by decide)
 replace h := h.pair 1 4 (by decide)
 replace h := h.pair 1 5 (by decide)
 obtain rfl := fM hs
 subst wE
 obtain ⟨o1, o2, o3⟩ := h.lu 1 (C := (cT sb iA vs1 (sx.status) (sx.aK) (sx.frames.set (kb).toNat ({ xb with regs := (xb.regs.set (a.a).toNat QM) })) iW sx.cells iI)) rfl ⟨⟨⟨⟨trivial, trivial⟩, trivial⟩, trivial⟩, trivial⟩
 exact ⟨o2, iA, vs1, iW, iI, rfl, o1, o3⟩
 refine uS mixed (by kernel_rfl) h fun w h => aG (ag lJ rfl) (aG (az h 9 rfl aR rfl rfl) (aG (gM rfl rfl) (aG (ah (v := (.bool (decide ((x5.kind : Int) ≠ 2)))) rfl) (gT (b := decide ((x5.kind : Int) ≠ 2)) hs (fun Aw hs => ?_) (fun Aw hs => ?_)))))
 refine ed (b' := true) rfl (cB Aw) rfl (ed (b' := true) rfl (cB Aw) rfl (ed (b' := true) rfl (cB Aw) rfl (ed (b' := true) rfl (cB Aw) rfl (ed (b' := true) rfl (cB Aw) rfl (ed (b' := true) rfl (cB Aw) rfl (ed (b' := true) rfl (cB Aw) rfl (ed (b' := true) rfl (cB Aw) rfl (ed (b' := true) rfl (cB Aw) rfl (ed (b' := true) rfl (cB Aw) rfl (ed (b' := true) rfl (cB Aw) rfl (ed (b' := true) rfl (cB Aw) rfl (aG (bY (b := true) (v := (.bool (true))) (cB Aw) rfl) (uy (au ?_))))))))))))))
 exact bS true ⟨h.cn _, hs⟩
 refine fU rfl (cB Aw) (aG (ag nk rfl) (fU rfl (cB Aw) (aG (az h 8 rfl aR rfl rfl) (fU rfl (cB Aw) (aG (ah (v := (.pointer (some ⟨sb, 0, none⟩))) rfl) (fU rfl (cB Aw) (aG (aX rfl) (fU rfl (cB Aw) (aG (ag gJ rfl) (fU rfl (cB Aw) (aG (az h 1 rfl jQ rfl rfl) (fU rfl (cB Aw) (aG (ag fu rfl) (fU rfl (cB Aw) (aG (az h 9 rfl aR rfl rfl) (fU rfl (cB Aw) ?_))))))))))))))))
 obtain ⟨x66, e67, hs⟩ := aL hs
 obtain ⟨u71, XB, h⟩ := h.mq 5 12 x66 rfl rfl (by decide) (aC e67).2 rfl
 obtain ⟨b69, q70, i68⟩ := h.rO 4 rfl dV rfl (aC e67).1 (eU (aC e67).2 XB)
 refine aG (i68 _ _ _ _ _ _ _ _ _ rfl rfl) (fU rfl (cB Aw) ?_)
 obtain ⟨cs73, m74, r75⟩ := h.uQ 4 rfl q70 (eU (aC e67).2 XB)
 obtain ⟨rfl, -⟩ := r75
 refine aG (lh (k := 0) m74 jH rfl rfl) (fU rfl (cB Aw) (aG (bM aZ rfl (h.eT 12 rfl)) (fU rfl (cB Aw) (aG (rH rfl rfl) (aG (bY (b := false) (v := (.bool (decide (((x66.length : Int) : Int) ≤ a.c)))) (cB Aw) rfl) (uy ?_))))))
 replace h := h.eP 5 12 rfl rfl (by decide) (aC e67).2 XB rfl
 refine au ?_
 exact bS (decide (((x66.length : Int) : Int) ≤ a.c)) ⟨h.cn _, hs⟩
 refine nG (aa (ag ni rfl) (aa (az h 8 rfl aR rfl rfl) (aa (bu rfl rfl) (nN (aI hs rfl (fun c76 hs => ?_) (fun c76 hs => ?_))))))
 refine aD (aa (ag jy rfl) (aa (az h 8 rfl aR rfl rfl) (aa (ae (v := (I6 a.a)) rfl) (aA (au ?_)))))
 exact bS a.a ⟨h.cn _, hs⟩
 refine aH (au ?_)
 exact bS a.b ⟨h.cn _, hs⟩
def yj (QJ : (List Int × List (Int × Bool)) → Option (List Int × Int)) (Bf : List Int) (Ed : List (Int × Bool)) : Option (List Int × Int) :=
  QJ (Bf, Ed)
def yl (O3 : (List Int × List (Int × Bool)) → Option (List Int × Int)) (UJ : List Int) (J4 : List (Int × Bool)) : Option (List Int × Int) :=
  O3 (UJ, J4)
def sF (yL : Val) (s : List Int × List (Int × Bool)) (O3 : List Int × List (Int × Bool) → Option (List Int × Int)) : Option (List Int × Int) :=
  match s with | (jK, rE) => bif (decide ((yL.kind : Int) = 2) && (!((lk yL.n rE).getD false))) then iK (Room 8 jK [yL.n]) (yl O3 (jK ++ [yL.n]) (D8 yL.n true rE)) else yl O3 jK rE
def sG (M7 : Int) (R9 : (Int × List Int × List (Int × Bool)) → Option (List Int × Int)) (s : List Int × List (Int × Bool)) : Option (List Int × Int) :=
  match s with | (jK, rE) => iK (kJ (M7 + 1)) (R9 ((M7 + 1), jK, rE))
def qd (a : List (List Val)) (s : Int × List Int × List (Int × Bool)) (R9 : Int × List Int × List (Int × Bool) → Option (List Int × Int)) : Option (List Int × Int) :=
  match s with | (M7, Gf, BP) => bif decide ((M7 : Int) < (Gf.length : Int)) then (idx Gf M7).bind fun x79 => (idx a x79).bind fun x87 => each sF (sG M7 R9) x87 (Gf, BP) else some (Gf, 0)
def vv (jb : Val) (s : List Int × List (Int × Bool)) (QJ : List Int × List (Int × Bool) → Option (List Int × Int)) : Option (List Int × Int) :=
  match s with | (y32, TH) => bif (decide ((jb.kind : Int) = 2) && (!((lk jb.n TH).getD false))) then iK (Room 8 y32 [jb.n]) (yj QJ (y32 ++ [jb.n]) (D8 jb.n true TH)) else yj QJ y32 TH
def ym (N : Nat) (a : List (List Val)) (s : List Int × List (Int × Bool)) : Option (List Int × Int) :=
  match s with | (y32, TH) => again (qd a) N (0, y32, TH)
def vw (a : List (List Val)) (x6 : Val) (s : Unit) (nx8 : Unit → Option (List Int × Int)) : Option (List Int × Int) :=
  bif decide (((eF x6 (a.length : Int)) : Int) ≠ 0) then some ([], (eF x6 (a.length : Int))) else nx8 ()
def sH (N : Nat) (a : List (List Val)) (b : List Val) (s : Unit) : Option (List Int × Int) :=
  each vv (ym N a) b ([], ([] : List (Int × Bool)))
def Er (N : Nat) (a : List (List Val)) (b : List Val) : Option (List Int × Int) :=
  bif decide (((gp a) : Int) ≠ 0) then some ([], (gp a)) else bif decide ((400 : Int) < (b.length : Int)) then some ([], 2) else each (vw a) (sH N a b) b ()
theorem QN (N : Nat) (w0 : World) (M : BS) (hM : ∀ b, M b → b < w0.heap.size) (va : Value) (a : List (List Val)) (ha : gB (l9 bz) w0 BE M va a) (vb : Value) (b : List Val) (hb : gB bz w0 BE M vb b) (r : List Int × Int) (hs : Er N a b = some r) :
    Calls Tryz.prog 48 #[va, vb] w0 (fun e w' => Grow w0 w' ∧ ∃ u0, e = .returned (.tuple #[u0, .int .i64 r.2]) ∧ gW eY 3 w' M u0 r.1 ∧ (∀ b, ob u0 b → w0.heap.size ≤ b)) := by
 refine aQ (args := [va, vb]) Tryz.func48 rfl Tryz.ntmps48 (bD rfl) ?_
 have h := SH.init hM
 replace h := h.fE 1 ha bA
 replace h := h.fE 2 hb (bN bA)
 have uU := ha.bT
 have ML := hb.bT
 refine nG (aa (ae (v := (.slice none 0 0)) rfl) (aa (ae (v := (I6 0)) rfl) (nK (aa (ah (v := va) rfl) (aW ZT rfl rfl (EH _ _ h.lt va a (h.gV 1 rfl) _ rfl) ?_)))))
 rintro _ w ⟨k1, rfl⟩
 refine ⟨_, rfl, ?_⟩
 replace h := h.grow k1
 refine aa (ae (v := (I6 ((gp a)))) rfl) (nJ (aa (ah (v := (I6 ((gp a)))) rfl) (aa (gM rfl rfl) (nN (aI hs rfl (fun c2 hs => ?_) (fun c2 hs => ?_))))))
 refine nG (aa (ah (v := (I6 ((gp a)))) rfl) (aa (ae (v := (.slice none 0 0)) rfl) (aa (ae (v := (I6 ((gp a)))) rfl) (nR (ay (JC (v1 := (.slice none 0 0)) (v2 := (I6 ((gp a)))) Tryz.results48 rfl rfl ?_))))))
 obtain rfl := fM hs
 exact ⟨h.grown, _, rfl, gW.nil, qO⟩
 refine aH (ak (aM (nG (aa (ah (v := vb) rfl) (aa (bM aZ rfl (h.gV 2 rfl)) (aa (mV rfl rfl) (nN (aI hs rfl (fun c3 hs => ?_) (fun c3 hs => ?_)))))))))
 refine nG (aa (ae (v := (.slice none 0 0)) rfl) (aa (ae (v := (I6 2)) rfl) (nR (ay (JC (v1 := (.slice none 0 0)) (v2 := (I6 2)) Tryz.results48 rfl rfl ?_)))))
 obtain rfl := fM hs
 exact ⟨h.grown, _, rfl, gW.nil, qO⟩
 refine aH (ak (aM (nG (aa (ah (v := vb) rfl) (aa (bM aZ rfl (h.gV 2 rfl)) (aa (ah (v := (I6 0)) rfl) (nN (aN (gD (σ := Nat × Int) (inl ([4, 5, 8, 9] ++ rg 28 12)) (fun ⟨k4, i5⟩ => [(28, (I6 i5))]) (fun ⟨k4, i5⟩ w => SH w0 M BE w (hset [(1, .sr (l9 bz) va a), (2, .sr bz vb b)]) ∧ i5 = (k4 : Int) ∧ each (vw a) (sH N a b) (b.drop k4) () = some r) (fun ⟨k4, i5⟩ => b.length - k4) ⟨0, 0⟩ ⟨rfl, trivial⟩ ?_ ?_)))))))))
 exact ⟨h.cn _, rfl, hs⟩
 rintro ⟨k4, i5⟩ w dR ⟨h, hik, hs⟩
 refine nG ?_
 refine aa (eO rfl rfl) (nN ?_)
 refine aM (gQ rfl (fun e9 => ?_) (fun e9 => ?_))
 refine aH (ak ?_)
 obtain ⟨x6, e10a, e10b⟩ := fG (hik ▸ e9)
 rw [e10b, dU] at hs
 generalize hnx8 : each (vw a) (sH N a b) (b.drop (k4 + 1)) = nx8 at hs
 have e10r := fJ ((h.gV 2 rfl)).bT hik e9
 refine aM (aN (nG ?_))
 obtain ⟨b12, o13, cs14, h, r15, i11⟩ := h.xI 2 3 rfl aZ rfl (ig hik) (fI hik e10a)
 obtain rfl := r15
 refine aa (i11 _ _ _ _ _ _ _ _ _ rfl rfl) (aa (jc (k := 0) (vs := [(I6 x6.kind), (I6 x6.n)]) h 3 rfl aY rfl rfl rfl (bD rfl)) (bI h 4 aY fun w b16 h => dK (vs := [(I6 x6.kind), (I6 x6.n)]) h 4 [(I6 x6.kind), (I6 x6.n)] rfl aY rfl rfl rfl rfl rfl (ai rfl (ai rfl aS)) fun w h => nJ (aa (bU (vs := [(I6 x6.kind), (I6 x6.n)]) h 4 rfl aY rfl rfl rfl) (aa (ah (v := va) rfl) (aa (bM dV rfl (h.gV 1 rfl)) (aW Ud rfl rfl (Ej _ _ h.lt x6 (a.length : Int) _ rfl) ?_))))))
 rintro _ w ⟨k17, rfl⟩
 refine ⟨_, rfl, ?_⟩
 replace h := h.grow k17
 refine aa (ae (v := (I6 ((eF x6 (a.length : Int))))) rfl) (nJ (aa (ah (v := (I6 ((eF x6 (a.length : Int))))) rfl) (aa (gM rfl rfl) (nN (aI hs rfl (fun c18 hs => ?_) (fun c18 hs => ?_))))))
 refine nG (aa (ah (v := (I6 ((eF x6 (a.length : Int))))) rfl) (aa (ae (v := (.slice none 0 0)) rfl) (aa (ae (v := (I6 ((eF x6 (a.length : Int))))) rfl) (nR (aB (ay (ay (aB (ay (JC (v1 := (.slice none 0 0)) (v2 := (I6 ((eF x6 (a.length : Int))))) Tryz.results48 rfl rfl ?_))))))))))
 obtain rfl := fM hs
 exact ⟨h.grown, _, rfl, gW.nil, qO⟩
 refine aH (ax (ak (aD (aa (dQ rfl rfl e10r) (aa (ah (v := (I6 ((i5 + 1)))) rfl) (aA (au ?_)))))))
 subst hnx8
 exact jM ⟨k4 + 1, i5 + 1⟩ ⟨h.cn _, by omega, hs⟩ (by have := oD e9; dsimp only; omega)
 rw [fH (hik ▸ e9), fO] at hs
 refine nE (CQ h 5 fun w b19 h => uj h 6 JM fun w b20 h => gP h 6 [(.map (some b19))] rfl JM rfl rfl rfl rfl rfl fun w h => nJ (uj h 7 qU fun w IE h => nJ (aa (sU (c1 := []) (c2 := [(.pointer (some ⟨b20, 0, none⟩)), (.pointer (some ⟨IE, 0, none⟩))]) rfl rfl) (aa (ae (v := (.func (.func 82) #[] #[(.pointer (some ⟨b20, 0, none⟩)), (.pointer (some ⟨IE, 0, none⟩))])) rfl) (nN (aM ?_))))))
 refine nG (aa (ah (v := vb) rfl) (aa (bM aZ rfl (h.gV 2 rfl)) (aa (ah (v := (I6 0)) rfl) (nN (aN ?_)))))
 replace h := h.yH (R := eY) (E := 3) 11
 refine gD (σ := Nat × Int × Value × List Int × List (Int × Bool)) (inl ([14] ++ rg 44 8)) (fun ⟨RZ, i35, v31, y32, TH⟩ => [(44, (I6 i35))]) (fun ⟨RZ, i35, v31, y32, TH⟩ w => SH w0 M BE w (hset [(1, .sr (l9 bz) va a), (2, .sr bz vb b), (5, .mp b19 (List.map (fun p => (p.1, (fun x => Value.bool x) p.2)) TH)), (6, .blk b20 [(.map (some b19))]), (7, .blk IE [v31]), (11, .own eY 3 v31 y32)]) ∧ i35 = (RZ : Int) ∧ each vv (ym N a) (b.drop RZ) (y32, TH) = some r) (fun ⟨RZ, i35, v31, y32, TH⟩ => b.length - RZ) ⟨0, 0, (.slice none 0 0), [], ([] : List (Int × Bool))⟩ ⟨rfl, trivial⟩ ?_ ?_
 exact ⟨h.cn _, rfl, hs⟩
 rintro ⟨RZ, i35, v31, y32, TH⟩ w dR ⟨h, hik, hs⟩
 refine nG ?_
 refine aa (eO rfl rfl) (nN ?_)
 refine aM (gQ rfl (fun e39 => ?_) (fun e39 => ?_))
 refine aH (ak ?_)
 obtain ⟨jb, e40a, e40b⟩ := fG (hik ▸ e39)
 rw [e40b, dU] at hs
 generalize hnx38 : each vv (ym N a) (b.drop (RZ + 1)) = QJ at hs
 have e40r := fJ ((h.gV 2 rfl)).bT hik e39
 refine cu (σ := Value × List Int × List (Int × Bool)) (inl [14, 46, 47, 48, 49, 50]) (fun ⟨v41, Bf, Ed⟩ => []) (fun ⟨v41, Bf, Ed⟩ w => SH w0 M BE w (hset [(1, .sr (l9 bz) va a), (2, .sr bz vb b), (5, .mp b19 (List.map (fun p => (p.1, (fun x => Value.bool x) p.2)) Ed)), (6, .blk b20 [(.map (some b19))]), (7, .blk IE [v41]), (11, .own eY 3 v41 Bf)]) ∧ yj QJ Bf Ed = some r) ?_ ?_
 rintro ⟨v41, Bf, Ed⟩ w dR ⟨h, hs⟩
 refine aD (aa (dQ rfl rfl e40r) (aa (ah (v := (I6 ((i35 + 1)))) rfl) (aA (au ?_))))
 subst hnx38
 exact jM ⟨RZ + 1, i35 + 1, v41, Bf, Ed⟩ ⟨h.cn _, by omega, hs⟩ (by have := oD e39; dsimp only; omega)
 refine aN (nG ?_)
 obtain ⟨b45, o46, cs47, h, r48, i44⟩ := h.xI 2 12 rfl aZ rfl (ig hik) (fI hik e40a)
 obtain rfl := r48
 refine aa (i44 _ _ _ _ _ _ _ _ _ rfl rfl) (aa (jc (k := 0) (vs := [(I6 jb.kind), (I6 jb.n)]) h 12 rfl aY rfl rfl rfl (bD rfl)) (bI h 13 aY fun w b49 h => dK (vs := [(I6 jb.kind), (I6 jb.n)]) h 13 [(I6 jb.kind), (I6 jb.n)] rfl aY rfl rfl rfl rfl rfl (ai rfl (ai rfl aS)) fun w h => nN (aD (aa (ah (v := (.func (.func 82) #[] #[(.pointer (some ⟨b20, 0, none⟩)), (.pointer (some ⟨IE, 0, none⟩))])) rfl) (aa (bU (vs := [(I6 jb.kind), (I6 jb.n)]) h 13 rfl aY rfl rfl rfl) (jY (args := [(.agg #[(I6 jb.kind), (I6 jb.n)]), (.pointer (some ⟨b20, 0, none⟩)), (.pointer (some ⟨IE, 0, none⟩))]) ZU rfl rfl (aQ (args := [(.agg #[(I6 jb.kind), (I6 jb.n)]), (.pointer (some ⟨b20, 0, none⟩)), (.pointer (some ⟨IE, 0, none⟩))]) Tryz.func82 rfl Tryz.ntmps82 (bD rfl) (nG (kM (cs := [(I6 jb.kind), (I6 jb.n)]) h 14 rfl rfl fun w b50 h => nJ (aa (ag lJ rfl) (aa (az h 14 rfl aR rfl rfl) (aa (bu rfl rfl) (aa (ah (v := (.bool (decide ((jb.kind : Int) = 2)))) rfl) (aF rfl rfl (fun q => az h 6 rfl JM rfl rfl) (aF rfl rfl (fun q => ag fu rfl) ?_)))))))))))))))
 refine aF rfl rfl (fun q => az h 14 rfl aR (eu q) rfl) (aF rfl rfl (fun q => r_lk1 (f := (fun x => Value.bool x)) (zz := false) TH h 5 rfl I4 (eu q) (eu q) rfl rfl) (aF rfl rfl (fun q => fw (eu q)) (aa (fZ rfl rfl mY) (nN (aI hs rfl (fun c51 hs => ?_) (fun c51 hs => ?_))))))
 refine nG (aa (az h 6 rfl JM rfl rfl) (aa (ag fu rfl) (aa (az h 14 rfl aR rfl rfl) (EW (kT := (List.map (fun p => (p.1, (fun x => Value.bool x) p.2)) (D8 jb.n true TH))) h 5 rfl I4 rfl rfl rfl (Ga (f := (fun x => Value.bool x)) _) fun w h => nN (aD (aa (az h 7 rfl qU rfl rfl) (aa (ag fu rfl) (aa (az h 14 rfl aR rfl rfl) (sV (R := eY) (vs := [(I6 jb.n)]) (xs := [jb.n]) h 15 kI rfl rfl rfl ⟨rfl, trivial⟩ rfl fun w u52 h => ?_)))))))))
 obtain ⟨a53, hs⟩ := bG hs
 refine mW (R := eY) (m := [jb.n]) h 11 rfl (h.eT 15 rfl) kI rfl rfl rfl a53.1 a53.2 fun w u54 h => gP h 7 [u54] rfl qU rfl rfl rfl rfl (h.dD 11 rfl).one fun w h => aA (OA Tryz.results82 (⟨_, rfl, ?_⟩))
 refine aA (ax (au ?_))
 exact bS (u54, (y32 ++ [jb.n]), (D8 jb.n true TH)) ⟨h.cn _, hs⟩
 refine aH (OA Tryz.results82 (⟨_, rfl, ?_⟩))
 refine aA (ax (au ?_))
 exact bS (v31, y32, TH) ⟨h.cn _, hs⟩
 rw [fH (hik ▸ e39), fO] at hs
 refine jl (bQ (bQ (fq (ak (aM (nG (aa (ae (v := (I6 0)) rfl) (nN (aN (gD (σ := Nat × Int × Value × List Int × List (Int × Bool)) (inl ([15, 17] ++ rg 52 22)) (fun ⟨m74, M7, v68, Gf, BP⟩ => [(15, (I6 M7))]) (fun ⟨m74, M7, v68, Gf, BP⟩ w => SH w0 M BE w (hset [(1, .sr (l9 bz) va a), (5, .mp b19 (List.map (fun p => (p.1, (fun x => Value.bool x) p.2)) BP)), (6, .blk b20 [(.map (some b19))]), (7, .blk IE [v68]), (11, .own eY 3 v68 Gf)]) ∧ again (qd a) m74 (M7, Gf, BP) = some r) (fun ⟨m74, M7, v68, Gf, BP⟩ => m74) ⟨N, 0, v31, y32, TH⟩ ⟨rfl, trivial⟩ ?_ ?_))))))))))
 exact ⟨h.cn _, hs⟩
 rintro ⟨m74, M7, v68, Gf, BP⟩ w dR ⟨h, hs⟩
 obtain ⟨m741, m74e, m74h⟩ := uq hs
 subst m74e
 replace hs := m74h
 generalize hnx75 : again (qd a) m741 = R9 at hs
 refine aM (nG (aa (ah (v := (I6 M7)) rfl) (aa (az h 7 rfl qU rfl rfl) (aa (bM bZ rfl (h.eT 11 rfl)) (aa (eO rfl rfl) (nN (aI hs rfl (fun c78 hs => ?_) (fun c78 hs => ?_))))))))
 refine aH (ak (aM (aN (nG (aa (ah (v := va) rfl) (aa (az h 7 rfl qU rfl rfl) (aa (ah (v := (I6 M7)) rfl) ?_)))))))
 obtain ⟨x79, e80, hs⟩ := aL hs
 obtain ⟨b82, q83, i81⟩ := h.rO 11 rfl bZ rfl (aC e80).1 (aC e80).2
 refine aa (i81 _ _ _ _ _ _ _ _ _ rfl rfl) ?_
 obtain ⟨cs84, m85, r86⟩ := h.uQ 11 rfl q83 (aC e80).2
 obtain rfl := r86
 refine aa (lh (k := 0) m85 aR rfl rfl) ?_
 obtain ⟨x87, e88, hs⟩ := aL hs
 obtain ⟨b90, o91, cs92, h, r93, i89⟩ := h.xI 1 16 rfl dV rfl (aC e88).1 (aC e88).2
 obtain ⟨u94, rfl, g95⟩ := r93
 replace h := h.dh 17 g95.up
 refine aa (i89 _ _ _ _ _ _ _ _ _ rfl rfl) (aa (fo (k := 0) h 16 rfl jH rfl rfl) (aa (bM aZ rfl (h.kL 17 rfl)) (aa (ah (v := (I6 0)) rfl) (nN (aN (gD (σ := Nat × Int × Value × List Int × List (Int × Bool)) (inl ([17] ++ rg 66 8)) (fun ⟨Od, i109, v105, jK, rE⟩ => [(66, (I6 i109))]) (fun ⟨Od, i109, v105, jK, rE⟩ w => SH w0 M BE w (hset [(1, .sr (l9 bz) va a), (5, .mp b19 (List.map (fun p => (p.1, (fun x => Value.bool x) p.2)) rE)), (6, .blk b20 [(.map (some b19))]), (7, .blk IE [v105]), (11, .own eY 3 v105 jK), (17, .rd bz u94 x87)]) ∧ i109 = (Od : Int) ∧ each sF (sG M7 R9) (x87.drop Od) (jK, rE) = some r) (fun ⟨Od, i109, v105, jK, rE⟩ => x87.length - Od) ⟨0, 0, v68, Gf, BP⟩ ⟨rfl, trivial⟩ ?_ ?_))))))
 exact ⟨h.cn _, rfl, hs⟩
 rintro ⟨Od, i109, v105, jK, rE⟩ w dR ⟨h, hik, hs⟩
 refine nG ?_
 refine aa (eO rfl rfl) (nN ?_)
 refine aM (gQ rfl (fun QO => ?_) (fun QO => ?_))
 refine aH (ak ?_)
 obtain ⟨yL, e114a, e114b⟩ := fG (hik ▸ QO)
 rw [e114b, dU] at hs
 generalize hnx112 : each sF (sG M7 R9) (x87.drop (Od + 1)) = O3 at hs
 have e114r := fJ ((h.kL 17 rfl)).bT hik QO
 refine cu (σ := Value × List Int × List (Int × Bool)) (inl [17, 68, 69, 70, 71, 72]) (fun ⟨v115, UJ, J4⟩ => []) (fun ⟨v115, UJ, J4⟩ w => SH w0 M BE w (hset [(1, .sr (l9 bz) va a), (5, .mp b19 (List.map (fun p => (p.1, (fun x => Value.bool x) p.2)) J4)), (6, .blk b20 [(.map (some b19))]), (7, .blk IE [v115]), (11, .own eY 3 v115 UJ), (17, .rd bz u94 x87)]) ∧ yl O3 UJ J4 = some r) ?_ ?_
 rintro ⟨v115, UJ, J4⟩ w dR ⟨h, hs⟩
 refine aD (aa (dQ rfl rfl e114r) (aa (ah (v := (I6 ((i109 + 1)))) rfl) (aA (au ?_))))
 subst hnx112
 exact jM ⟨Od + 1, i109 + 1, v115, UJ, J4⟩ ⟨h.cn _, by omega, hs⟩ (by have := oD QO; dsimp only; omega)
 refine aN (nG ?_)
 obtain ⟨b119, o120, cs121, h, r122, i118⟩ := h.Cn 17 18 rfl aZ rfl (ig hik) (fI hik e114a)
 obtain rfl := r122
 refine aa (i118 _ _ _ _ _ _ _ _ _ rfl rfl) (aa (jc (k := 0) (vs := [(I6 yL.kind), (I6 yL.n)]) h 18 rfl aY rfl rfl rfl (bD rfl)) (bI h 19 aY fun w b123 h => dK (vs := [(I6 yL.kind), (I6 yL.n)]) h 19 [(I6 yL.kind), (I6 yL.n)] rfl aY rfl rfl rfl rfl rfl (ai rfl (ai rfl aS)) fun w h => nN (aD (aa (ah (v := (.func (.func 82) #[] #[(.pointer (some ⟨b20, 0, none⟩)), (.pointer (some ⟨IE, 0, none⟩))])) rfl) (aa (bU (vs := [(I6 yL.kind), (I6 yL.n)]) h 19 rfl aY rfl rfl rfl) (jY (args := [(.agg #[(I6 yL.kind), (I6 yL.n)]), (.pointer (some ⟨b20, 0, none⟩)), (.pointer (some ⟨IE, 0, none⟩))]) ZU rfl rfl (aQ (args := [(.agg #[(I6 yL.kind), (I6 yL.n)]), (.pointer (some ⟨b20, 0, none⟩)), (.pointer (some ⟨IE, 0, none⟩))]) Tryz.func82 rfl Tryz.ntmps82 (bD rfl) (nG (kM (cs := [(I6 yL.kind), (I6 yL.n)]) h 20 rfl rfl fun w b124 h => nJ (aa (ag lJ rfl) (aa (az h 20 rfl aR rfl rfl) (aa (bu rfl rfl) (aa (ah (v := (.bool (decide ((yL.kind : Int) = 2)))) rfl) (aF rfl rfl (fun q => az h 6 rfl JM rfl rfl) (aF rfl rfl (fun q => ag fu rfl) ?_)))))))))))))))
 refine aF rfl rfl (fun q => az h 20 rfl aR (eu q) rfl) (aF rfl rfl (fun q => r_lk1 (f := (fun x => Value.bool x)) (zz := false) rE h 5 rfl I4 (eu q) (eu q) rfl rfl) (aF rfl rfl (fun q => fw (eu q)) (aa (fZ rfl rfl mY) (nN (aI hs rfl (fun wQ hs => ?_) (fun wQ hs => ?_))))))
 refine nG (aa (az h 6 rfl JM rfl rfl) (aa (ag fu rfl) (aa (az h 20 rfl aR rfl rfl) (EW (kT := (List.map (fun p => (p.1, (fun x => Value.bool x) p.2)) (D8 yL.n true rE))) h 5 rfl I4 rfl rfl rfl (Ga (f := (fun x => Value.bool x)) _) fun w h => nN (aD (aa (az h 7 rfl qU rfl rfl) (aa (ag fu rfl) (aa (az h 20 rfl aR rfl rfl) (sV (R := eY) (vs := [(I6 yL.n)]) (xs := [yL.n]) h 21 kI rfl rfl rfl ⟨rfl, trivial⟩ rfl fun w u126 h => ?_)))))))))
 obtain ⟨a127, hs⟩ := bG hs
 refine mW (R := eY) (m := [yL.n]) h 11 rfl (h.eT 21 rfl) kI rfl rfl rfl a127.1 a127.2 fun w u128 h => gP h 7 [u128] rfl qU rfl rfl rfl rfl (h.dD 11 rfl).one fun w h => aA (OA Tryz.results82 (⟨_, rfl, ?_⟩))
 refine aA (ax (au ?_))
 exact bS (u128, (jK ++ [yL.n]), (D8 yL.n true rE)) ⟨h.cn _, hs⟩
 refine aH (OA Tryz.results82 (⟨_, rfl, ?_⟩))
 refine aA (ax (au ?_))
 exact bS (v105, jK, rE) ⟨h.cn _, hs⟩
 rw [fH (hik ▸ QO), fO] at hs
 refine jl (bQ (bQ (fq (ax (ak (aD (aa (ah (v := (I6 M7)) rfl) ?_)))))))
 obtain ⟨a129, hs⟩ := bG hs
 refine aa (dQ rfl rfl a129) (aa (ae (v := (I6 ((M7 + 1)))) rfl) (aA (au ?_)))
 subst hnx75
 exact jM ⟨m741, (M7 + 1), v105, jK, rE⟩ ⟨h.cn _, hs⟩
 refine nE (aa (az h 7 rfl qU rfl rfl) (aa (ae (v := v68) rfl) (aa (ae (v := (I6 0)) rfl) (nR (JC (v1 := v68) (v2 := (I6 0)) Tryz.results48 rfl rfl ?_)))))
 obtain rfl := fM hs
 exact ⟨h.grown, _, rfl, (h.lQ 11 rfl).1, (h.lQ 11 rfl).2⟩
def Gl (LY : List Val → Option (List Val)) (vY : List Val) : Option (List Val) :=
  LY vY
def Gm (mL : List (Int × Int)) (i6 : Int) (x4 : List Val) (LY : List Val → Option (List Val)) : Option (List Val) :=
  (idx x4 i6).bind fun AB => bif decide ((AB.kind : Int) = 2) then Gl LY (x4.set (i6).toNat { AB with n := ((lk AB.n mL).getD (0 : Int)) }) else Gl LY x4
def J5 (x4 : List Val) : Option (List Val) :=
  some x4
def M8 (sx : List Val) (mL : List (Int × Int)) : Option (List Val) :=
  upto (Gm mL) J5 0 ((sx.length : Int)).toNat sx
theorem Sa (w0 : World) (M : BS) (hM : ∀ b, M b → b < w0.heap.size) (bq bm : Nat) (sv : Value) (sx : List Val) (hC : Chunk.holds w0 M (Chunk.own' (.own bz 51 sv sx : Chunk)) (.own bz 51 sv sx : Chunk)) (hap : ∀ b, Chunk.own' (.own bz 51 sv sx : Chunk) b → ¬ M b) (mL : List (Int × Int)) (hbm : Ah w0 bm (List.map (fun p => (p.1, (fun x => Value.int .i64 x) p.2)) mL)) (nbm : ¬ Chunk.own' (.own bz 51 sv sx : Chunk) bm) (hbq : ∃ E, w0.heap[bq]? = some (.cells #[(.map (some bm))] E (0, 0))) (nbq : ¬ Chunk.own' (.own bz 51 sv sx : Chunk) bq) (r : List Val) (hs : M8 sx mL = some r) :
    Calls Tryz.prog 50 #[sv, (.pointer (some ⟨bq, 0, none⟩))] w0 (fun e w' => aP (Chunk.own' (.own bz 51 sv sx : Chunk)) w0 w' ∧ e = .returned (.tuple #[]) ∧ Chunk.holds w' M (Chunk.own' (.own bz 51 sv r : Chunk)) (.own bz 51 sv r : Chunk) ∧ (∀ b, Chunk.own' (.own bz 51 sv r : Chunk) b → b < w0.heap.size → Chunk.own' (.own bz 51 sv sx : Chunk) b)) := by
 refine aQ (args := [sv, (.pointer (some ⟨bq, 0, none⟩))]) Tryz.func50 rfl Tryz.ntmps50 (bD rfl) ?_
 have h := SH.IQ hM hC hap
 replace h := h.D7 3 (cs := [(.map (some bm))]) hbq nbq D6
 have nbqK := nbq
 have nbmK := nbm
 generalize wE : (.own bz 51 sv sx : Chunk).own' = K0 at h nbqK nbmK
 refine nG (aa (ah (v := sv) rfl) (aa (bM aZ rfl (h.eT 1 rfl)) (aa (ah (v := (I6 0)) rfl) (nN (aN ?_)))))
 have hli6 := (h.eT 1 rfl).bT
 refine gD (σ := Nat × Int × List Val) (inl ([3, 4] ++ rg 7 17)) (fun ⟨k5, i6, x4⟩ => [(7, (I6 i6))]) (fun ⟨k5, i6, x4⟩ w => SH w0 M K0 w (hset [(1, .own bz 51 sv x4), (2, .no), (3, .pt bq 0 [(.map (some bm))])]) ∧ i6 = (k5 : Int) ∧ upto (Gm mL) J5 i6 (((sx.length : Int)).toNat - k5) x4 = some r) (fun ⟨k5, i6, x4⟩ => ((sx.length : Int)).toNat - k5) ⟨0, 0, sx⟩ ⟨rfl, trivial⟩ ?_ ?_
 exact ⟨h.cn _, rfl, hs⟩
 rintro ⟨k5, i6, x4⟩ w dR ⟨h, hik, hs⟩
 refine nG ?_
 refine aa (eO rfl rfl) (nN ?_)
 refine aM (gQ rfl (fun e10 => ?_) (fun e10 => ?_))
 refine aH (ak ?_)
 rw [sW (by have := oD e10; omega)] at hs
 generalize hnx9 : upto (Gm mL) J5 (i6 + 1) (((sx.length : Int)).toNat - (k5 + 1)) = LY at hs
 have e11r : kJ (i6 + 1) := (by have := oD e10; have := hli6; exact kJ.mk (by omega) (by omega))
 refine cu (σ := List Val) (inl ([3, 4] ++ rg 9 14)) (fun vY => []) (fun vY w => SH w0 M K0 w (hset [(1, .own bz 51 sv vY), (2, .no), (3, .pt bq 0 [(.map (some bm))])]) ∧ Gl LY vY = some r) ?_ ?_
 rintro vY w dR ⟨h, hs⟩
 refine aD (aa (dQ rfl rfl e11r) (aa (ah (v := (I6 ((i6 + 1)))) rfl) (aA (au ?_))))
 subst hnx9
 exact jM ⟨k5 + 1, i6 + 1, vY⟩ ⟨h.cn _, by omega, hs⟩ (by have := oD e10; dsimp only; omega)
 refine aN (nG (aa (ah (v := (I6 i6)) rfl) ?_))
 obtain ⟨AB, e14, hs⟩ := aL hs
 obtain ⟨b16, q17, i15⟩ := h.rO 1 rfl aZ rfl (aC e14).1 (aC e14).2
 refine aa (i15 _ _ _ _ _ _ _ _ _ rfl rfl) ?_
 obtain ⟨cs18, m19, Xd⟩ := h.uQ 1 rfl q17 (aC e14).2
 obtain rfl := Xd
 refine aa (kS (k := 0) (vs := [(I6 AB.kind), (I6 AB.n)]) m19 aY rfl rfl rfl (bD rfl)) (bI h 4 aY fun w IE h => aa (ae (v := (I6 i6)) rfl) (dK (vs := [(I6 AB.kind), (I6 AB.n)]) h 4 [(I6 AB.kind), (I6 AB.n)] rfl aY rfl rfl rfl rfl rfl (ai rfl (ai rfl aS)) fun w h => nJ (aa (ag lJ rfl) (aa (az h 4 rfl aR rfl rfl) (aa (bu rfl rfl) (nN (aI hs rfl (fun c22 hs => ?_) (fun c22 hs => ?_))))))))
 refine aD (aa (ah (v := sv) rfl) (aa (ah (v := (I6 i6)) rfl) (aa (fo (k := 0) h 3 rfl V4 rfl rfl) (aa (ag fu rfl) (aa (az h 4 rfl aR rfl rfl) (aa (r_lk1M (f := (fun x => Value.int .i64 x)) (zz := (0 : Int)) mL ((hbm).keep h.keep nbmK) V3 rfl rfl rfl) ?_))))))
 obtain ⟨b24, q25, i23⟩ := h.rO 1 rfl aZ rfl (aC e14).1 (aC e14).2
 refine aa (i23 _ _ _ _ _ _ _ _ _ rfl rfl) (aa (ag fu rfl) (IM (a' := { AB with n := ((lk AB.n mL).getD (0 : Int)) }) h 1 rfl q25 rfl (aC e14).2 aR rfl rfl rfl rfl (by rintro _ rfl; rfl) fun w h => aA (ax (au ?_))))
 exact bS (x4.set (i6).toNat { AB with n := ((lk AB.n mL).getD (0 : Int)) }) ⟨h.cn _, hs⟩
 refine aH (ax (au ?_))
 exact bS x4 ⟨h.cn _, hs⟩
 rw [sZ (by have := of_decide_eq_false e10; omega)] at hs
 refine jl (bQ (bQ (fq (OA Tryz.results50 ?_))))
 obtain rfl := fM hs
 subst wE
 obtain ⟨o1, o2, o3⟩ := h.lu 1 (C := (.own bz 51 sv x4 : Chunk)) rfl trivial
 exact ⟨o2, rfl, o1, o3⟩
def zP (DZ : List (Int × Int)) (i127 : Int) (J6 : List (List Val)) (nx130 : List (List Val) → Option LX.State) : Option LX.State :=
  (idx J6 i127).bind fun Ha => (M8 Ha DZ).bind fun y144 => nx130 (J6.set (i127).toNat y144)
def AJ (K8 : List LX.Frame) (fQ : LX.State) (J6 : List (List Val)) : Option LX.State :=
  some (⟨K8, J6, fQ.status, fQ.aK⟩ : LX.State)
def yn (DZ : List (Int × Int)) (i99 : Int) (K8 : List LX.Frame) (nx102 : List LX.Frame → Option LX.State) : Option LX.State :=
  (idx K8 i99).bind fun x105 => (M8 x105.regs DZ).bind fun J4 => nx102 (K8.set (i99).toNat ({ x105 with regs := J4 }))
def AL (DZ : List (Int × Int)) (fQ : LX.State) (u6 : List (List Val)) (K8 : List LX.Frame) : Option LX.State :=
  upto (zP DZ) (AJ K8 fQ) 0 ((u6.length : Int)).toNat u6
def uf (fQ : LX.State) (i67 : Int) (x68 : Int) (s : List (List Val) × List Int × List (Int × Int)) (nx70 : List (List Val) × List Int × List (Int × Int) → Option LX.State) : Option LX.State :=
  match s with | (u6, J7, DZ) => (idx fQ.cells x68).bind fun x78 => iK (x68 ∉ J7) (iK (Room 24 u6 [x78]) (nx70 ((u6 ++ [x78]), (J7 ++ [x68]), (D8 x68 i67 DZ))))
def vQ (fQ : LX.State) (s : List (List Val) × List Int × List (Int × Int)) : Option LX.State :=
  match s with | (u6, J7, DZ) => upto (yn DZ) (AL DZ fQ u6) 0 ((fQ.frames.length : Int)).toNat fQ.frames
def vR (AB : LX.Frame) (Al : List Val) (nx15 : List Val → Option LX.State) : Option LX.State :=
  iK (Room 16 Al AB.regs) (nx15 (Al ++ AB.regs))
def AO (N : Nat) (a : LX.State) (Al : List Val) : Option LX.State :=
  (Er N a.cells Al).bind fun y28 => bif decide ((y28.2 : Int) ≠ 0) then none else (Ep a).bind fun fQ => dZ (uf fQ) (vQ fQ) 0 y28.1 ([], ([] : List Int), ([] : List (Int × Int)))
def Fy (N : Nat) (a : LX.State) : Option LX.State :=
  each vR (AO N a) a.frames []
theorem M9 (N : Nat) (w0 : World) (M : BS) (hM : ∀ b, M b → b < w0.heap.size) (a : LX.State) (vP wF : Value) (ha0 : gB dL w0 BE M vP a.frames) (ha1 : gB (l9 bz) w0 BE M wF a.cells) (r : LX.State) (hs : Fy N a = some r) :
    Calls Tryz.prog 20 #[(.agg #[vP, wF, (I6 a.status), (I6 a.aK)])] w0 (fun e w' => Grow w0 w' ∧ ∃ uN, ∃ wR, ∃ BU, ∃ Ht, e = .returned (.agg #[uN, wR, .int .i64 r.status, .int .i64 r.aK]) ∧ Chunk.holds w' M (Chunk.own' ((cU uN wR r.frames BU r.cells Ht) : Chunk)) ((cU uN wR r.frames BU r.cells Ht) : Chunk) ∧ (∀ b, Chunk.own' ((cU uN wR r.frames BU r.cells Ht) : Chunk) b → w0.heap.size ≤ b)) := by
 refine aQ (args := [(.agg #[vP, wF, (I6 a.status), (I6 a.aK)])]) Tryz.func20 rfl Tryz.ntmps20 (bD rfl) ?_
 have h := SH.init hM
 replace h := h.fE 1 ha0 bA
 replace h := h.fE 2 ha1 (bN bA)
 refine nG (kM (cs := [vP, wF, (I6 a.status), (I6 a.aK)]) h 3 rfl rfl fun w b1 h => bI h 4 bC fun w b2 h => nJ (aa (ae (v := (.slice none 0 0)) rfl) (nK (aa (ag dP rfl) (aa (az h 3 rfl gL rfl rfl) (aa (bM bV rfl (h.gV 1 rfl)) (aa (ah (v := (I6 0)) rfl) (nN (aN ?_)))))))))
 replace h := h.yH (R := bz) (E := 51) 8
 refine gD (σ := Nat × Int × Value × List Val) (inl ([3, 5] ++ rg 20 9)) (fun ⟨k11, i12, v9, Al⟩ => [(3, v9), (20, (I6 i12))]) (fun ⟨k11, i12, v9, Al⟩ w => SH w0 M BE w (hset [(1, .sr dL vP a.frames), (2, .sr (l9 bz) wF a.cells), (3, .blk b1 [vP, wF, (I6 a.status), (I6 a.aK)]), (4, .blk b2 [(.slice none 0 0), (.slice none 0 0), (I6 0), (I6 0)]), (8, .own bz 51 v9 Al)]) ∧ i12 = (k11 : Int) ∧ each vR (AO N a) (a.frames.drop k11) Al = some r) (fun ⟨k11, i12, v9, Al⟩ => a.frames.length - k11) ⟨0, 0, (.slice none 0 0), []⟩ ⟨rfl, rfl, trivial⟩ ?_ ?_
 exact ⟨h.cn _, rfl, hs⟩
 rintro ⟨k11, i12, v9, Al⟩ w dR ⟨h, hik, hs⟩
 refine nG ?_
 refine aa (eO rfl rfl) (nN ?_)
 refine aM (gQ rfl (fun e16 => ?_) (fun e16 => ?_))
 refine aH (ak ?_)
 obtain ⟨AB, e17a, e17b⟩ := fG (hik ▸ e16)
 rw [e17b, dU] at hs
 generalize hnx15 : each vR (AO N a) (a.frames.drop (k11 + 1)) = nx15 at hs
 have e17r := fJ ((h.gV 1 rfl)).bT hik e16
 refine aM (aN (nG ?_))
 obtain ⟨b19, o20, cs21, h, r22, i18⟩ := h.xI 1 9 rfl bV rfl (ig hik) (fI hik e17a)
 obtain ⟨u23, rfl, g24⟩ := oQ r22
 replace h := h.dh 10 g24.up
 refine aa (i18 _ _ _ _ _ _ _ _ _ rfl rfl) (aa (jc (k := 0) (vs := [(I6 AB.proc), (I6 AB.at_), u23, (I6 AB.kD)]) h 9 rfl gz rfl rfl rfl (bD rfl)) (bI h 11 gz fun w b25 h => dK (vs := [(I6 AB.proc), (I6 AB.at_), u23, (I6 AB.kD)]) h 11 [(I6 AB.proc), (I6 AB.at_), u23, (I6 AB.kD)] rfl gz rfl rfl rfl rfl rfl (ai rfl (ai rfl (ai (h.iN 10 rfl).one (ai rfl aS)))) fun w h => nN (aD (aa (ah (v := v9) rfl) (aa (ag jJ rfl) (aa (az h 11 rfl jH rfl rfl) ?_))))))
 obtain ⟨a26, hs⟩ := bG hs
 refine mW (R := bz) (m := AB.regs) h 8 rfl (h.kL 10 rfl) lC rfl rfl rfl a26.1 a26.2 fun w u27 h => aa (ae (v := u27) rfl) (aA (ax (ak (aD (aa (dQ rfl rfl e17r) (aa (ah (v := (I6 ((i12 + 1)))) rfl) (aA (au ?_))))))))
 subst hnx15
 exact jM ⟨k11 + 1, i12 + 1, u27, (Al ++ AB.regs)⟩ ⟨h.cn _, by omega, hs⟩ (by have := oD e16; dsimp only; omega)
 rw [fH (hik ▸ e16), fO] at hs
 refine nE (aa (ag gJ rfl) (aa (az h 3 rfl jQ rfl rfl) (aa (ah (v := v9) rfl) ?_)))
 obtain ⟨y28, e29, hs⟩ := aL hs
 refine aW fnOk48 rfl rfl (QN N _ _ h.lt wF a.cells (h.gV 2 rfl) v9 Al (h.eT 8 rfl) _ e29) ?_
 rintro _ w ⟨Y1, u30, rfl, g31, g32⟩
 refine ⟨_, rfl, ?_⟩
 replace h := h.nz 12 Y1 g31 g32
 refine aa (ah (v := (.tuple #[u30, (I6 y28.2)])) rfl) (aa (bg rfl rfl) (aa (bg rfl rfl) (aa (ae (v := u30) rfl) (aa (ae (v := (I6 y28.2)) rfl) (nK (aa (ah (v := (I6 y28.2)) rfl) (aa (gM rfl rfl) (nN (aI hs rfl (fun c34 hs => ?_) (fun c34 hs => ?_))))))))))
 refine nG (aa (bU (vs := [vP, wF, (I6 a.status), (I6 a.aK)]) h 3 rfl bC rfl rfl rfl) (dK (vs := [vP, wF, (I6 a.status), (I6 a.aK)]) h 4 [vP, wF, (I6 a.status), (I6 a.aK)] rfl bC rfl rfl rfl rfl rfl (ai (h.PU 1 rfl).one (ai (h.PU 2 rfl).one (ai rfl (ai rfl aS)))) fun w h => nR (ay ?_)))
 cases hs
 refine nS (aa (bU (vs := [vP, wF, (I6 a.status), (I6 a.aK)]) h 3 rfl bC rfl rfl rfl) ?_)
 obtain ⟨fQ, e36, hs⟩ := aL hs
 refine aW Qr rfl rfl (Gj _ _ h.lt a vP wF (h.gV 1 rfl) (h.gV 2 rfl) _ e36) ?_
 rintro _ w ⟨k43, u37, Q7, Bj, J8, rfl, h41, h42⟩
 refine ⟨_, rfl, ?_⟩
 replace h := h.Mx 13 (C := (cU u37 Q7 fQ.frames Bj fQ.cells J8)) k43 ⟨⟨⟨trivial, trivial⟩, trivial⟩, trivial⟩ h41 h42
 replace h := h.cK 13 16 (by decide) rfl rfl
 replace h := h.cK 13 15 (by decide) rfl rfl
 replace h := h.cK 13 14 (by decide) rfl rfl
 refine dK (vs := [u37, Q7, (I6 fQ.status), (I6 fQ.aK)]) h 3 [u37, Q7, (I6 fQ.status), (I6 fQ.aK)] rfl bC rfl rfl rfl rfl rfl (ai (h.dD 13 rfl).one (ai (h.dD 15 rfl).one (ai rfl (ai rfl aS)))) fun w h => nJ (CQ h 17 fun w QK h => uj h 18 V4 fun w b45 h => gP h 18 [(.map (some QK))] rfl V4 rfl rfl rfl rfl rfl fun w h => nJ (aa (ae (v := (.slice none 0 0)) rfl) (nK (aa (ah (v := u30) rfl) (aa (bM bZ rfl (h.eT 12 rfl)) (aa (ah (v := (I6 0)) rfl) (nN (aN ?_))))))))
 replace h := h.freeze 12 rfl
 replace h := h.famMv0 16 rfl
 replace h := h.yH (R := (eD Val).raw) (E := 47) 25
 replace h := h.Qb (R := bz) (Es := 51) 26
 refine gD (σ := Nat × Int × Value × List Value × List (List Val) × List Int × List (Int × Int)) (inl ([9, 10, 11] ++ rg 44 17)) (fun ⟨k66, i67, v61, LF, u6, J7, DZ⟩ => [(9, v61), (44, (I6 i67))]) (fun ⟨k66, i67, v61, LF, u6, J7, DZ⟩ w => SH w0 M BE w (hset [(3, .blk b1 [u37, Q7, (I6 fQ.status), (I6 fQ.aK)]), (4, .blk b2 [(.slice none 0 0), (.slice none 0 0), (I6 0), (I6 0)]), (12, .rd eY u30 y28.1), (13, .own bB.raw 49 u37 (List.zip fQ.frames Bj)), (14, .iJ (ek bz 51 hn Bj (List.map bB.sub fQ.frames))), (15, .own (eD Val).raw 47 Q7 (List.zip fQ.cells J8)), (16, .iJ (ek bz 51 (hmv J7) J8 (List.map (eD Val).sub fQ.cells))), (17, .mp QK (List.map (fun p => (p.1, (fun x => Value.int .i64 x) p.2)) DZ)), (18, .blk b45 [(.map (some QK))]), (25, .own (eD Val).raw 47 v61 (List.zip u6 LF)), (26, .iJ (ek bz 51 hn LF (List.map (eD Val).sub u6)))]) ∧ i67 = (k66 : Int) ∧ dZ (uf fQ) (vQ fQ) i67 (y28.1.drop k66) (u6, J7, DZ) = some r) (fun ⟨k66, i67, v61, LF, u6, J7, DZ⟩ => y28.1.length - k66) ⟨0, 0, (.slice none 0 0), ([] : List Value), [], ([] : List Int), ([] : List (Int × Int))⟩ ⟨rfl, rfl, trivial⟩ ?_ ?_
 exact ⟨h.cn _, rfl, hs⟩
 rintro ⟨k66, i67, v61, LF, u6, J7, DZ⟩ w dR ⟨h, hik, hs⟩
 refine nG ?_
 refine aa (eO rfl rfl) (nN ?_)
 refine aM (gQ rfl (fun TG => ?_) (fun TG => ?_))
 refine aH (ak ?_)
 obtain ⟨x68, e72a, e72b⟩ := fG (hik ▸ TG)
 rw [e72b, iQ] at hs
 generalize hnx70 : dZ (uf fQ) (vQ fQ) (i67 + 1) (y28.1.drop (k66 + 1)) = nx70 at hs
 have e72r := fJ ((h.kL 12 rfl)).bT hik TG
 refine aM (aN (nG (aa (ah (v := (I6 i67)) rfl) ?_)))
 obtain ⟨b74, o75, cs76, h, r77, i73⟩ := h.Cn 12 27 rfl bZ rfl (ig hik) (fI hik e72a)
 obtain rfl := r77
 refine aa (i73 _ _ _ _ _ _ _ _ _ rfl rfl) (aa (fo (k := 0) h 27 rfl aR rfl rfl) (aa (ae (v := (I6 i67)) rfl) (aa (ae (v := (I6 x68)) rfl) (nJ (aa (az h 18 rfl V4 rfl rfl) (aa (ah (v := (I6 x68)) rfl) (aa (ah (v := (I6 i67)) rfl) (EW (kT := (List.map (fun p => (p.1, (fun x => Value.int .i64 x) p.2)) (D8 x68 i67 DZ))) h 17 rfl V3 rfl rfl rfl (Ga (f := (fun x => Value.int .i64 x)) _) fun w h => nN (aD (aa (ah (v := v61) rfl) (aa (ag gJ rfl) (aa (az h 3 rfl jQ rfl rfl) (aa (ah (v := (I6 x68)) rfl) ?_)))))))))))))
 obtain ⟨x78, e79, hs⟩ := aL hs
 obtain ⟨a83, hs⟩ := bG hs
 obtain ⟨u84, e85, h⟩ := h.mvOpenL 16 28 x78 rfl rfl (by decide) (aC e79).1 (aC e79).2 a83 rfl
 obtain ⟨b81, q82, i80⟩ := h.rO 15 rfl dV rfl (aC e79).1 (eU (aC e79).2 e85)
 refine aa (i80 _ _ _ _ _ _ _ _ _ rfl rfl) ?_
 obtain ⟨cs86, m87, r88⟩ := h.uQ 15 rfl q82 (eU (aC e79).2 e85)
 obtain ⟨rfl, -⟩ := r88
 refine aa (lh (k := 0) m87 jH rfl rfl) ?_
 have u89o : (Value.oneCell' u84) = true := (h.dD 28 rfl).one
 refine sV (R := (eD Val).raw) (vs := [u84]) (xs := List.zip [x78] [u84]) h 29 lv rfl rfl rfl ⟨⟨gH u89o, u89o⟩, trivial⟩ rfl fun w u89 h => ?_
 replace h := h.qh (N := (eD Val)) 28 x78 rfl rfl
 obtain ⟨a90, hs⟩ := bG hs
 have z92 := h.gm 26 rfl
 have z92b := h.gm 28 rfl
 refine mW (R := (eD Val).raw) (m := List.zip [x78] [u84]) h 25 rfl (h.eT 29 rfl) lv rfl rfl rfl (by rw [cZ z92, cZ z92b]; exact a90.1) (by rw [cZ z92, cZ z92b]; exact a90.2) fun w u91 h => ?_
 replace h := (h.qf 26 28 rfl rfl (by decide)).fV 29
 rw [qg z92, ← List.map_append] at h
 obtain ⟨us93, us93e⟩ : ∃ z, z = LF ++ [u84] := ⟨_, rfl⟩
 rw [← us93e] at h
 refine aa (ae (v := u91) rfl) (aA (ax (ak (aD (aa (dQ rfl rfl e72r) (aa (ah (v := (I6 ((i67 + 1)))) rfl) (aA (au ?_))))))))
 subst hnx70
 exact jM ⟨k66 + 1, i67 + 1, u91, us93, (u6 ++ [x78]), (J7 ++ [x68]), (D8 x68 i67 DZ)⟩ ⟨h.cn _, by omega, hs⟩ (by have := oD TG; dsimp only; omega)
 rw [fH (hik ▸ TG), ll] at hs
 refine nE (aa (sU (c1 := []) (c2 := [(.pointer (some ⟨b45, 0, none⟩))]) rfl rfl) (aa (ae (v := (.func (.func 50) #[] #[(.pointer (some ⟨b45, 0, none⟩))])) rfl) (nK (aa (ag dP rfl) (aa (az h 3 rfl gL rfl rfl) (aa (nA (N := bB) bV rfl (h.eT 13 rfl) (h.gm 14 rfl)) (aa (ah (v := (I6 0)) rfl) (nN (aN ?_)))))))))
 have hli99 := Qf (h.eT 13 rfl) (h.gm 14 rfl)
 refine gD (σ := Nat × Int × List LX.Frame) (inl ([14] ++ rg 65 9)) (fun ⟨k98, i99, K8⟩ => [(65, (I6 i99))]) (fun ⟨k98, i99, K8⟩ w => SH w0 M BE w (hset [(3, .blk b1 [u37, Q7, (I6 fQ.status), (I6 fQ.aK)]), (4, .blk b2 [(.slice none 0 0), (.slice none 0 0), (I6 0), (I6 0)]), (13, .own bB.raw 49 u37 (List.zip K8 Bj)), (14, .iJ (ek bz 51 hn Bj (List.map bB.sub K8))), (15, .own (eD Val).raw 47 Q7 (List.zip fQ.cells J8)), (16, .iJ (ek bz 51 (hmv J7) J8 (List.map (eD Val).sub fQ.cells))), (17, .mp QK (List.map (fun p => (p.1, (fun x => Value.int .i64 x) p.2)) DZ)), (18, .blk b45 [(.map (some QK))]), (25, .own (eD Val).raw 47 v61 (List.zip u6 LF)), (26, .iJ (ek bz 51 hn LF (List.map (eD Val).sub u6)))]) ∧ i99 = (k98 : Int) ∧ upto (yn DZ) (AL DZ fQ u6) i99 (((fQ.frames.length : Int)).toNat - k98) K8 = some r) (fun ⟨k98, i99, K8⟩ => ((fQ.frames.length : Int)).toNat - k98) ⟨0, 0, fQ.frames⟩ ⟨rfl, trivial⟩ ?_ ?_
 exact ⟨h.cn _, rfl, hs⟩
 rintro ⟨k98, i99, K8⟩ w dR ⟨h, hik, hs⟩
 refine nG ?_
 refine aa (eO rfl rfl) (nN ?_)
 refine aM (gQ rfl (fun e103 => ?_) (fun e103 => ?_))
 refine aH (ak ?_)
 rw [sW (by have := oD e103; omega)] at hs
 generalize hnx102 : upto (yn DZ) (AL DZ fQ u6) (i99 + 1) (((fQ.frames.length : Int)).toNat - (k98 + 1)) = nx102 at hs
 have e104r : kJ (i99 + 1) := (by have := oD e103; have := hli99; exact kJ.mk (by omega) (by omega))
 refine aM (aN (nG ?_))
 obtain ⟨x105, e106, hs⟩ := aL hs
 obtain ⟨GG, e111, h⟩ := h.mq 14 30 x105.regs rfl rfl (by decide) (aC e106).2 rfl
 obtain ⟨b108, q109, i107⟩ := h.rO 13 rfl bV rfl (aC e106).1 (eU (aC e106).2 e111)
 refine aa (i107 _ _ _ _ _ _ _ _ _ rfl rfl) ?_
 obtain ⟨cs112, m113, r114⟩ := h.uQ 13 rfl q109 (eU (aC e106).2 e111)
 obtain ⟨rfl, -⟩ := r114
 refine aa (kS (k := 0) (vs := [(I6 x105.proc), (I6 x105.at_), GG, (I6 x105.kD)]) m113 gz rfl rfl rfl (bD rfl)) (bI h 31 gz fun w b115 h => dK (vs := [(I6 x105.proc), (I6 x105.at_), GG, (I6 x105.kD)]) h 31 [(I6 x105.proc), (I6 x105.at_), GG, (I6 x105.kD)] rfl gz rfl rfl rfl rfl rfl (ai rfl (ai rfl (ai (h.dD 30 rfl).one (ai rfl aS)))) fun w h => nN (aD (aa (ah (v := (.func (.func 50) #[] #[(.pointer (some ⟨b45, 0, none⟩))])) rfl) (aa (ag jJ rfl) (aa (az h 31 rfl jH rfl rfl) ?_)))))
 obtain ⟨l116a, l116b, l116c⟩ := h.Aj 30 (C := (.own bz 51 GG x105.regs : Chunk)) rfl trivial
 obtain ⟨J4, e118, hs⟩ := aL hs
 refine aW ZO rfl rfl (Sa _ _ l116c b45 QK GG x105.regs l116a l116b DZ (h.TM 17 rfl) (fun hb => h.apart 30 17 (by decide) _ hb rfl) (h.uO 18 rfl) (fun hb => h.apart 30 18 (by decide) _ hb rfl) _ e118) ?_
 rintro _ w ⟨k119, rfl, h120, h121⟩
 refine ⟨_, rfl, ?_⟩
 replace h := h.back 30 (C := (.own bz 51 GG x105.regs : Chunk)) (C' := (.own bz 51 GG J4 : Chunk)) rfl trivial h120 k119 h121
 refine aA (ax (ak (aD (aa (dQ rfl rfl e104r) (aa (ah (v := (I6 ((i99 + 1)))) rfl) (aA ?_))))))
 replace h := h.mo 13 14 30 ({ x105 with regs := J4 }) rfl rfl rfl (by decide) (by decide) (by decide) (aC e106).2 e111 rfl
 refine au ?_
 subst hnx102
 exact jM ⟨k98 + 1, i99 + 1, (K8.set (i99).toNat ({ x105 with regs := J4 }))⟩ ⟨h.cn _, by omega, hs⟩ (by have := oD e103; dsimp only; omega)
 rw [sZ (by have := of_decide_eq_false e103; omega)] at hs
 refine jl (bQ (bQ (fq (ak (aM (nG (aa (ah (v := v61) rfl) (aa (nA (N := (eD Val)) dV rfl (h.eT 25 rfl) (h.gm 26 rfl)) (aa (ah (v := (I6 0)) rfl) (nN (aN ?_)))))))))))
 have hli127 := Qf (h.eT 25 rfl) (h.gm 26 rfl)
 refine gD (σ := Nat × Int × List (List Val)) (inl ([16] ++ rg 76 8)) (fun ⟨Sb, i127, J6⟩ => [(76, (I6 i127))]) (fun ⟨Sb, i127, J6⟩ w => SH w0 M BE w (hset [(3, .blk b1 [u37, Q7, (I6 fQ.status), (I6 fQ.aK)]), (4, .blk b2 [(.slice none 0 0), (.slice none 0 0), (I6 0), (I6 0)]), (13, .own bB.raw 49 u37 (List.zip K8 Bj)), (14, .iJ (ek bz 51 hn Bj (List.map bB.sub K8))), (15, .own (eD Val).raw 47 Q7 (List.zip fQ.cells J8)), (16, .iJ (ek bz 51 (hmv J7) J8 (List.map (eD Val).sub fQ.cells))), (17, .mp QK (List.map (fun p => (p.1, (fun x => Value.int .i64 x) p.2)) DZ)), (18, .blk b45 [(.map (some QK))]), (25, .own (eD Val).raw 47 v61 (List.zip J6 LF)), (26, .iJ (ek bz 51 hn LF (List.map (eD Val).sub J6)))]) ∧ i127 = (Sb : Int) ∧ upto (zP DZ) (AJ K8 fQ) i127 (((u6.length : Int)).toNat - Sb) J6 = some r) (fun ⟨Sb, i127, J6⟩ => ((u6.length : Int)).toNat - Sb) ⟨0, 0, u6⟩ ⟨rfl, trivial⟩ ?_ ?_
 exact ⟨h.cn _, rfl, hs⟩
 rintro ⟨Sb, i127, J6⟩ w dR ⟨h, hik, hs⟩
 refine nG ?_
 refine aa (eO rfl rfl) (nN ?_)
 refine aM (gQ rfl (fun QP => ?_) (fun QP => ?_))
 refine aH (ak ?_)
 rw [sW (by have := oD QP; omega)] at hs
 generalize hnx130 : upto (zP DZ) (AJ K8 fQ) (i127 + 1) (((u6.length : Int)).toNat - (Sb + 1)) = nx130 at hs
 have e132r : kJ (i127 + 1) := (by have := oD QP; have := hli127; exact kJ.mk (by omega) (by omega))
 refine aM (aN (nG ?_))
 obtain ⟨Ha, e134, hs⟩ := aL hs
 obtain ⟨u138, Xv, h⟩ := h.mq 26 32 Ha rfl rfl (by decide) (aC e134).2 rfl
 obtain ⟨b136, q137, i135⟩ := h.rO 25 rfl dV rfl (aC e134).1 (eU (aC e134).2 Xv)
 refine aa (i135 _ _ _ _ _ _ _ _ _ rfl rfl) ?_
 obtain ⟨cs140, m141, r142⟩ := h.uQ 25 rfl q137 (eU (aC e134).2 Xv)
 obtain ⟨rfl, -⟩ := r142
 refine aa (lh (k := 0) m141 jH rfl rfl) (aa (ae (v := u138) rfl) (nN (aD (aa (ah (v := (.func (.func 50) #[] #[(.pointer (some ⟨b45, 0, none⟩))])) rfl) (aa (ah (v := u138) rfl) ?_)))))
 obtain ⟨l143a, l143b, l143c⟩ := h.Aj 32 (C := (.own bz 51 u138 Ha : Chunk)) rfl trivial
 obtain ⟨y144, e145, hs⟩ := aL hs
 refine aW ZO rfl rfl (Sa _ _ l143c b45 QK u138 Ha l143a l143b DZ (h.TM 17 rfl) (fun hb => h.apart 32 17 (by decide) _ hb rfl) (h.uO 18 rfl) (fun hb => h.apart 32 18 (by decide) _ hb rfl) _ e145) ?_
 rintro _ w ⟨k146, rfl, h147, h148⟩
 refine ⟨_, rfl, ?_⟩
 replace h := h.back 32 (C := (.own bz 51 u138 Ha : Chunk)) (C' := (.own bz 51 u138 y144 : Chunk)) rfl trivial h147 k146 h148
 refine aA (ax (ak (aD (aa (dQ rfl rfl e132r) (aa (ah (v := (I6 ((i127 + 1)))) rfl) (aA ?_))))))
 replace h := h.mo 25 26 32 y144 rfl rfl rfl (by decide) (by decide) (by decide) (aC e134).2 Xv rfl
 refine au ?_
 subst hnx130
 exact jM ⟨Sb + 1, i127 + 1, (J6.set (i127).toNat y144)⟩ ⟨h.cn _, by omega, hs⟩ (by have := oD QP; dsimp only; omega)
 rw [sZ (by have := of_decide_eq_false QP; omega)] at hs
 refine nE (aa (ah (v := v61) rfl) (aa (ag gJ rfl) (gP h 3 [u37, v61, (I6 fQ.status), (I6 fQ.aK)] rfl jQ rfl rfl rfl rfl (h.dD 25 rfl).one fun w h => nJ (aa (bU (vs := [u37, v61, (I6 fQ.status), (I6 fQ.aK)]) h 3 rfl bC rfl rfl rfl) (dK (vs := [u37, v61, (I6 fQ.status), (I6 fQ.aK)]) h 4 [u37, v61, (I6 fQ.status), (I6 fQ.aK)] rfl bC rfl rfl rfl rfl rfl (ai (h.dD 13 rfl).one (ai (h.dD 25 rfl).one (ai rfl (ai rfl aS)))) fun w h => nR (OL (vs := [u37, v61, (I6 fQ.status), (I6 fQ.aK)]) Tryz.results20 rfl h 4 rfl bC rfl ?_))))))
 replace h := h.pair 13 14 (by decide)
 replace h := h.pair 13 25 (by decide)
 replace h := h.pair 13 26 (by decide)
 obtain rfl := fM hs
 obtain ⟨o1, o2, o3⟩ := h.lu 13 (C := (cU u37 v61 K8 Bj J6 LF)) rfl ⟨⟨⟨trivial, trivial⟩, trivial⟩, trivial⟩
 exact ⟨o2, u37, v61, Bj, LF, rfl, o1, IX o3⟩
def vz (a : Ins) (y4 : List LX.Frame) (y7 : List (List Val)) (y8 : Int) (y9 : Int) : Option (Bool × LX.State) :=
  bif decide (((y7.length : Int) : Int) = 24) then some (false, (⟨y4, y7, y8, y9⟩ : LX.State)) else iK (kJ ((y4.length : Int) - 1)) ((idx y4 ((y4.length : Int) - 1)).bind fun vY => (idx vY.regs a.a).bind fun x22 => iK (0 ≤ a.b ∧ a.b * 16 ≤ 140737488355328) (iK (Room 24 y7 [(List.replicate a.b.toNat (⟨0, 0⟩ : Val))]) (some (true, (⟨(y4.set (((y4.length : Int) - 1)).toNat ({ vY with regs := (vY.regs.set (a.a).toNat (⟨2, (y7.length : Int)⟩ : Val)) })), (y7 ++ [(List.replicate a.b.toNat (⟨0, 0⟩ : Val))]), y8, y9⟩ : LX.State)))))
def Na (N : Nat) (sx : LX.State) (a : Ins) : Option (Bool × LX.State) :=
  bif decide (((sx.cells.length : Int) : Int) = 24) then (Fy N sx).bind fun y39 => vz a y39.frames y39.cells y39.status y39.aK else vz a sx.frames sx.cells sx.status sx.aK
theorem Nb (N : Nat) (w0 : World) (M : BS) (hM : ∀ b, M b → b < w0.heap.size) (sb : Nat) (sx : LX.State) (iA vs1 : Value) (iW iI : List Value) (hC : Chunk.holds w0 M (Chunk.own' (cT sb iA vs1 (sx.status) (sx.aK) sx.frames iW sx.cells iI)) (cT sb iA vs1 (sx.status) (sx.aK) sx.frames iW sx.cells iI)) (hap : ∀ b, Chunk.own' (cT sb iA vs1 (sx.status) (sx.aK) sx.frames iW sx.cells iI) b → ¬ M b) (a : Ins) (AX : Value) (ha4 : iL eY w0 (fun b => M b ∨ (cT sb iA vs1 (sx.status) (sx.aK) sx.frames iW sx.cells iI).own' b) AX a.args) (r : Bool × LX.State) (hs : Na N sx a = some r) :
    Calls Tryz.prog 89 #[(.pointer (some ⟨sb, 0, none⟩)), (.agg #[(I6 a.op), (I6 a.a), (I6 a.b), (I6 a.c), AX])] w0 (fun e w' => aP (Chunk.own' (cT sb iA vs1 (sx.status) (sx.aK) sx.frames iW sx.cells iI)) w0 w' ∧ ∃ Ma, ∃ Mc, ∃ Md, ∃ Me, e = .returned (.bool r.1) ∧ Chunk.holds w' M (Chunk.own' (cT sb Ma Mc r.2.status r.2.aK r.2.frames Md r.2.cells Me)) (cT sb Ma Mc r.2.status r.2.aK r.2.frames Md r.2.cells Me) ∧ (∀ b, Chunk.own' (cT sb Ma Mc r.2.status r.2.aK r.2.frames Md r.2.cells Me) b → b < w0.heap.size → Chunk.own' (cT sb iA vs1 (sx.status) (sx.aK) sx.frames iW sx.cells iI) b)) := by
 refine aQ (args := [(.pointer (some ⟨sb, 0, none⟩)), (.agg #[(I6 a.op), (I6 a.a), (I6 a.b), (I6 a.c), AX])]) Tryz.func89 rfl Tryz.ntmps89 (bD rfl) ?_
 have h := SH.IQ hM hC hap
 replace h := h.E5 6 ha4 D6
 generalize wE : (cT sb iA vs1 (sx.status) (sx.aK) sx.frames iW sx.cells iI).own' = K0 at h
 replace h := h.cK 1 5 (by decide) rfl rfl
 replace h := h.cK 1 4 (by decide) rfl rfl
 replace h := h.cK 1 3 (by decide) rfl rfl
 replace h := h.cK 1 2 (by decide) rfl rfl
 refine nG (kM (cs := [(I6 a.op), (I6 a.a), (I6 a.b), (I6 a.c), AX]) h 7 rfl rfl fun w b1 h => aa (ae (v := (.bool (false))) rfl) (nN (cu (σ := Value × List Value × List LX.Frame × Value × List Value × List (List Val) × Int × Int) (inl (rg 5 12)) (fun ⟨v2, Y3, y4, v5, Og, y7, y8, y9⟩ => []) (fun ⟨v2, Y3, y4, v5, Og, y7, y8, y9⟩ w => SH w0 M K0 w (hset [(1, .blk sb [v2, v5, (I6 y8), (I6 y9)]), (6, .rd eY AX a.args), (7, .blk b1 [(I6 a.op), (I6 a.a), (I6 a.b), (I6 a.c), AX]), (8, .own bB.raw 49 v2 (List.zip y4 Y3)), (9, .iJ (ek bz 51 hn Y3 (List.map bB.sub y4))), (10, .own (eD Val).raw 47 v5 (List.zip y7 Og)), (11, .iJ (ek bz 51 hn Og (List.map (eD Val).sub y7)))]) ∧ vz a y4 y7 y8 y9 = some r) ?_ ?_)))
 rintro ⟨v2, Y3, y4, v5, Og, y7, y8, y9⟩ w dR ⟨h, hs⟩
 refine aM (nG (aa (ah (v := (.pointer (some ⟨sb, 0, none⟩))) rfl) (aa (aX rfl) (aa (ag gJ rfl) (aa (az h 1 rfl jQ rfl rfl) (aa (nA (N := (eD Val)) dV rfl (h.eT 10 rfl) (h.gm 11 rfl)) (aa (bu rfl rfl) (nN (aI hs rfl (fun c10 hs => ?_) (fun c10 hs => ?_))))))))))
 refine nG (aa (ae (v := (.bool (false))) rfl) (nR (ay (bR (v := (.bool (false))) Tryz.results89 rfl ?_))))
 replace h := h.pair 1 8 (by decide)
 replace h := h.pair 1 9 (by decide)
 replace h := h.pair 1 10 (by decide)
 replace h := h.pair 1 11 (by decide)
 obtain rfl := fM hs
 subst wE
 obtain ⟨o1, o2, o3⟩ := h.lu 1 (C := (cT sb v2 v5 (y8) (y9) y4 Y3 y7 Og)) rfl ⟨⟨⟨⟨trivial, trivial⟩, trivial⟩, trivial⟩, trivial⟩
 exact ⟨o2, v2, v5, Y3, Og, rfl, o1, o3⟩
 refine aH (ak (aM (mZ 22 mixed (by kernel_rfl) h fun w h => aG (ah (v := (.pointer (some ⟨sb, 0, none⟩))) rfl) (aG (aX rfl) (aG (ag dP rfl) (aG (az h 1 rfl gL rfl rfl) (aG (ah (v := (.pointer (some ⟨sb, 0, none⟩))) rfl) (aG (aX rfl) (aG (ag dP rfl) (aG (az h 1 rfl gL rfl rfl) (aG (nA (N := bB) bV rfl (h.eT 8 rfl) (h.gm 9 rfl)) ?_)))))))))))
 obtain ⟨a11, hs⟩ := bG hs
 refine aG (oh rfl rfl a11) ?_
 obtain ⟨vY, e13, hs⟩ := aL hs
 obtain ⟨EF, e18, h⟩ := h.mq 9 12 vY.regs rfl rfl (by decide) (aC e13).2 rfl
 obtain ⟨b15, q16, i14⟩ := h.rO 8 rfl bV rfl (aC e13).1 (eU (aC e13).2 e18)
 refine aG (i14 _ _ _ _ _ _ _ _ _ rfl rfl) (aG (ag jJ rfl) ?_)
 obtain ⟨cs19, m20, r21⟩ := h.uQ 8 rfl q16 (eU (aC e13).2 e18)
 obtain ⟨rfl, -⟩ := r21
 refine aG (lh (k := 2) m20 jH rfl rfl) (aG (ag jy rfl) (aG (az h 7 rfl aR rfl rfl) (aG (ah (v := (.pointer (some ⟨sb, 0, none⟩))) rfl) (aG (aX rfl) (aG (ag gJ rfl) (aG (az h 1 rfl jQ rfl rfl) (aG (nA (N := (eD Val)) dV rfl (h.eT 10 rfl) (h.gm 11 rfl)) (aG (fe (pv := [(0, (I6 2)), (1, (I6 ((y7.length : Int))))]) (out := [(I6 2), (I6 ((y7.length : Int)))]) qV rfl ⟨0, 1, [(I6 2)], rfl, rfl, rfl, bD rfl, ⟨1, 1, [(I6 ((y7.length : Int)))], rfl, rfl, rfl, bD rfl, rfl⟩⟩) ?_))))))))
 obtain ⟨x22, e23, hs⟩ := aL hs
 obtain ⟨b25, q26, i24⟩ := h.rO 12 rfl aZ rfl (aC e23).1 (aC e23).2
 refine aG (i24 _ _ _ _ _ _ _ _ _ rfl rfl) (wz (rX (a' := (⟨2, (y7.length : Int)⟩ : Val)) (vs := [(I6 2), (I6 ((y7.length : Int)))]) h 12 rfl q26 rfl (aC e23).2 aY rfl rfl rfl rfl rfl fun w h k27 => nN (aM (lq (L := (fun b => ob v5 b ∨ b = sb)) mixed h fun w h => bH 0 (aP.refl _ _) rfl aj (by kernel_rfl) (by kernel_rfl) (by kernel_rfl) (fun w hk => ah (v := (.pointer (some ⟨sb, 0, none⟩))) rfl) (bH 1 (aP.refl _ _) rfl aj (by kernel_rfl) (by kernel_rfl) (by kernel_rfl) (fun w hk => ah (v := (.pointer (some ⟨sb, 0, none⟩))) rfl) (bH 2 (aP.refl _ _) rfl aj (by kernel_rfl) (by kernel_rfl) (by kernel_rfl) (fun w hk => aX rfl) (bH 3 (aP.refl _ _) rfl aj (by kernel_rfl) (by kernel_rfl) (by kernel_rfl) (fun w hk => ag gJ rfl) (bH 5 (aP.refl _ _) rfl aj (by kernel_rfl) (by kernel_rfl) (by kernel_rfl) (fun w hk => ag gN rfl) (bH 6 (aP.refl _ _) rfl aj (by kernel_rfl) (by kernel_rfl) (by kernel_rfl) (fun w hk => have h := h.wN 10 1 (by decide) rfl rfl hk; az h 7 rfl aR rfl rfl) ?_)))))))))
 obtain ⟨Sc, hs⟩ := bG hs
 obtain ⟨Dp, hs⟩ := bG hs
 obtain ⟨QQ, ws36e⟩ : ∃ x, x = w := ⟨_, rfl⟩
 have nD : aP (fun b => ob v5 b ∨ b = sb) QQ w := ws36e ▸ aP.refl (fun b => ob v5 b ∨ b = sb) w
 refine rU ws36e.symm (om 4 7 (by kernel_rfl) rfl aj rfl aj ?_ ?_)
 refine aa (az h 1 rfl jQ rfl rfl) (aA (aT nD (bE 7 (by kernel_rfl) rfl aj (uu (R := bz) (zs := [(I6 0), (I6 0)]) (a := (⟨0, 0⟩ : Val)) h 97 lC aY rfl (by decide) rfl rfl Sc rfl (fun _ _ => rfl) fun w mE h J9 Ka => ?_))))
 have XC : ∀ b, ob mE b → QQ.heap.size ≤ b := fun b hb => Nat.le_trans nD.size (Ka b hb)
 replace nD := nD.grow J9
 refine aA (aT nD (bE 8 (by kernel_rfl) rfl aj ?_))
 have xu : (Value.oneCell' mE) = true := (h.dD 97 rfl).one
 refine xL (R := (eD Val).raw) (vs := [mE]) (xs := List.zip [(List.replicate a.b.toNat (⟨0, 0⟩ : Val))] [mE]) h 109 lv rfl rfl rfl ⟨⟨gH xu, xu⟩, trivial⟩ rfl fun w Fz h Dq Dr => ?_
 have O4 : ∀ b, ob Fz b → QQ.heap.size ≤ b := fun b hb => Nat.le_trans nD.size (Dr b hb)
 replace nD := nD.grow Dq
 replace h := h.qh (N := (eD Val)) 97 (List.replicate a.b.toNat (⟨0, 0⟩ : Val)) rfl rfl
 refine aA (aT nD (bE 9 (by kernel_rfl) rfl aj ?_))
 have vB := h.gm 11 rfl
 have xw := h.gm 97 rfl
 have O5 := nD.size
 refine ng (R := (eD Val).raw) (m := List.zip [(List.replicate a.b.toNat (⟨0, 0⟩ : Val))] [mE]) h 10 rfl (h.eT 109 rfl) lv rfl rfl rfl (by rw [cZ vB, cZ xw]; exact Dp.1) (by rw [cZ vB, cZ xw]; exact Dp.2) fun w rf h Dt Du => ?_
 have O6 : ∀ b, ob rf b → b < QQ.heap.size → ob v5 b := fun b hb hl => Du b hb (Nat.lt_of_lt_of_le hl (nD).size)
 replace nD := aP.step nD Dt (fun _ hx _ => .inl (hx))
 replace h := (h.qf 11 97 rfl rfl (by decide)).fV 109
 rw [qg vB, ← List.map_append] at h
 obtain ⟨xx, Bl⟩ : ∃ z, z = Og ++ [mE] := ⟨_, rfl⟩
 rw [← Bl] at h
 refine aA (aT nD (dN 10 nD rfl (by kernel_rfl) (fun w hk => aX rfl) (dN 11 nD rfl (by kernel_rfl) (fun w hk => ag gJ rfl) (bE 12 (by kernel_rfl) rfl aj (oC h 1 [v2, rf, (I6 y8), (I6 y9)] rfl jQ rfl rfl rfl rfl (h.dD 10 rfl).one fun w h Dv => ?_)))))
 replace nD := aP.step nD Dv (fun _ hx _ => .inr (hx))
 refine aA (aT nD (gG (by kernel_rfl) (ak (nG (aa (ae (v := (.bool (true))) rfl) (nR (bR (v := (.bool (true))) Tryz.results89 rfl ?_)))))))
 replace h := h.mo 8 9 12 ({ vY with regs := (vY.regs.set (a.a).toNat (⟨2, (y7.length : Int)⟩ : Val)) }) rfl rfl rfl (by decide) (by decide) (by decide) (aC e13).2 e18 rfl
 replace h := h.pair 1 8 (by decide)
 replace h := h.pair 1 9 (by decide)
 replace h := h.pair 1 10 (by decide)
 replace h := h.pair 1 11 (by decide)
 obtain rfl := fM hs
 subst wE
 obtain ⟨o1, o2, o3⟩ := h.lu 1 (C := (cT sb v2 rf (y8) (y9) (y4.set (((y4.length : Int) - 1)).toNat ({ vY with regs := (vY.regs.set (a.a).toNat (⟨2, (y7.length : Int)⟩ : Val)) })) Y3 (y7 ++ [(List.replicate a.b.toNat (⟨0, 0⟩ : Val))]) xx)) rfl ⟨⟨⟨⟨trivial, trivial⟩, trivial⟩, trivial⟩, trivial⟩
 exact ⟨o2, v2, rf, Y3, xx, rfl, o1, o3⟩
 refine uu (R := bz) (zs := [(I6 0), (I6 0)]) (a := (⟨0, 0⟩ : Val)) h 97 lC aY rfl (by decide) rfl rfl Sc rfl (fun _ _ => rfl) fun w mE h J9 Ka => ?_
 have XC : ∀ b, ob mE b → QQ.heap.size ≤ b := fun b hb => Nat.le_trans nD.size (Ka b hb)
 replace nD := nD.grow J9
 refine aA (aT nD (om 4 8 (by kernel_rfl) rfl aj rfl aj ?_ ?_))
 refine aa (az h 1 rfl jQ rfl rfl) (aA (aT nD (bE 8 (by kernel_rfl) rfl aj ?_)))
 have xu : (Value.oneCell' mE) = true := (h.dD 97 rfl).one
 refine xL (R := (eD Val).raw) (vs := [mE]) (xs := List.zip [(List.replicate a.b.toNat (⟨0, 0⟩ : Val))] [mE]) h 109 lv rfl rfl rfl ⟨⟨gH xu, xu⟩, trivial⟩ rfl fun w Fz h Dq Dr => ?_
 have O4 : ∀ b, ob Fz b → QQ.heap.size ≤ b := fun b hb => Nat.le_trans nD.size (Dr b hb)
 replace nD := nD.grow Dq
 replace h := h.qh (N := (eD Val)) 97 (List.replicate a.b.toNat (⟨0, 0⟩ : Val)) rfl rfl
 refine aA (aT nD (bE 9 (by kernel_rfl) rfl aj ?_))
 have vB := h.gm 11 rfl
 have xw := h.gm 97 rfl
 have O5 := nD.size
 refine ng (R := (eD Val).raw) (m := List.zip [(List.replicate a.b.toNat (⟨0, 0⟩ : Val))] [mE]) h 10 rfl (h.eT 109 rfl) lv rfl rfl rfl (by rw [cZ vB, cZ xw]; exact Dp.1) (by rw [cZ vB, cZ xw]; exact Dp.2) fun w rf h Dt Du => ?_
 have O6 : ∀ b, ob rf b → b < QQ.heap.size → ob v5 b := fun b hb hl => Du b hb (Nat.lt_of_lt_of_le hl (nD).size)
 replace nD := aP.step nD Dt (fun _ hx _ => .inl (hx))
 replace h := (h.qf 11 97 rfl rfl (by decide)).fV 109
 rw [qg vB, ← List.map_append] at h
 obtain ⟨xx, Bl⟩ : ∃ z, z = Og ++ [mE] := ⟨_, rfl⟩
 rw [← Bl] at h
 refine aA (aT nD (dN 10 nD rfl (by kernel_rfl) (fun w hk => aX rfl) (dN 11 nD rfl (by kernel_rfl) (fun w hk => ag gJ rfl) (bE 12 (by kernel_rfl) rfl aj (oC h 1 [v2, rf, (I6 y8), (I6 y9)] rfl jQ rfl rfl rfl rfl (h.dD 10 rfl).one fun w h Dv => ?_)))))
 replace nD := aP.step nD Dv (fun _ hx _ => .inr (hx))
 refine aA (aT nD (gG (by kernel_rfl) (ak (nG (aa (ae (v := (.bool (true))) rfl) (nR (bR (v := (.bool (true))) Tryz.results89 rfl ?_)))))))
 replace h := h.mo 8 9 12 ({ vY with regs := (vY.regs.set (a.a).toNat (⟨2, (y7.length : Int)⟩ : Val)) }) rfl rfl rfl (by decide) (by decide) (by decide) (aC e13).2 e18 rfl
 replace h := h.pair 1 8 (by decide)
 replace h := h.pair 1 9 (by decide)
 replace h := h.pair 1 10 (by decide)
 replace h := h.pair 1 11 (by decide)
 obtain rfl := fM hs
 subst wE
 obtain ⟨o1, o2, o3⟩ := h.lu 1 (C := (cT sb v2 rf (y8) (y9) (y4.set (((y4.length : Int) - 1)).toNat ({ vY with regs := (vY.regs.set (a.a).toNat (⟨2, (y7.length : Int)⟩ : Val)) })) Y3 (y7 ++ [(List.replicate a.b.toNat (⟨0, 0⟩ : Val))]) xx)) rfl ⟨⟨⟨⟨trivial, trivial⟩, trivial⟩, trivial⟩, trivial⟩
 exact ⟨o2, v2, rf, Y3, xx, rfl, o1, o3⟩
 have xu : (Value.oneCell' mE) = true := (h.dD 97 rfl).one
 refine xL (R := (eD Val).raw) (vs := [mE]) (xs := List.zip [(List.replicate a.b.toNat (⟨0, 0⟩ : Val))] [mE]) h 109 lv rfl rfl rfl ⟨⟨gH xu, xu⟩, trivial⟩ rfl fun w Fz h Dq Dr => ?_
 have O4 : ∀ b, ob Fz b → QQ.heap.size ≤ b := fun b hb => Nat.le_trans nD.size (Dr b hb)
 replace nD := nD.grow Dq
 replace h := h.qh (N := (eD Val)) 97 (List.replicate a.b.toNat (⟨0, 0⟩ : Val)) rfl rfl
 refine aA (aT nD (bE 4 (by kernel_rfl) rfl aj (aa (az h 1 rfl jQ rfl rfl) (aA (aT nD (bE 9 (by kernel_rfl) rfl aj ?_))))))
 have vB := h.gm 11 rfl
 have xw := h.gm 97 rfl
 have O5 := nD.size
 refine ng (R := (eD Val).raw) (m := List.zip [(List.replicate a.b.toNat (⟨0, 0⟩ : Val))] [mE]) h 10 rfl (h.eT 109 rfl) lv rfl rfl rfl (by rw [cZ vB, cZ xw]; exact Dp.1) (by rw [cZ vB, cZ xw]; exact Dp.2) fun w rf h Dt Du => ?_
 have O6 : ∀ b, ob rf b → b < QQ.heap.size → ob v5 b := fun b hb hl => Du b hb (Nat.lt_of_lt_of_le hl (nD).size)
 replace nD := aP.step nD Dt (fun _ hx _ => .inl (hx))
 replace h := (h.qf 11 97 rfl rfl (by decide)).fV 109
 rw [qg vB, ← List.map_append] at h
 obtain ⟨xx, Bl⟩ : ∃ z, z = Og ++ [mE] := ⟨_, rfl⟩
 rw [← Bl] at h
 refine aA (aT nD (dN 10 nD rfl (by kernel_rfl) (fun w hk => aX rfl) (dN 11 nD rfl (by kernel_rfl) (fun w hk => ag gJ rfl) (bE 12 (by kernel_rfl) rfl aj (oC h 1 [v2, rf, (I6 y8), (I6 y9)] rfl jQ rfl rfl rfl rfl (h.dD 10 rfl).one fun w h Dv => ?_)))))
 replace nD := aP.step nD Dv (fun _ hx _ => .inr (hx))
 refine aA (aT nD (gG (by kernel_rfl) (ak (nG (aa (ae (v := (.bool (true))) rfl) (nR (bR (v := (.bool (true))) Tryz.results89 rfl ?_)))))))
 replace h := h.mo 8 9 12 ({ vY with regs := (vY.regs.set (a.a).toNat (⟨2, (y7.length : Int)⟩ : Val)) }) rfl rfl rfl (by decide) (by decide) (by decide) (aC e13).2 e18 rfl
 replace h := h.pair 1 8 (by decide)
 replace h := h.pair 1 9 (by decide)
 replace h := h.pair 1 10 (by decide)
 replace h := h.pair 1 11 (by decide)
 obtain rfl := fM hs
 subst wE
 obtain ⟨o1, o2, o3⟩ := h.lu 1 (C := (cT sb v2 rf (y8) (y9) (y4.set (((y4.length : Int) - 1)).toNat ({ vY with regs := (vY.regs.set (a.a).toNat (⟨2, (y7.length : Int)⟩ : Val)) })) Y3 (y7 ++ [(List.replicate a.b.toNat (⟨0, 0⟩ : Val))]) xx)) rfl ⟨⟨⟨⟨trivial, trivial⟩, trivial⟩, trivial⟩, trivial⟩
 exact ⟨o2, v2, rf, Y3, xx, rfl, o1, o3⟩
 refine nG (aa (ah (v := (.pointer (some ⟨sb, 0, none⟩))) rfl) (aa (aX rfl) (aa (ag gJ rfl) (aa (az h 1 rfl jQ rfl rfl) (aa (nA (N := (eD Val)) dV rfl (h.eT 4 rfl) (h.gm 5 rfl)) (aa (bu rfl rfl) (nN (aI hs rfl (fun G7 hs => ?_) (fun G7 hs => ?_)))))))))
 refine aD (aa (ah (v := (.pointer (some ⟨sb, 0, none⟩))) rfl) (aa (ah (v := (.pointer (some ⟨sb, 0, none⟩))) rfl) (aa (aX rfl) (aa (bU (vs := [iA, vs1, (I6 sx.status), (I6 sx.aK)]) h 1 rfl bC rfl rfl rfl) ?_))))
 obtain ⟨y39, e40, hs⟩ := aL hs
 refine aW ZJ rfl rfl (M9 N _ BE (fun _ h => h.elim) sx iA vs1 (h.zV (N := bB) (R' := dL) 2 3 rfl rfl (by decide) rfl qP) (h.zV (N := (eD Val)) (R' := (l9 bz)) 4 5 rfl rfl (by decide) rfl wJ) _ e40) ?_
 rintro _ w ⟨k47, u41, u43, us42, us44, rfl, h45, h46⟩
 refine ⟨_, rfl, ?_⟩
 replace h := h.VR 181 (C := (cU u41 u43 y39.frames us42 y39.cells us44)) k47 ⟨⟨⟨trivial, trivial⟩, trivial⟩, trivial⟩ ⟨⟨⟨(fun _ _ _ _ _ h => h), (xg (fun _ _ _ _ _ h => h))⟩, (fun _ _ _ _ _ h => h)⟩, (xg (fun _ _ _ _ _ h => h))⟩ h45 h46
 replace h := h.cK 181 184 (by decide) rfl rfl
 replace h := h.cK 181 183 (by decide) rfl rfl
 replace h := h.cK 181 182 (by decide) rfl rfl
 refine aa (aX rfl) (dK (vs := [u41, u43, (I6 y39.status), (I6 y39.aK)]) h 1 [u41, u43, (I6 y39.status), (I6 y39.aK)] rfl bC rfl rfl rfl rfl rfl (ai (h.dD 181 rfl).one (ai (h.dD 183 rfl).one (ai rfl (ai rfl aS)))) fun w h => aA (au ?_))
 replace h := (h.fV 8).moveC 181 8 rfl rfl (by decide)
 replace h := (h.fV 9).moveC 182 9 rfl rfl (by decide)
 replace h := (h.fV 10).moveC 183 10 rfl rfl (by decide)
 replace h := (h.fV 11).moveC 184 11 rfl rfl (by decide)
 exact bS (u41, us42, y39.frames, u43, us44, y39.cells, y39.status, y39.aK) ⟨h.cn _, hs⟩
 refine aH (au ?_)
 replace h := (h.fV 8).moveC 2 8 rfl rfl (by decide)
 replace h := (h.fV 9).moveC 3 9 rfl rfl (by decide)
 replace h := (h.fV 10).moveC 4 10 rfl rfl (by decide)
 replace h := (h.fV 11).moveC 5 11 rfl rfl (by decide)
 exact bS (iA, iW, sx.frames, vs1, iI, sx.cells, sx.status, sx.aK) ⟨h.cn _, hs⟩
def yM (sx : LX.State) (i11 : Int) (vY : Int) (y9 : List Val) (nx14 : List Val → Option (Bool × LX.State)) : Option (Bool × LX.State) :=
  iK (kJ ((sx.frames.length : Int) - 1)) ((idx sx.frames ((sx.frames.length : Int) - 1)).bind fun uM => (idx uM.regs vY).bind fun Da => (idx y9 i11).bind fun x41 => nx14 (y9.set (i11).toNat Da))
def yN (sx : LX.State) (b : Ins) (a : List bX) (y9 : List Val) : Option (Bool × LX.State) :=
  iK (Room 48 sx.frames [(⟨b.b, 0, y9, b.a⟩ : LX.Frame)]) (some (true, (⟨(sx.frames ++ [(⟨b.b, 0, y9, b.a⟩ : LX.Frame)]), sx.cells, sx.status, sx.aK⟩ : LX.State)))
def Nc (sx : LX.State) (i62 : Int) (u6 : Int) (yD : List Val) (QA : List Val → Option (Bool × LX.State)) : Option (Bool × LX.State) :=
  iK (kJ ((sx.frames.length : Int) - 1)) ((idx sx.frames ((sx.frames.length : Int) - 1)).bind fun x74 => (idx x74.regs u6).bind fun x84 => (idx yD i62).bind fun x92 => QA (yD.set (i62).toNat x84))
def Nf (sx : LX.State) (b : Ins) (a : List bX) (yD : List Val) : Option (Bool × LX.State) :=
  iK (Room 48 sx.frames [(⟨b.b, 0, yD, b.a⟩ : LX.Frame)]) (some (true, (⟨(sx.frames ++ [(⟨b.b, 0, yD, b.a⟩ : LX.Frame)]), sx.cells, sx.status, sx.aK⟩ : LX.State)))
def QR (sx : LX.State) (a : List bX) (b : Ins) : Option (Bool × LX.State) :=
  bif decide (((sx.frames.length : Int) : Int) = 10) then some (false, sx) else (idx a b.b).bind fun Gn => iK (0 ≤ Gn.regs ∧ Gn.regs * 16 ≤ 140737488355328) (dZ (yM sx) (yN sx b a) 0 b.args (List.replicate Gn.regs.toNat (⟨0, 0⟩ : Val)))
theorem O7 (w0 : World) (M : BS) (hM : ∀ b, M b → b < w0.heap.size) (sb : Nat) (sx : LX.State) (iA vs1 : Value) (iW iI : List Value) (hC : Chunk.holds w0 M (Chunk.own' (cT sb iA vs1 (sx.status) (sx.aK) sx.frames iW sx.cells iI)) (cT sb iA vs1 (sx.status) (sx.aK) sx.frames iW sx.cells iI)) (hap : ∀ b, Chunk.own' (cT sb iA vs1 (sx.status) (sx.aK) sx.frames iW sx.cells iI) b → ¬ M b) (va : Value) (a : List bX) (ha : iL jE w0 (fun b => M b ∨ (cT sb iA vs1 (sx.status) (sx.aK) sx.frames iW sx.cells iI).own' b) va a) (b : Ins) (vb4 : Value) (hb4 : iL eY w0 (fun b => M b ∨ (cT sb iA vs1 (sx.status) (sx.aK) sx.frames iW sx.cells iI).own' b) vb4 b.args) (r : Bool × LX.State) (hs : QR sx a b = some r) :
    Calls Tryz.prog 90 #[va, (.pointer (some ⟨sb, 0, none⟩)), (.agg #[(I6 b.op), (I6 b.a), (I6 b.b), (I6 b.c), vb4])] w0 (fun e w' => aP (Chunk.own' (cT sb iA vs1 (sx.status) (sx.aK) sx.frames iW sx.cells iI)) w0 w' ∧ ∃ Ma, ∃ Mc, ∃ Md, ∃ Me, e = .returned (.bool r.1) ∧ Chunk.holds w' M (Chunk.own' (cT sb Ma Mc r.2.status r.2.aK r.2.frames Md r.2.cells Me)) (cT sb Ma Mc r.2.status r.2.aK r.2.frames Md r.2.cells Me) ∧ (∀ b, Chunk.own' (cT sb Ma Mc r.2.status r.2.aK r.2.frames Md r.2.cells Me) b → b < w0.heap.size → Chunk.own' (cT sb iA vs1 (sx.status) (sx.aK) sx.frames iW sx.cells iI) b)) := by
 refine aQ (args := [va, (.pointer (some ⟨sb, 0, none⟩)), (.agg #[(I6 b.op), (I6 b.a), (I6 b.b), (I6 b.c), vb4])]) Tryz.func90 rfl Tryz.ntmps90 (bD rfl) ?_
 have h := SH.IQ hM hC hap
 replace h := h.E5 6 ha D6
 replace h := h.E5 7 hb4 (xN D6)
 generalize wE : (cT sb iA vs1 (sx.status) (sx.aK) sx.frames iW sx.cells iI).own' = K0 at h
 replace h := h.cK 1 5 (by decide) rfl rfl
 replace h := h.cK 1 4 (by decide) rfl rfl
 replace h := h.cK 1 3 (by decide) rfl rfl
 replace h := h.cK 1 2 (by decide) rfl rfl
 have uU := ha.bT
 refine nG (kM (cs := [(I6 b.op), (I6 b.a), (I6 b.b), (I6 b.c), vb4]) h 8 rfl rfl fun w b1 h => aa (ae (v := (.bool (false))) rfl) (nK (aa (ah (v := (.pointer (some ⟨sb, 0, none⟩))) rfl) (aa (aX rfl) (aa (ag dP rfl) (aa (az h 1 rfl gL rfl rfl) (aa (nA (N := bB) bV rfl (h.eT 2 rfl) (h.gm 3 rfl)) (aa (bu rfl rfl) (nN (aI hs rfl (fun c2 hs => ?_) (fun c2 hs => ?_)))))))))))
 refine nG (aa (ae (v := (.bool (false))) rfl) (nR (ay (bR (v := (.bool (false))) Tryz.results90 rfl ?_))))
 replace h := h.pair 1 2 (by decide)
 replace h := h.pair 1 3 (by decide)
 replace h := h.pair 1 4 (by decide)
 replace h := h.pair 1 5 (by decide)
 obtain rfl := fM hs
 subst wE
 obtain ⟨o1, o2, o3⟩ := h.lu 1 (C := (cT sb iA vs1 (sx.status) (sx.aK) sx.frames iW sx.cells iI)) rfl ⟨⟨⟨⟨trivial, trivial⟩, trivial⟩, trivial⟩, trivial⟩
 exact ⟨o2, iA, vs1, iW, iI, rfl, o1, o3⟩
 refine aH (ak (aM (zf mixed h fun w h => eG 0 (aP.refl BE _) rfl aj (by kernel_rfl) (by kernel_rfl) (by kernel_rfl) (fun w hk => ag gN rfl) (eG 1 (aP.refl BE _) rfl aj (by kernel_rfl) (by kernel_rfl) (by kernel_rfl) (fun w hk => have h := h.grow hk; az h 8 rfl aR rfl rfl) (eG 2 (aP.refl BE _) rfl aj (by kernel_rfl) (by kernel_rfl) (by kernel_rfl) (fun w hk => ah (v := va) rfl) (eG 3 (aP.refl BE _) rfl aj (by kernel_rfl) (by kernel_rfl) (by kernel_rfl) (fun w hk => ag gN rfl) (eG 4 (aP.refl BE _) rfl aj (by kernel_rfl) (by kernel_rfl) (by kernel_rfl) (fun w hk => have h := h.grow hk; az h 8 rfl aR rfl rfl) ?_)))))))
 obtain ⟨Gn, V9, hs⟩ := aL hs
 obtain ⟨bq3x5_4, oq3x5_5, csq3x5_6, h, rq3x5_7, iq3x5_3⟩ := h.Cn 6 69 rfl gU rfl (aC V9).1 (aC V9).2
 obtain ⟨uq3x5_8, rfl, gq3x5_9⟩ := jN rq3x5_7
 replace h := h.dh 70 gq3x5_9.up
 refine eG 5 (aP.refl BE _) rfl aj (by kernel_rfl) (by kernel_rfl) (by kernel_rfl) (fun w hk => iq3x5_3 _ _ _ _ _ _ _ _ _ rfl rfl) (eG 6 (aP.refl BE _) rfl aj (by kernel_rfl) (by kernel_rfl) (by kernel_rfl) (fun w hk => ag vK rfl) (eG 7 (aP.refl BE _) rfl aj (by kernel_rfl) (by kernel_rfl) (by kernel_rfl) (fun w hk => have h := h.grow hk; fo (k := 1) h 69 rfl aR rfl rfl) (eG 9 (aP.refl BE _) rfl aj (by kernel_rfl) (by kernel_rfl) (by kernel_rfl) (fun w hk => ag jy rfl) (eG 10 (aP.refl BE _) rfl aj (by kernel_rfl) (by kernel_rfl) (by kernel_rfl) (fun w hk => have h := h.grow hk; az h 8 rfl aR rfl rfl) ?_))))
 obtain ⟨Wd, hs⟩ := bG hs
 obtain ⟨ws4, ws4e⟩ : ∃ x, x = w := ⟨_, rfl⟩
 have hg5 : Grow ws4 w := ws4e ▸ aP.refl BE w
 refine CP ws4e.symm (PX 8 12 (by kernel_rfl) rfl aj rfl aj ?_ ?_)
 refine uu (R := bz) (zs := [(I6 0), (I6 0)]) (a := (⟨0, 0⟩ : Val)) h 105 lC aY rfl (by decide) rfl rfl Wd rfl (fun _ _ => rfl) fun w gZ h Ng Nh => ?_
 have uq3x8_1q : ∀ b, ob gZ b → ws4.heap.size ≤ b := fun b hb => Nat.le_trans hg5.size (Nh b hb)
 replace hg5 := hg5.trans Ng
 refine aA (iU hg5 (jG 11 hg5 rfl (by kernel_rfl) (fun w hk => fe (pv := [(0, (I6 b.b)), (2, gZ), (3, (I6 b.a))]) (out := [(I6 b.b), (I6 0), gZ, (I6 b.a)]) C9 rfl ⟨0, 1, [(I6 b.b)], rfl, rfl, rfl, bD rfl, ⟨2, 1, [gZ], rfl, (gH (h.dD 105 rfl).one), rfl, bD rfl, ⟨3, 1, [(I6 b.a)], rfl, rfl, rfl, bD rfl, rfl⟩⟩⟩) (mg 12 (by kernel_rfl) rfl aj (xc h 153 gz fun w FB h Kb Kc => ?_))))
 have Ke : ws4.heap.size ≤ FB := Nat.le_trans hg5.size Kc
 replace hg5 := hg5.trans Kb
 refine aA (iU hg5 (mg 13 (by kernel_rfl) rfl aj (vX (vs := [(I6 b.b), (I6 0), gZ, (I6 b.a)]) h 153 [(I6 b.b), (I6 0), gZ, (I6 b.a)] rfl gz rfl rfl rfl rfl rfl (ai rfl (ai rfl (ai (h.dD 105 rfl).one (ai rfl aS)))) fun w h Ni => ?_)))
 replace hg5 := hg5.fresh Ni (fun x hx => hx ▸ Ke)
 refine aA (iU hg5 (qQ (by kernel_rfl) (ak (aM (nG (aa (ag rQ rfl) (aa (az h 8 rfl qU rfl rfl) (aa (bM bZ rfl (h.kL 7 rfl)) (aa (ah (v := (I6 0)) rfl) (nN (aN (gD (σ := Nat × Int × List Val) (inl ([8, 9] ++ rg 31 26)) (fun ⟨k10, i11, y9⟩ => [(31, (I6 i11))]) (fun ⟨k10, i11, y9⟩ w => SH w0 M K0 w (hset [(1, .blk sb [iA, vs1, (I6 sx.status), (I6 sx.aK)]), (2, .own bB.raw 49 iA (List.zip sx.frames iW)), (3, .iJ (ek bz 51 hn iW (List.map bB.sub sx.frames))), (4, .own (eD Val).raw 47 vs1 (List.zip sx.cells iI)), (5, .iJ (ek bz 51 hn iI (List.map (eD Val).sub sx.cells))), (7, .rd eY vb4 b.args), (105, .own bz 51 gZ y9), (153, .blk FB [(I6 b.b), (I6 0), gZ, (I6 b.a)])]) ∧ i11 = (k10 : Int) ∧ dZ (yM sx) (yN sx b a) i11 (b.args.drop k10) y9 = some r) (fun ⟨k10, i11, y9⟩ => b.args.length - k10) ⟨0, 0, (List.replicate Gn.regs.toNat (⟨0, 0⟩ : Val))⟩ ⟨rfl, trivial⟩ ?_ ?_))))))))))))
 exact ⟨h.cn _, rfl, hs⟩
 rintro ⟨k10, i11, y9⟩ w dR ⟨h, hik, hs⟩
 refine nG ?_
 refine aa (eO rfl rfl) (nN ?_)
 refine aM (gQ rfl (fun e15 => ?_) (fun e15 => ?_))
 refine aH (ak ?_)
 obtain ⟨vY, e16a, e16b⟩ := fG (hik ▸ e15)
 rw [e16b, iQ] at hs
 generalize hnx14 : dZ (yM sx) (yN sx b a) (i11 + 1) (b.args.drop (k10 + 1)) = nx14 at hs
 have e16r := fJ ((h.kL 7 rfl)).bT hik e15
 refine aM (aN (nG (aa (ah (v := (I6 i11)) rfl) ?_)))
 obtain ⟨b18, o19, cs20, h, r21, i17⟩ := h.Cn 7 189 rfl bZ rfl (ig hik) (fI hik e16a)
 obtain rfl := r21
 refine aa (i17 _ _ _ _ _ _ _ _ _ rfl rfl) (aa (fo (k := 0) h 189 rfl aR rfl rfl) (aa (ae (v := (I6 i11)) rfl) (aa (ae (v := (I6 vY)) rfl) (nN (mZ 20 mixed (by kernel_rfl) h fun w h => aG (ag jJ rfl) (aG (az h 153 rfl jH rfl rfl) (aG (ah (v := (I6 i11)) rfl) (aG (ah (v := (.pointer (some ⟨sb, 0, none⟩))) rfl) (aG (aX rfl) (aG (ag dP rfl) (aG (az h 1 rfl gL rfl rfl) (aG (ah (v := (.pointer (some ⟨sb, 0, none⟩))) rfl) (aG (aX rfl) (aG (ag dP rfl) (aG (az h 1 rfl gL rfl rfl) (aG (nA (N := bB) bV rfl (h.eT 2 rfl) (h.gm 3 rfl)) ?_))))))))))))))))
 obtain ⟨a22, hs⟩ := bG hs
 refine aG (oh rfl rfl a22) ?_
 obtain ⟨uM, e24, hs⟩ := aL hs
 obtain ⟨u28, e29, h⟩ := h.mq 3 190 uM.regs rfl rfl (by decide) (aC e24).2 rfl
 obtain ⟨b26, q27, i25⟩ := h.rO 2 rfl bV rfl (aC e24).1 (eU (aC e24).2 e29)
 refine aG (i25 _ _ _ _ _ _ _ _ _ rfl rfl) (aG (ag jJ rfl) ?_)
 obtain ⟨cs30, m31, r32⟩ := h.uQ 2 rfl q27 (eU (aC e24).2 e29)
 obtain ⟨rfl, -⟩ := r32
 refine aG (lh (k := 2) m31 jH rfl rfl) (aG (ah (v := (I6 vY)) rfl) ?_)
 obtain ⟨Da, e34, hs⟩ := aL hs
 obtain ⟨b36, q37, i35⟩ := h.rO 190 rfl aZ rfl (aC e34).1 (aC e34).2
 refine aG (i35 _ _ _ _ _ _ _ _ _ rfl rfl) ?_
 obtain ⟨cs38, m39, r40⟩ := h.uQ 190 rfl q37 (aC e34).2
 obtain rfl := r40
 refine aG (kS (k := 0) (vs := [(I6 Da.kind), (I6 Da.n)]) m39 aY rfl rfl rfl (bD rfl)) ?_
 obtain ⟨x41, e42, hs⟩ := aL hs
 obtain ⟨QK, q45, i43⟩ := h.rO 105 rfl aZ rfl (aC e42).1 (aC e42).2
 refine aG (i43 _ _ _ _ _ _ _ _ _ rfl rfl) (wz (rX (a' := Da) (vs := [(I6 Da.kind), (I6 Da.n)]) h 105 rfl q45 rfl (aC e42).2 aY rfl rfl rfl rfl rfl fun w h k46 => aA (ax (ak (aD (aa (dQ rfl rfl e16r) (aa (ah (v := (I6 ((i11 + 1)))) rfl) (aA ?_))))))))
 replace h := h.eP 3 190 rfl rfl (by decide) (aC e24).2 e29 rfl
 refine au ?_
 subst hnx14
 exact jM ⟨k10 + 1, i11 + 1, (y9.set (i11).toNat Da)⟩ ⟨h.cn _, by omega, hs⟩ (by have := oD e15; dsimp only; omega)
 rw [fH (hik ▸ e15), ll] at hs
 refine jl (bQ (bQ (fq (ak (aM (lq (L := (fun b => ob iA b ∨ b = sb)) mixed h fun w h => bH 0 (aP.refl _ _) rfl aj (by kernel_rfl) (by kernel_rfl) (by kernel_rfl) (fun w hk => ah (v := (.pointer (some ⟨sb, 0, none⟩))) rfl) (bH 1 (aP.refl _ _) rfl aj (by kernel_rfl) (by kernel_rfl) (by kernel_rfl) (fun w hk => ah (v := (.pointer (some ⟨sb, 0, none⟩))) rfl) (bH 2 (aP.refl _ _) rfl aj (by kernel_rfl) (by kernel_rfl) (by kernel_rfl) (fun w hk => aX rfl) (bH 3 (aP.refl _ _) rfl aj (by kernel_rfl) (by kernel_rfl) (by kernel_rfl) (fun w hk => ag dP rfl) (bH 5 (aP.refl _ _) rfl aj (by kernel_rfl) (by kernel_rfl) (by kernel_rfl) (fun w hk => have h := h.wN 2 1 (by decide) rfl rfl hk; bU (vs := [(I6 b.b), (I6 0), gZ, (I6 b.a)]) h 153 rfl gz rfl rfl rfl) ?_))))))))))
 obtain ⟨Je, hs⟩ := bG hs
 obtain ⟨ws55, ws55e⟩ : ∃ x, x = w := ⟨_, rfl⟩
 have xH : aP (fun b => ob iA b ∨ b = sb) ws55 w := ws55e ▸ aP.refl (fun b => ob iA b ∨ b = sb) w
 refine rU ws55e.symm (om 4 6 (by kernel_rfl) rfl aj rfl aj ?_ ?_)
 refine aa (az h 1 rfl gL rfl rfl) (aA (aT xH (bE 6 (by kernel_rfl) rfl aj ?_)))
 have Kg : (Value.oneCell' gZ) = true := (h.dD 105 rfl).one
 refine xL (R := bB.raw) (vs := [(.agg #[(I6 b.b), (I6 0), gZ, (I6 b.a)])]) (xs := List.zip [(⟨b.b, 0, y9, b.a⟩ : LX.Frame)] [gZ]) h 263 kH rfl rfl rfl ⟨⟨rfl, Kg⟩, trivial⟩ rfl fun w Nj h Kh Ki => ?_
 have XD : ∀ b, ob Nj b → ws55.heap.size ≤ b := fun b hb => Nat.le_trans xH.size (Ki b hb)
 replace xH := xH.grow Kh
 replace h := h.qh (N := bB) 105 (⟨b.b, 0, y9, b.a⟩ : LX.Frame) rfl rfl
 refine aA (aT xH (bE 7 (by kernel_rfl) rfl aj ?_))
 have Bn := h.gm 3 rfl
 have Dw := h.gm 105 rfl
 have XE := xH.size
 refine ng (R := bB.raw) (m := List.zip [(⟨b.b, 0, y9, b.a⟩ : LX.Frame)] [gZ]) h 2 rfl (h.eT 263 rfl) kH rfl rfl rfl (by rw [cZ Bn, cZ Dw]; exact Je.1) (by rw [cZ Bn, cZ Dw]; exact Je.2) fun w yo h Kj Kk => ?_
 have XF : ∀ b, ob yo b → b < ws55.heap.size → ob iA b := fun b hb hl => Kk b hb (Nat.lt_of_lt_of_le hl (xH).size)
 replace xH := aP.step xH Kj (fun _ hx _ => .inl (hx))
 replace h := (h.qf 3 105 rfl rfl (by decide)).fV 263
 rw [qg Bn, ← List.map_append] at h
 obtain ⟨Dx, Hu⟩ : ∃ z, z = iW ++ [gZ] := ⟨_, rfl⟩
 rw [← Hu] at h
 refine aA (aT xH (dN 8 xH rfl (by kernel_rfl) (fun w hk => aX rfl) (dN 9 xH rfl (by kernel_rfl) (fun w hk => ag dP rfl) (bE 10 (by kernel_rfl) rfl aj (oC h 1 [yo, vs1, (I6 sx.status), (I6 sx.aK)] rfl gL rfl rfl rfl rfl (h.dD 2 rfl).one fun w h Kl => ?_)))))
 replace xH := aP.step xH Kl (fun _ hx _ => .inr (hx))
 refine aA (aT xH (gG (by kernel_rfl) (ak (nG (aa (ae (v := (.bool (true))) rfl) (nR (bR (v := (.bool (true))) Tryz.results90 rfl ?_)))))))
 replace h := h.pair 1 2 (by decide)
 replace h := h.pair 1 3 (by decide)
 replace h := h.pair 1 4 (by decide)
 replace h := h.pair 1 5 (by decide)
 obtain rfl := fM hs
 subst wE
 obtain ⟨o1, o2, o3⟩ := h.lu 1 (C := (cT sb yo vs1 (sx.status) (sx.aK) (sx.frames ++ [(⟨b.b, 0, y9, b.a⟩ : LX.Frame)]) Dx sx.cells iI)) rfl ⟨⟨⟨⟨trivial, trivial⟩, trivial⟩, trivial⟩, trivial⟩
 exact ⟨o2, yo, vs1, Dx, iI, rfl, o1, o3⟩
 have Kg : (Value.oneCell' gZ) = true := (h.dD 105 rfl).one
 refine xL (R := bB.raw) (vs := [(.agg #[(I6 b.b), (I6 0), gZ, (I6 b.a)])]) (xs := List.zip [(⟨b.b, 0, y9, b.a⟩ : LX.Frame)] [gZ]) h 263 kH rfl rfl rfl ⟨⟨rfl, Kg⟩, trivial⟩ rfl fun w Nj h Kh Ki => ?_
 have XD : ∀ b, ob Nj b → ws55.heap.size ≤ b := fun b hb => Nat.le_trans xH.size (Ki b hb)
 replace xH := xH.grow Kh
 replace h := h.qh (N := bB) 105 (⟨b.b, 0, y9, b.a⟩ : LX.Frame) rfl rfl
 refine aA (aT xH (bE 4 (by kernel_rfl) rfl aj (aa (az h 1 rfl gL rfl rfl) (aA (aT xH (bE 7 (by kernel_rfl) rfl aj ?_))))))
 have Bn := h.gm 3 rfl
 have Dw := h.gm 105 rfl
 have XE := xH.size
 refine ng (R := bB.raw) (m := List.zip [(⟨b.b, 0, y9, b.a⟩ : LX.Frame)] [gZ]) h 2 rfl (h.eT 263 rfl) kH rfl rfl rfl (by rw [cZ Bn, cZ Dw]; exact Je.1) (by rw [cZ Bn, cZ Dw]; exact Je.2) fun w yo h Kj Kk => ?_
 have XF : ∀ b, ob yo b → b < ws55.heap.size → ob iA b := fun b hb hl => Kk b hb (Nat.lt_of_lt_of_le hl (xH).size)
 replace xH := aP.step xH Kj (fun _ hx _ => .inl (hx))
 replace h := (h.qf 3 105 rfl rfl (by decide)).fV 263
 rw [qg Bn, ← List.map_append] at h
 obtain ⟨Dx, Hu⟩ : ∃ z, z = iW ++ [gZ] := ⟨_, rfl⟩
 rw [← Hu] at h
 refine aA (aT xH (dN 8 xH rfl (by kernel_rfl) (fun w hk => aX rfl) (dN 9 xH rfl (by kernel_rfl) (fun w hk => ag dP rfl) (bE 10 (by kernel_rfl) rfl aj (oC h 1 [yo, vs1, (I6 sx.status), (I6 sx.aK)] rfl gL rfl rfl rfl rfl (h.dD 2 rfl).one fun w h Kl => ?_)))))
 replace xH := aP.step xH Kl (fun _ hx _ => .inr (hx))
 refine aA (aT xH (gG (by kernel_rfl) (ak (nG (aa (ae (v := (.bool (true))) rfl) (nR (bR (v := (.bool (true))) Tryz.results90 rfl ?_)))))))
 replace h := h.pair 1 2 (by decide)
 replace h := h.pair 1 3 (by decide)
 replace h := h.pair 1 4 (by decide)
 replace h := h.pair 1 5 (by decide)
 obtain rfl := fM hs
 subst wE
 obtain ⟨o1, o2, o3⟩ := h.lu 1 (C := (cT sb yo vs1 (sx.status) (sx.aK) (sx.frames ++ [(⟨b.b, 0, y9, b.a⟩ : LX.Frame)]) Dx sx.cells iI)) rfl ⟨⟨⟨⟨trivial, trivial⟩, trivial⟩, trivial⟩, trivial⟩
 exact ⟨o2, yo, vs1, Dx, iI, rfl, o1, o3⟩
 refine xc h 153 gz fun w FB h Kb Kc => ?_
 have Ke : ws4.heap.size ≤ FB := Nat.le_trans hg5.size Kc
 replace hg5 := hg5.trans Kb
 refine aA (iU hg5 (mg 8 (by kernel_rfl) rfl aj (uu (R := bz) (zs := [(I6 0), (I6 0)]) (a := (⟨0, 0⟩ : Val)) h 105 lC aY rfl (by decide) rfl rfl Wd rfl (fun _ _ => rfl) fun w gZ h Ng Nh => ?_)))
 have uq3x8_1q : ∀ b, ob gZ b → ws4.heap.size ≤ b := fun b hb => Nat.le_trans hg5.size (Nh b hb)
 replace hg5 := hg5.trans Ng
 refine aA (iU hg5 (jG 11 hg5 rfl (by kernel_rfl) (fun w hk => fe (pv := [(0, (I6 b.b)), (2, gZ), (3, (I6 b.a))]) (out := [(I6 b.b), (I6 0), gZ, (I6 b.a)]) C9 rfl ⟨0, 1, [(I6 b.b)], rfl, rfl, rfl, bD rfl, ⟨2, 1, [gZ], rfl, (gH (h.dD 105 rfl).one), rfl, bD rfl, ⟨3, 1, [(I6 b.a)], rfl, rfl, rfl, bD rfl, rfl⟩⟩⟩) (mg 13 (by kernel_rfl) rfl aj (vX (vs := [(I6 b.b), (I6 0), gZ, (I6 b.a)]) h 153 [(I6 b.b), (I6 0), gZ, (I6 b.a)] rfl gz rfl rfl rfl rfl rfl (ai rfl (ai rfl (ai (h.dD 105 rfl).one (ai rfl aS)))) fun w h Ni => ?_))))
 replace hg5 := hg5.fresh Ni (fun x hx => hx ▸ Ke)
 refine aA (iU hg5 (qQ (by kernel_rfl) (ak (aM (nG (aa (ag rQ rfl) (aa (az h 8 rfl qU rfl rfl) (aa (bM bZ rfl (h.kL 7 rfl)) (aa (ah (v := (I6 0)) rfl) (nN (aN (gD (σ := Nat × Int × List Val) (inl ([8, 9] ++ rg 31 26)) (fun ⟨k61, i62, yD⟩ => [(31, (I6 i62))]) (fun ⟨k61, i62, yD⟩ w => SH w0 M K0 w (hset [(1, .blk sb [iA, vs1, (I6 sx.status), (I6 sx.aK)]), (2, .own bB.raw 49 iA (List.zip sx.frames iW)), (3, .iJ (ek bz 51 hn iW (List.map bB.sub sx.frames))), (4, .own (eD Val).raw 47 vs1 (List.zip sx.cells iI)), (5, .iJ (ek bz 51 hn iI (List.map (eD Val).sub sx.cells))), (7, .rd eY vb4 b.args), (105, .own bz 51 gZ yD), (153, .blk FB [(I6 b.b), (I6 0), gZ, (I6 b.a)])]) ∧ i62 = (k61 : Int) ∧ dZ (Nc sx) (Nf sx b a) i62 (b.args.drop k61) yD = some r) (fun ⟨k61, i62, yD⟩ => b.args.length - k61) ⟨0, 0, (List.replicate Gn.regs.toNat (⟨0, 0⟩ : Val))⟩ ⟨rfl, trivial⟩ ?_ ?_))))))))))))
 exact ⟨h.cn _, rfl, hs⟩
 rintro ⟨k61, i62, yD⟩ w dR ⟨h, hik, hs⟩
 refine nG ?_
 refine aa (eO rfl rfl) (nN ?_)
 refine aM (gQ rfl (fun Y4 => ?_) (fun Y4 => ?_))
 refine aH (ak ?_)
 obtain ⟨u6, e67a, e67b⟩ := fG (hik ▸ Y4)
 rw [e67b, iQ] at hs
 generalize hnx65 : dZ (Nc sx) (Nf sx b a) (i62 + 1) (b.args.drop (k61 + 1)) = QA at hs
 have e67r := fJ ((h.kL 7 rfl)).bT hik Y4
 refine aM (aN (nG (aa (ah (v := (I6 i62)) rfl) ?_)))
 obtain ⟨b69, o70, cs71, h, r72, i68⟩ := h.Cn 7 335 rfl bZ rfl (ig hik) (fI hik e67a)
 obtain rfl := r72
 refine aa (i68 _ _ _ _ _ _ _ _ _ rfl rfl) (aa (fo (k := 0) h 335 rfl aR rfl rfl) (aa (ae (v := (I6 i62)) rfl) (aa (ae (v := (I6 u6)) rfl) (nN (mZ 20 mixed (by kernel_rfl) h fun w h => aG (ag jJ rfl) (aG (az h 153 rfl jH rfl rfl) (aG (ah (v := (I6 i62)) rfl) (aG (ah (v := (.pointer (some ⟨sb, 0, none⟩))) rfl) (aG (aX rfl) (aG (ag dP rfl) (aG (az h 1 rfl gL rfl rfl) (aG (ah (v := (.pointer (some ⟨sb, 0, none⟩))) rfl) (aG (aX rfl) (aG (ag dP rfl) (aG (az h 1 rfl gL rfl rfl) (aG (nA (N := bB) bV rfl (h.eT 2 rfl) (h.gm 3 rfl)) ?_))))))))))))))))
 obtain ⟨a73, hs⟩ := bG hs
 refine aG (oh rfl rfl a73) ?_
 obtain ⟨x74, XG, hs⟩ := aL hs
 obtain ⟨u79, e80, h⟩ := h.mq 3 336 x74.regs rfl rfl (by decide) (aC XG).2 rfl
 obtain ⟨b77, q78, i76⟩ := h.rO 2 rfl bV rfl (aC XG).1 (eU (aC XG).2 e80)
 refine aG (i76 _ _ _ _ _ _ _ _ _ rfl rfl) (aG (ag jJ rfl) ?_)
 obtain ⟨cs81, m82, r83⟩ := h.uQ 2 rfl q78 (eU (aC XG).2 e80)
 obtain ⟨rfl, -⟩ := r83
 refine aG (lh (k := 2) m82 jH rfl rfl) (aG (ah (v := (I6 u6)) rfl) ?_)
 obtain ⟨x84, e85, hs⟩ := aL hs
 obtain ⟨Uz, q88, i86⟩ := h.rO 336 rfl aZ rfl (aC e85).1 (aC e85).2
 refine aG (i86 _ _ _ _ _ _ _ _ _ rfl rfl) ?_
 obtain ⟨cs89, m90, r91⟩ := h.uQ 336 rfl q88 (aC e85).2
 obtain rfl := r91
 refine aG (kS (k := 0) (vs := [(I6 x84.kind), (I6 x84.n)]) m90 aY rfl rfl rfl (bD rfl)) ?_
 obtain ⟨x92, e93, hs⟩ := aL hs
 obtain ⟨b95, q96, i94⟩ := h.rO 105 rfl aZ rfl (aC e93).1 (aC e93).2
 refine aG (i94 _ _ _ _ _ _ _ _ _ rfl rfl) (wz (rX (a' := x84) (vs := [(I6 x84.kind), (I6 x84.n)]) h 105 rfl q96 rfl (aC e93).2 aY rfl rfl rfl rfl rfl fun w h k97 => aA (ax (ak (aD (aa (dQ rfl rfl e67r) (aa (ah (v := (I6 ((i62 + 1)))) rfl) (aA ?_))))))))
 replace h := h.eP 3 336 rfl rfl (by decide) (aC XG).2 e80 rfl
 refine au ?_
 subst hnx65
 exact jM ⟨k61 + 1, i62 + 1, (yD.set (i62).toNat x84)⟩ ⟨h.cn _, by omega, hs⟩ (by have := oD Y4; dsimp only; omega)
 rw [fH (hik ▸ Y4), ll] at hs
 refine jl (bQ (bQ (fq (ak (aM (lq (L := (fun b => ob iA b ∨ b = sb)) mixed h fun w h => bH 0 (aP.refl _ _) rfl aj (by kernel_rfl) (by kernel_rfl) (by kernel_rfl) (fun w hk => ah (v := (.pointer (some ⟨sb, 0, none⟩))) rfl) (bH 1 (aP.refl _ _) rfl aj (by kernel_rfl) (by kernel_rfl) (by kernel_rfl) (fun w hk => ah (v := (.pointer (some ⟨sb, 0, none⟩))) rfl) (bH 2 (aP.refl _ _) rfl aj (by kernel_rfl) (by kernel_rfl) (by kernel_rfl) (fun w hk => aX rfl) (bH 3 (aP.refl _ _) rfl aj (by kernel_rfl) (by kernel_rfl) (by kernel_rfl) (fun w hk => ag dP rfl) (bH 5 (aP.refl _ _) rfl aj (by kernel_rfl) (by kernel_rfl) (by kernel_rfl) (fun w hk => have h := h.wN 2 1 (by decide) rfl rfl hk; bU (vs := [(I6 b.b), (I6 0), gZ, (I6 b.a)]) h 153 rfl gz rfl rfl rfl) ?_))))))))))
 obtain ⟨Gp, hs⟩ := bG hs
 obtain ⟨Sd, ws106e⟩ : ∃ x, x = w := ⟨_, rfl⟩
 have qz : aP (fun b => ob iA b ∨ b = sb) Sd w := ws106e ▸ aP.refl (fun b => ob iA b ∨ b = sb) w
 refine rU ws106e.symm (om 4 6 (by kernel_rfl) rfl aj rfl aj ?_ ?_)
 refine aa (az h 1 rfl gL rfl rfl) (aA (aT qz (bE 6 (by kernel_rfl) rfl aj ?_)))
 have Hw : (Value.oneCell' gZ) = true := (h.dD 105 rfl).one
 refine xL (R := bB.raw) (vs := [(.agg #[(I6 b.b), (I6 0), gZ, (I6 b.a)])]) (xs := List.zip [(⟨b.b, 0, yD, b.a⟩ : LX.Frame)] [gZ]) h 409 kH rfl rfl rfl ⟨⟨rfl, Hw⟩, trivial⟩ rfl fun w Km h Hy Hz => ?_
 have UK : ∀ b, ob Km b → Sd.heap.size ≤ b := fun b hb => Nat.le_trans qz.size (Hz b hb)
 replace qz := qz.grow Hy
 replace h := h.qh (N := bB) 105 (⟨b.b, 0, yD, b.a⟩ : LX.Frame) rfl rfl
 refine aA (aT qz (bE 7 (by kernel_rfl) rfl aj ?_))
 have yO := h.gm 3 rfl
 have Bo := h.gm 105 rfl
 have UL := qz.size
 refine ng (R := bB.raw) (m := List.zip [(⟨b.b, 0, yD, b.a⟩ : LX.Frame)] [gZ]) h 2 rfl (h.eT 409 rfl) kH rfl rfl rfl (by rw [cZ yO, cZ Bo]; exact Gp.1) (by rw [cZ yO, cZ Bo]; exact Gp.2) fun w vS h HV HY => ?_
 have UM : ∀ b, ob vS b → b < Sd.heap.size → ob iA b := fun b hb hl => HY b hb (Nat.lt_of_lt_of_le hl (qz).size)
 replace qz := aP.step qz HV (fun _ hx _ => .inl (hx))
 replace h := (h.qf 3 105 rfl rfl (by decide)).fV 409
 rw [qg yO, ← List.map_append] at h
 obtain ⟨Bp, FC⟩ : ∃ z, z = iW ++ [gZ] := ⟨_, rfl⟩
 rw [← FC] at h
 refine aA (aT qz (dN 8 qz rfl (by kernel_rfl) (fun w hk => aX rfl) (dN 9 qz rfl (by kernel_rfl) (fun w hk => ag dP rfl) (bE 10 (by kernel_rfl) rfl aj (oC h 1 [vS, vs1, (I6 sx.status), (I6 sx.aK)] rfl gL rfl rfl rfl rfl (h.dD 2 rfl).one fun w h HZ => ?_)))))
 replace qz := aP.step qz HZ (fun _ hx _ => .inr (hx))
 refine aA (aT qz (gG (by kernel_rfl) (ak (nG (aa (ae (v := (.bool (true))) rfl) (nR (bR (v := (.bool (true))) Tryz.results90 rfl ?_)))))))
 replace h := h.pair 1 2 (by decide)
 replace h := h.pair 1 3 (by decide)
 replace h := h.pair 1 4 (by decide)
 replace h := h.pair 1 5 (by decide)
 obtain rfl := fM hs
 subst wE
 obtain ⟨o1, o2, o3⟩ := h.lu 1 (C := (cT sb vS vs1 (sx.status) (sx.aK) (sx.frames ++ [(⟨b.b, 0, yD, b.a⟩ : LX.Frame)]) Bp sx.cells iI)) rfl ⟨⟨⟨⟨trivial, trivial⟩, trivial⟩, trivial⟩, trivial⟩
 exact ⟨o2, vS, vs1, Bp, iI, rfl, o1, o3⟩
 have Hw : (Value.oneCell' gZ) = true := (h.dD 105 rfl).one
 refine xL (R := bB.raw) (vs := [(.agg #[(I6 b.b), (I6 0), gZ, (I6 b.a)])]) (xs := List.zip [(⟨b.b, 0, yD, b.a⟩ : LX.Frame)] [gZ]) h 409 kH rfl rfl rfl ⟨⟨rfl, Hw⟩, trivial⟩ rfl fun w Km h Hy Hz => ?_
 have UK : ∀ b, ob Km b → Sd.heap.size ≤ b := fun b hb => Nat.le_trans qz.size (Hz b hb)
 replace qz := qz.grow Hy
 replace h := h.qh (N := bB) 105 (⟨b.b, 0, yD, b.a⟩ : LX.Frame) rfl rfl
 refine aA (aT qz (bE 4 (by kernel_rfl) rfl aj (aa (az h 1 rfl gL rfl rfl) (aA (aT qz (bE 7 (by kernel_rfl) rfl aj ?_))))))
 have yO := h.gm 3 rfl
 have Bo := h.gm 105 rfl
 have UL := qz.size
 refine ng (R := bB.raw) (m := List.zip [(⟨b.b, 0, yD, b.a⟩ : LX.Frame)] [gZ]) h 2 rfl (h.eT 409 rfl) kH rfl rfl rfl (by rw [cZ yO, cZ Bo]; exact Gp.1) (by rw [cZ yO, cZ Bo]; exact Gp.2) fun w vS h HV HY => ?_
 have UM : ∀ b, ob vS b → b < Sd.heap.size → ob iA b := fun b hb hl => HY b hb (Nat.lt_of_lt_of_le hl (qz).size)
 replace qz := aP.step qz HV (fun _ hx _ => .inl (hx))
 replace h := (h.qf 3 105 rfl rfl (by decide)).fV 409
 rw [qg yO, ← List.map_append] at h
 obtain ⟨Bp, FC⟩ : ∃ z, z = iW ++ [gZ] := ⟨_, rfl⟩
 rw [← FC] at h
 refine aA (aT qz (dN 8 qz rfl (by kernel_rfl) (fun w hk => aX rfl) (dN 9 qz rfl (by kernel_rfl) (fun w hk => ag dP rfl) (bE 10 (by kernel_rfl) rfl aj (oC h 1 [vS, vs1, (I6 sx.status), (I6 sx.aK)] rfl gL rfl rfl rfl rfl (h.dD 2 rfl).one fun w h HZ => ?_)))))
 replace qz := aP.step qz HZ (fun _ hx _ => .inr (hx))
 refine aA (aT qz (gG (by kernel_rfl) (ak (nG (aa (ae (v := (.bool (true))) rfl) (nR (bR (v := (.bool (true))) Tryz.results90 rfl ?_)))))))
 replace h := h.pair 1 2 (by decide)
 replace h := h.pair 1 3 (by decide)
 replace h := h.pair 1 4 (by decide)
 replace h := h.pair 1 5 (by decide)
 obtain rfl := fM hs
 subst wE
 obtain ⟨o1, o2, o3⟩ := h.lu 1 (C := (cT sb vS vs1 (sx.status) (sx.aK) (sx.frames ++ [(⟨b.b, 0, yD, b.a⟩ : LX.Frame)]) Bp sx.cells iI)) rfl ⟨⟨⟨⟨trivial, trivial⟩, trivial⟩, trivial⟩, trivial⟩
 exact ⟨o2, vS, vs1, Bp, iI, rfl, o1, o3⟩
def QS (sx : LX.State) (a : Val) (b : Int) : Option LX.State :=
  iK (kJ ((sx.frames.length : Int) - 1)) ((sub? sx.frames 0 ((sx.frames.length : Int) - 1)).bind fun x3 => bif decide ((((sx.frames.take (((sx.frames.length : Int) - 1)).toNat).length : Int) : Int) = 0) then some (⟨(sx.frames.take (((sx.frames.length : Int) - 1)).toNat), sx.cells, 1, sx.aK⟩ : LX.State) else iK (kJ (((sx.frames.take (((sx.frames.length : Int) - 1)).toNat).length : Int) - 1)) ((idx (sx.frames.take (((sx.frames.length : Int) - 1)).toNat) (((sx.frames.take (((sx.frames.length : Int) - 1)).toNat).length : Int) - 1)).bind fun fT => (idx fT.regs b).bind fun Hq => some (⟨((sx.frames.take (((sx.frames.length : Int) - 1)).toNat).set ((((sx.frames.take (((sx.frames.length : Int) - 1)).toNat).length : Int) - 1)).toNat ({ fT with regs := (fT.regs.set (b).toNat a) })), sx.cells, sx.status, sx.aK⟩ : LX.State)))
theorem XH (w0 : World) (M : BS) (hM : ∀ b, M b → b < w0.heap.size) (sb : Nat) (sx : LX.State) (iA vs1 : Value) (iW iI : List Value) (hC : Chunk.holds w0 M (Chunk.own' (cT sb iA vs1 (sx.status) (sx.aK) sx.frames iW sx.cells iI)) (cT sb iA vs1 (sx.status) (sx.aK) sx.frames iW sx.cells iI)) (hap : ∀ b, Chunk.own' (cT sb iA vs1 (sx.status) (sx.aK) sx.frames iW sx.cells iI) b → ¬ M b) (a : Val) (b : Int) (r : LX.State) (hs : QS sx a b = some r) :
    Calls Tryz.prog 91 #[(.pointer (some ⟨sb, 0, none⟩)), (.agg #[(I6 a.kind), (I6 a.n)]), (I6 b)] w0 (fun e w' => aP (Chunk.own' (cT sb iA vs1 (sx.status) (sx.aK) sx.frames iW sx.cells iI)) w0 w' ∧ ∃ Ma, ∃ Mc, ∃ Md, ∃ Me, e = .returned (.tuple #[]) ∧ Chunk.holds w' M (Chunk.own' (cT sb Ma Mc r.status r.aK r.frames Md r.cells Me)) (cT sb Ma Mc r.status r.aK r.frames Md r.cells Me) ∧ (∀ b, Chunk.own' (cT sb Ma Mc r.status r.aK r.frames Md r.cells Me) b → b < w0.heap.size → Chunk.own' (cT sb iA vs1 (sx.status) (sx.aK) sx.frames iW sx.cells iI) b)) := by
 refine aQ (args := [(.pointer (some ⟨sb, 0, none⟩)), (.agg #[(I6 a.kind), (I6 a.n)]), (I6 b)]) Tryz.func91 rfl Tryz.ntmps91 (bD rfl) ?_
 have h := SH.IQ hM hC hap
 generalize wE : (cT sb iA vs1 (sx.status) (sx.aK) sx.frames iW sx.cells iI).own' = K0 at h
 replace h := h.cK 1 5 (by decide) rfl rfl
 replace h := h.cK 1 4 (by decide) rfl rfl
 replace h := h.cK 1 3 (by decide) rfl rfl
 replace h := h.cK 1 2 (by decide) rfl rfl
 refine nG (kM (cs := [(I6 a.kind), (I6 a.n)]) h 6 rfl rfl fun w b1 h => nN (aM (mZ 14 mixed (by kernel_rfl) h fun w h => aG (ah (v := (.pointer (some ⟨sb, 0, none⟩))) rfl) (aG (ah (v := (.pointer (some ⟨sb, 0, none⟩))) rfl) (aG (aX rfl) (aG (ag dP rfl) (aG (az h 1 rfl gL rfl rfl) (aG (ah (v := (.pointer (some ⟨sb, 0, none⟩))) rfl) (aG (aX rfl) (aG (ag dP rfl) (aG (az h 1 rfl gL rfl rfl) (aG (nA (N := bB) bV rfl (h.eT 2 rfl) (h.gm 3 rfl)) ?_))))))))))))
 obtain ⟨a2, hs⟩ := bG hs
 refine aG (oh rfl rfl a2) ?_
 obtain ⟨x3, e4, hs⟩ := aL hs
 obtain ⟨e7, e7a, e7b, e7c⟩ := VB e4
 have us8z := h.gm 3 rfl
 obtain ⟨u5, h, i6⟩ := h.cutO 2 rfl bV rfl e7b (by rw [cZ us8z]; exact e7c)
 rw [OJ] at h
 rw [cZ us8z] at i6
 replace h := h.VO 3 (((sx.frames.length : Int) - 1)).toNat rfl
 generalize List.take (((sx.frames.length : Int) - 1)).toNat iW = us8 at h
 refine aG (i6 _ _ _ _ _ _ _ _ _ _ rfl (.inl ⟨rfl, rfl⟩) (.inr (congrArg some rfl))) (aG (aX rfl) (aG (ag dP rfl) (wz (gP h 1 [u5, vs1, (I6 sx.status), (I6 sx.aK)] rfl gL rfl rfl rfl rfl (h.dD 2 rfl).one fun w h => nK (aa (ah (v := (.pointer (some ⟨sb, 0, none⟩))) rfl) (aa (aX rfl) (aa (ag dP rfl) (aa (az h 1 rfl gL rfl rfl) (aa (nA (N := bB) bV rfl (h.eT 2 rfl) (h.gm 3 rfl)) (aa (bu rfl rfl) (nN (aI hs rfl (fun c9 hs => ?_) (fun c9 hs => ?_)))))))))))))
 refine nG (aa (ah (v := (.pointer (some ⟨sb, 0, none⟩))) rfl) (aa (aX rfl) (aa (ag kN rfl) (gP h 1 [u5, vs1, (I6 1), (I6 sx.aK)] rfl aR rfl rfl rfl rfl rfl fun w h => nR (ay (fin0 Tryz.results91 ?_))))))
 replace h := h.pair 1 2 (by decide)
 replace h := h.pair 1 3 (by decide)
 replace h := h.pair 1 4 (by decide)
 replace h := h.pair 1 5 (by decide)
 obtain rfl := fM hs
 subst wE
 obtain ⟨o1, o2, o3⟩ := h.lu 1 (C := (cT sb u5 vs1 (1) (sx.aK) (sx.frames.take (((sx.frames.length : Int) - 1)).toNat) us8 sx.cells iI)) rfl ⟨⟨⟨⟨trivial, trivial⟩, trivial⟩, trivial⟩, trivial⟩
 exact ⟨o2, u5, vs1, us8, iI, rfl, o1, o3⟩
 refine aH (ak (mZ 16 mixed (by kernel_rfl) h fun w h => aG (ah (v := (.pointer (some ⟨sb, 0, none⟩))) rfl) (aG (aX rfl) (aG (ag dP rfl) (aG (az h 1 rfl gL rfl rfl) (aG (ah (v := (.pointer (some ⟨sb, 0, none⟩))) rfl) (aG (aX rfl) (aG (ag dP rfl) (aG (az h 1 rfl gL rfl rfl) (aG (nA (N := bB) bV rfl (h.eT 2 rfl) (h.gm 3 rfl)) ?_))))))))))
 obtain ⟨a10, hs⟩ := bG hs
 refine aG (oh rfl rfl a10) ?_
 obtain ⟨fT, e12, hs⟩ := aL hs
 obtain ⟨u16, e17, h⟩ := h.mq 3 8 fT.regs rfl rfl (by decide) (aC e12).2 rfl
 obtain ⟨b14, q15, i13⟩ := h.rO 2 rfl bV rfl (aC e12).1 (eU (aC e12).2 e17)
 refine aG (i13 _ _ _ _ _ _ _ _ _ rfl rfl) (aG (ag jJ rfl) ?_)
 obtain ⟨cs18, m19, Xd⟩ := h.uQ 2 rfl q15 (eU (aC e12).2 e17)
 obtain ⟨rfl, -⟩ := Xd
 refine aG (lh (k := 2) m19 jH rfl rfl) (aG (ah (v := (I6 b)) rfl) (aG (bU (vs := [(I6 a.kind), (I6 a.n)]) h 6 rfl aY rfl rfl rfl) ?_))
 obtain ⟨Hq, e22, hs⟩ := aL hs
 obtain ⟨b24, q25, i23⟩ := h.rO 8 rfl aZ rfl (aC e22).1 (aC e22).2
 refine aG (i23 _ _ _ _ _ _ _ _ _ rfl rfl) (wz (rX (a' := a) (vs := [(I6 a.kind), (I6 a.n)]) h 8 rfl q25 rfl (aC e22).2 aY rfl rfl rfl rfl rfl fun w h k26 => aA (OA Tryz.results91 ?_)))
 replace h := h.mo 2 3 8 ({ fT with regs := (fT.regs.set (b).toNat a) }) rfl rfl rfl (by decide) (by decide) (by decide) (aC e12).2 e17 rfl
 replace h := h.pair 1 2 (by decide)
 replace h := h.pair 1 3 (by decide)
 replace h := h.pair 1 4 (by decide)
 replace h := h.pair 1 5 (by decide)
 obtain rfl := fM hs
 subst wE
 obtain ⟨o1, o2, o3⟩ := h.lu 1 (C := (cT sb u5 vs1 (sx.status) (sx.aK) ((sx.frames.take (((sx.frames.length : Int) - 1)).toNat).set ((((sx.frames.take (((sx.frames.length : Int) - 1)).toNat).length : Int) - 1)).toNat ({ fT with regs := (fT.regs.set (b).toNat a) })) us8 sx.cells iI)) rfl ⟨⟨⟨⟨trivial, trivial⟩, trivial⟩, trivial⟩, trivial⟩
 exact ⟨o2, u5, vs1, us8, iI, rfl, o1, o3⟩
def og (y31 : Bool) (y34 : List LX.Frame) (y37 : List (List Val)) (y38 : Int) (y39 : Int) : Option (GZ × Bool × LX.State) :=
  some ((⟨false, 0, y31⟩ : GZ), true, (⟨y34, y37, y38, y39⟩ : LX.State))
def Et (sx : LX.State) (u6 : Bool) (J7 : List LX.Frame) : Option (GZ × Bool × LX.State) :=
  some ((⟨false, 0, false⟩ : GZ), u6, (⟨J7, sx.cells, sx.status, sx.aK⟩ : LX.State))
def kZ (N : Nat) (sx : LX.State) (x3 : LX.Frame) (bJ : bX) (aU : Ins) (a : List bX) (x73 : Bool) : Option (GZ × Bool × LX.State) :=
  bif x73 then (Jd (⟨(sx.frames.set (((sx.frames.length : Int) - 1)).toNat ({ x3 with at_ := (min (x3.at_ + 1) ((bJ.code.length : Int) - 1)) })), sx.cells, sx.status, sx.aK⟩ : LX.State) aU ((sx.frames.length : Int) - 1) ({ x3 with at_ := (min (x3.at_ + 1) ((bJ.code.length : Int) - 1)) })).bind fun ku => some ((⟨false, 0, false⟩ : GZ), ku.1, ku.2) else bif decide ((aU.op : Int) = 5) then (Na N (⟨(sx.frames.set (((sx.frames.length : Int) - 1)).toNat ({ x3 with at_ := (min (x3.at_ + 1) ((bJ.code.length : Int) - 1)) })), sx.cells, sx.status, sx.aK⟩ : LX.State) aU).bind fun kv => some ((⟨false, 0, false⟩ : GZ), kv.1, kv.2) else bif decide ((aU.op : Int) = 7) then (QR (⟨(sx.frames.set (((sx.frames.length : Int) - 1)).toNat ({ x3 with at_ := (min (x3.at_ + 1) ((bJ.code.length : Int) - 1)) })), sx.cells, sx.status, sx.aK⟩ : LX.State) a aU).bind fun je => some ((⟨false, 0, false⟩ : GZ), je.1, je.2) else bif decide ((aU.op : Int) = 8) then (idx x3.regs aU.a).bind fun Oh => (QS (⟨(sx.frames.set (((sx.frames.length : Int) - 1)).toNat ({ x3 with at_ := (min (x3.at_ + 1) ((bJ.code.length : Int) - 1)) })), sx.cells, sx.status, sx.aK⟩ : LX.State) Oh x3.kD).bind fun Kn => og false Kn.frames Kn.cells Kn.status Kn.aK else bif decide ((aU.op : Int) = 9) then (idx x3.regs aU.a).bind fun sI => some ((⟨true, sI.n, false⟩ : GZ), decide ((sI.kind : Int) = 1), (⟨(sx.frames.set (((sx.frames.length : Int) - 1)).toNat ({ x3 with at_ := (min (x3.at_ + 1) ((bJ.code.length : Int) - 1)) })), sx.cells, sx.status, sx.aK⟩ : LX.State)) else bif decide ((aU.op : Int) = 10) then og true (sx.frames.set (((sx.frames.length : Int) - 1)).toNat ({ x3 with at_ := (min (x3.at_ + 1) ((bJ.code.length : Int) - 1)) })) sx.cells sx.status sx.aK else bif decide ((aU.op : Int) = 11) then (idx x3.regs aU.a).bind fun x147 => bif decide ((x147.kind : Int) ≠ 1) then some ((⟨false, 0, false⟩ : GZ), false, (⟨(sx.frames.set (((sx.frames.length : Int) - 1)).toNat ({ x3 with at_ := (min (x3.at_ + 1) ((bJ.code.length : Int) - 1)) })), sx.cells, sx.status, sx.aK⟩ : LX.State)) else og true (sx.frames.set (((sx.frames.length : Int) - 1)).toNat ({ x3 with at_ := (min (x3.at_ + 1) ((bJ.code.length : Int) - 1)) })) sx.cells 3 x147.n else bif decide ((aU.op : Int) = 12) then og false ((sx.frames.set (((sx.frames.length : Int) - 1)).toNat ({ x3 with at_ := (min (x3.at_ + 1) ((bJ.code.length : Int) - 1)) })).set (((sx.frames.length : Int) - 1)).toNat ({ x3 with at_ := aU.b })) sx.cells sx.status sx.aK else bif decide ((aU.op : Int) = 13) then (idx x3.regs aU.a).bind fun H5 => bif (decide ((H5.kind : Int) = 0) || (decide ((H5.kind : Int) = 1) && decide ((H5.n : Int) = 0))) then og false ((sx.frames.set (((sx.frames.length : Int) - 1)).toNat ({ x3 with at_ := (min (x3.at_ + 1) ((bJ.code.length : Int) - 1)) })).set (((sx.frames.length : Int) - 1)).toNat ({ x3 with at_ := aU.b })) sx.cells sx.status sx.aK else og false (sx.frames.set (((sx.frames.length : Int) - 1)).toNat ({ x3 with at_ := (min (x3.at_ + 1) ((bJ.code.length : Int) - 1)) })) sx.cells sx.status sx.aK else og false (sx.frames.set (((sx.frames.length : Int) - 1)).toNat ({ x3 with at_ := (min (x3.at_ + 1) ((bJ.code.length : Int) - 1)) })) sx.cells sx.status sx.aK
def ug (N : Nat) (sx : LX.State) (a : List bX) : Option (GZ × Bool × LX.State) :=
  iK (kJ ((sx.frames.length : Int) - 1)) ((idx sx.frames ((sx.frames.length : Int) - 1)).bind fun x3 => (idx a x3.proc).bind fun bJ => (idx bJ.code x3.at_).bind fun aU => iK (kJ (x3.at_ + 1)) (iK (kJ ((bJ.code.length : Int) - 1)) (bif decide ((aU.op : Int) = 1) then (idx x3.regs aU.a).bind fun x41 => og false ((sx.frames.set (((sx.frames.length : Int) - 1)).toNat ({ x3 with at_ := (min (x3.at_ + 1) ((bJ.code.length : Int) - 1)) })).set (((sx.frames.length : Int) - 1)).toNat ({ x3 with at_ := (min (x3.at_ + 1) ((bJ.code.length : Int) - 1)), regs := (x3.regs.set (aU.a).toNat (⟨1, aU.b⟩ : Val)) })) sx.cells sx.status sx.aK else bif decide ((aU.op : Int) = 2) then (idx x3.regs aU.b).bind fun x48 => (idx x3.regs aU.a).bind fun Q8 => og false ((sx.frames.set (((sx.frames.length : Int) - 1)).toNat ({ x3 with at_ := (min (x3.at_ + 1) ((bJ.code.length : Int) - 1)) })).set (((sx.frames.length : Int) - 1)).toNat ({ x3 with at_ := (min (x3.at_ + 1) ((bJ.code.length : Int) - 1)), regs := (x3.regs.set (aU.a).toNat x48) })) sx.cells sx.status sx.aK else bif decide ((aU.op : Int) = 3) then (idx aU.args 0).bind fun Jf => (idx x3.regs aU.b).bind fun xy => (idx x3.regs aU.c).bind fun xz => (R8 Jf xy xz).bind fun jf => (idx x3.regs aU.a).bind fun XI => Et sx jf.2 ((sx.frames.set (((sx.frames.length : Int) - 1)).toNat ({ x3 with at_ := (min (x3.at_ + 1) ((bJ.code.length : Int) - 1)) })).set (((sx.frames.length : Int) - 1)).toNat ({ x3 with at_ := (min (x3.at_ + 1) ((bJ.code.length : Int) - 1)), regs := (x3.regs.set (aU.a).toNat jf.1) })) else bif decide ((aU.op : Int) = 4) then kZ N sx x3 bJ aU a (decide ((aU.op : Int) = 4)) else kZ N sx x3 bJ aU a (decide ((aU.op : Int) = 6)))))
end
end Go.Proofs.YtfclkapelkhlpaaGreatDoor
