/-
  What the law VmParts needs of our own library and of the walks, no more.
-/
import Derived.Test.YtfclkapelkhlpaaGreatDoorProg
import Derived.Test.YtfclkapelkhlpaaGreatDoorVmPartsTd
set_option linter.unusedSimpArgs false
set_option linter.unusedVariables false
set_option maxRecDepth 10000
namespace Go.Proofs.YtfclkapelkhlpaaGreatDoor
open Go Go.Proofs Go.LX
noncomputable section
theorem RI (w0 : World) (M : BS) (hM : ∀ b, M b → b < w0.heap.size) (a : Int) (b : Val) (c : Val) (r : Val × Bool) (hs : Oc a b c = some r) :
    Calls Tryz.prog 87 #[(I6 a), (.agg #[(I6 b.kind), (I6 b.n)]), (.agg #[(I6 c.kind), (I6 c.n)])] w0 (fun e w' => Grow w0 w' ∧ e = .returned (.tuple #[.agg #[.int .i64 r.1.kind, .int .i64 r.1.n], .bool r.2])) := by
 refine aN (args := [(I6 a), (.agg #[(I6 b.kind), (I6 b.n)]), (.agg #[(I6 c.kind), (I6 c.n)])]) Tryz.func87 rfl Tryz.ntmps87 (bD rfl) ?_
 have h := SH.init hM
 refine nG (oW (cs := [(I6 b.kind), (I6 b.n)]) h 1 rfl rfl fun w b1 h => oW (cs := [(I6 c.kind), (I6 c.n)]) h 2 rfl rfl fun w b2 h => bU h 3 bT fun w b3 h => aa (ae (v := (.bool (false))) rfl) (nJ (aa (ae (v := (.func (.func 117) #[] #[])) rfl) (nK (aa (ag (v := (I6 a)) rfl) (aa (bz rfl rfl) (nN (aG hs rfl (fun c4 hs => ?_) (fun c4 hs => ?_)))))))))
 refine nG (aa (ag (v := (.func (.func 117) #[] #[])) rfl) (aa (cK (vs := [(I6 b.kind), (I6 b.n)]) h 1 rfl bT rfl rfl rfl) (aa (cK (vs := [(I6 c.kind), (I6 c.n)]) h 2 rfl bT rfl rfl rfl) (aa (ZT RF rfl rfl) (jK (args := [(.bool ((decide (b.kind = c.kind) && decide (b.n = c.n))))]) Rx rfl rfl (aN (args := [(.bool ((decide (b.kind = c.kind) && decide (b.n = c.n))))]) Tryz.func117 rfl Tryz.ntmps117 (bD rfl) (nG (bU h 4 bT fun w b5 h => aa (ae (v := (.bool (false))) rfl) (nK (aa (ag (v := (.bool ((decide (b.kind = c.kind) && decide (b.n = c.n))))) rfl) (nN (aG hs rfl (fun c6 hs => ?_) (fun c6 hs => ?_)))))))))))))
 refine nG (aa (dQ (pv := [(0, (I6 1)), (1, (I6 1))]) (out := [(I6 1), (I6 1)]) vQ rfl ⟨0, 1, [(I6 1)], rfl, rfl, rfl, bD rfl, ⟨1, 1, [(I6 1)], rfl, rfl, rfl, bD rfl, rfl⟩⟩) (dm (vs := [(I6 1), (I6 1)]) h 4 [(I6 1), (I6 1)] rfl bT rfl rfl rfl rfl rfl (ai rfl (ai rfl aR)) fun w h => aa (ae (v := (.bool (true))) rfl) (nR (ay (ko (vs := [(I6 1), (I6 1)]) (v2 := (.bool (true))) Tryz.results117 rfl rfl h 4 rfl bT rfl (⟨_, rfl, ?_⟩))))))
 refine aa (aU rfl rfl) (aa (aU rfl rfl) (dm (vs := [(I6 1), (I6 1)]) h 3 [(I6 1), (I6 1)] rfl bT rfl rfl rfl rfl rfl (ai rfl (ai rfl aR)) fun w h => aa (ae (v := (.bool (true))) rfl) (nR (ay (ko (vs := [(I6 1), (I6 1)]) (v2 := (.bool (true))) Tryz.results87 rfl rfl h 3 rfl bT rfl ?_)))))
 obtain rfl := fJ hs
 exact ⟨h.grown, rfl⟩
 refine nS (aa (dQ (pv := [(0, (I6 1))]) (out := [(I6 1), (I6 0)]) vQ rfl ⟨0, 1, [(I6 1)], rfl, rfl, rfl, bD rfl, rfl⟩) (dm (vs := [(I6 1), (I6 0)]) h 4 [(I6 1), (I6 0)] rfl bT rfl rfl rfl rfl rfl (ai rfl (ai rfl aR)) fun w h => aa (ae (v := (.bool (true))) rfl) (nR (ko (vs := [(I6 1), (I6 0)]) (v2 := (.bool (true))) Tryz.results117 rfl rfl h 4 rfl bT rfl (⟨_, rfl, ?_⟩)))))
 refine aa (aU rfl rfl) (aa (aU rfl rfl) (dm (vs := [(I6 1), (I6 0)]) h 3 [(I6 1), (I6 0)] rfl bT rfl rfl rfl rfl rfl (ai rfl (ai rfl aR)) fun w h => aa (ae (v := (.bool (true))) rfl) (nR (ay (ko (vs := [(I6 1), (I6 0)]) (v2 := (.bool (true))) Tryz.results87 rfl rfl h 3 rfl bT rfl ?_)))))
 obtain rfl := fJ hs
 exact ⟨h.grown, rfl⟩
 refine aF (ak (aP (nG (aa (ah tQ rfl) (aa (aB h 1 rfl aW rfl rfl) (aa (gN rfl rfl) (aa (ag (v := (.bool (decide ((b.kind : Int) ≠ 1)))) rfl) (aA rfl rfl (fun q => ah tQ rfl) (aA rfl rfl (fun q => aB h 2 rfl aW (dz q) rfl) (aA rfl rfl (fun q => gN (dz q) rfl) (aa (gW rfl rfl lX) (nN (aG hs rfl (fun c7 hs => ?_) (fun c7 hs => ?_))))))))))))))
 refine nG (aa (dQ (pv := []) (out := [(I6 0), (I6 0)]) vQ rfl rfl) (dm (vs := [(I6 0), (I6 0)]) h 3 [(I6 0), (I6 0)] rfl bT rfl rfl rfl rfl rfl (ai rfl (ai rfl aR)) fun w h => aa (ae (v := (.bool (false))) rfl) (nR (ay (ko (vs := [(I6 0), (I6 0)]) (v2 := (.bool (false))) Tryz.results87 rfl rfl h 3 rfl bT rfl ?_)))))
 obtain rfl := fJ hs
 exact ⟨h.grown, rfl⟩
 refine nS (aa (ae (v := (I6 0)) rfl) (nN (bW (σ := Int) (inl ([7, 9] ++ rg 28 33)) (fun x8 => [(9, (I6 x8))]) (fun x8 w => SH w0 M BE w (hset [(3, .blk b3 [(I6 0), (I6 0)])]) ∧ zK x8 = some r) ?_ ?_)))
 rintro x8 w dx ⟨h, hs⟩
 refine nG (aa (ag (v := (I6 x8)) rfl) (aa (dQ (pv := [(0, (I6 1)), (1, (I6 x8))]) (out := [(I6 1), (I6 x8)]) vQ rfl ⟨0, 1, [(I6 1)], rfl, rfl, rfl, bD rfl, ⟨1, 1, [(I6 x8)], rfl, rfl, rfl, bD rfl, rfl⟩⟩) (aa (ag (v := (I6 x8)) rfl) (aa (pX rfl rfl) (aa (ag (v := (.bool (decide ((-1000000000 : Int) ≤ x8)))) rfl) (aA rfl rfl (fun q => ag (v := (I6 x8)) rfl) (aA rfl rfl (fun q => Eh (dz q) rfl) (aa (fD rfl rfl lX) (dm (vs := [(I6 1), (I6 x8)]) h 3 [(I6 1), (I6 x8)] rfl bT rfl rfl rfl rfl rfl (ai rfl (ai rfl aR)) fun w h => aa (ae (v := (.bool ((decide ((-1000000000 : Int) ≤ x8) && decide ((x8 : Int) ≤ 1000000000))))) rfl) (nR (ko (vs := [(I6 1), (I6 x8)]) (v2 := (.bool ((decide ((-1000000000 : Int) ≤ x8) && decide ((x8 : Int) ≤ 1000000000))))) Tryz.results87 rfl rfl h 3 rfl bT rfl ?_)))))))))))
 obtain rfl := fJ hs
 exact ⟨h.grown, rfl⟩
 refine nG (aa (ag (v := (I6 a)) rfl) (nN (aO (nG (aa (bz rfl rfl) (aa (ae (v := (.bool (decide ((a : Int) = 1)))) rfl) (nN (aG hs rfl (fun c9 hs => ?_) (fun c9 hs => ?_)))))))))
 refine aC (aa (ah iG rfl) (aa (aB h 1 rfl aW rfl rfl) (aa (ah iG rfl) (aa (aB h 2 rfl aW rfl rfl) ?_))))
 obtain ⟨a10, hs⟩ := bg hs
 refine aa (dw rfl rfl a10) (aa (ae (v := (I6 ((b.n + c.n)))) rfl) (az (ax (au ?_))))
 exact bP (b.n + c.n) ⟨h.cn _, hs⟩
 refine nG (aa (bz rfl rfl) (aa (ae (v := (.bool (decide ((a : Int) = 2)))) rfl) (nN (aG hs rfl (fun c11 hs => ?_) (fun c11 hs => ?_)))))
 refine aC (aa (ah iG rfl) (aa (aB h 1 rfl aW rfl rfl) (aa (ah iG rfl) (aa (aB h 2 rfl aW rfl rfl) ?_))))
 obtain ⟨a12, hs⟩ := bg hs
 refine aa (mZ rfl rfl a12) (aa (ae (v := (I6 ((b.n - c.n)))) rfl) (az (ax (au ?_))))
 exact bP (b.n - c.n) ⟨h.cn _, hs⟩
 refine nG (aa (bz rfl rfl) (aa (ae (v := (.bool (decide ((a : Int) = 3)))) rfl) (nN (aG hs rfl (fun c13 hs => ?_) (fun c13 hs => ?_)))))
 refine aC (aa (ah iG rfl) (aa (aB h 1 rfl aW rfl rfl) (aa (ah iG rfl) (aa (aB h 2 rfl aW rfl rfl) ?_))))
 obtain ⟨a14, hs⟩ := bg hs
 refine aa (r_mul rfl rfl a14) (aa (ae (v := (I6 ((b.n * c.n)))) rfl) (az (ax (au ?_))))
 exact bP (b.n * c.n) ⟨h.cn _, hs⟩
 refine nG (aa (bz rfl rfl) (aa (ae (v := (.bool (decide ((a : Int) = 4)))) rfl) (nN (aG hs rfl (fun c15 hs => ?_) (fun c15 hs => ?_)))))
 refine nG (aa (ag (v := (.func (.func 117) #[] #[])) rfl) (aa (ah iG rfl) (aa (aB h 1 rfl aW rfl rfl) (aa (ah iG rfl) (aa (aB h 2 rfl aW rfl rfl) (aa (dP rfl rfl) (jK (args := [(.bool (decide ((b.n : Int) < c.n)))]) Rx rfl rfl (aN (args := [(.bool (decide ((b.n : Int) < c.n)))]) Tryz.func117 rfl Tryz.ntmps117 (bD rfl) (nG (bU h 5 bT fun w b16 h => aa (ae (v := (.bool (false))) rfl) (nK (aa (ag (v := (.bool (decide ((b.n : Int) < c.n)))) rfl) (nN (aG hs rfl (fun c17 hs => ?_) (fun c17 hs => ?_)))))))))))))))
 refine nG (aa (dQ (pv := [(0, (I6 1)), (1, (I6 1))]) (out := [(I6 1), (I6 1)]) vQ rfl ⟨0, 1, [(I6 1)], rfl, rfl, rfl, bD rfl, ⟨1, 1, [(I6 1)], rfl, rfl, rfl, bD rfl, rfl⟩⟩) (dm (vs := [(I6 1), (I6 1)]) h 5 [(I6 1), (I6 1)] rfl bT rfl rfl rfl rfl rfl (ai rfl (ai rfl aR)) fun w h => aa (ae (v := (.bool (true))) rfl) (nR (ay (ko (vs := [(I6 1), (I6 1)]) (v2 := (.bool (true))) Tryz.results117 rfl rfl h 5 rfl bT rfl (⟨_, rfl, ?_⟩))))))
 refine aa (aU rfl rfl) (aa (aU rfl rfl) (dm (vs := [(I6 1), (I6 1)]) h 3 [(I6 1), (I6 1)] rfl bT rfl rfl rfl rfl rfl (ai rfl (ai rfl aR)) fun w h => aa (ae (v := (.bool (true))) rfl) (nR (aD (ay (ko (vs := [(I6 1), (I6 1)]) (v2 := (.bool (true))) Tryz.results87 rfl rfl h 3 rfl bT rfl ?_))))))
 obtain rfl := fJ hs
 exact ⟨h.grown, rfl⟩
 refine nS (aa (dQ (pv := [(0, (I6 1))]) (out := [(I6 1), (I6 0)]) vQ rfl ⟨0, 1, [(I6 1)], rfl, rfl, rfl, bD rfl, rfl⟩) (dm (vs := [(I6 1), (I6 0)]) h 5 [(I6 1), (I6 0)] rfl bT rfl rfl rfl rfl rfl (ai rfl (ai rfl aR)) fun w h => aa (ae (v := (.bool (true))) rfl) (nR (ko (vs := [(I6 1), (I6 0)]) (v2 := (.bool (true))) Tryz.results117 rfl rfl h 5 rfl bT rfl (⟨_, rfl, ?_⟩)))))
 refine aa (aU rfl rfl) (aa (aU rfl rfl) (dm (vs := [(I6 1), (I6 0)]) h 3 [(I6 1), (I6 0)] rfl bT rfl rfl rfl rfl rfl (ai rfl (ai rfl aR)) fun w h => aa (ae (v := (.bool (true))) rfl) (nR (aD (ay (ko (vs := [(I6 1), (I6 0)]) (v2 := (.bool (true))) Tryz.results87 rfl rfl h 3 rfl bT rfl ?_))))))
 obtain rfl := fJ hs
 exact ⟨h.grown, rfl⟩
 refine aF (ax (au ?_))
 exact bP 0 ⟨h.cn _, hs⟩
def wD (sx : LX.State) (a : Ins) (x5 : Val) (xb : LX.Frame) (kb : Int) (x14 : Bool) : Option (Bool × LX.State) :=
  bif x14 then some (false, sx) else bif decide ((a.op : Int) = 6) then (idx sx.cells x5.n).bind fun Ag => (idx xb.regs a.b).bind fun x27 => (idx Ag a.c).bind fun zb => some (true, (⟨sx.frames, (sx.cells.set (x5.n).toNat (Ag.set (a.c).toNat x27)), sx.status, sx.aK⟩ : LX.State)) else (idx sx.cells x5.n).bind fun x41 => (idx x41 a.c).bind fun Yz => (idx xb.regs a.a).bind fun x59 => some (true, (⟨(sx.frames.set (kb).toNat ({ xb with regs := (xb.regs.set (a.a).toNat Yz) })), sx.cells, sx.status, sx.aK⟩ : LX.State))
def wE (xb : LX.Frame) (sx : LX.State) (a : Ins) (kb : Int) (x4 : Int) : Option (Bool × LX.State) :=
  (idx xb.regs x4).bind fun x5 => bif decide ((x5.kind : Int) ≠ 2) then wD sx a x5 xb kb true else (idx sx.cells x5.n).bind fun x66 => wD sx a x5 xb kb (decide (((x66.length : Int) : Int) ≤ a.c))
def EI (sx : LX.State) (a : Ins) (kb : Int) (xb : LX.Frame) : Option (Bool × LX.State) :=
  bif decide ((a.op : Int) = 6) then wE xb sx a kb a.a else wE xb sx a kb a.b
theorem I1 (w0 : World) (M : BS) (hM : ∀ b, M b → b < w0.heap.size) (sb : Nat) (sx : LX.State) (jq vs1 : Value) (jU jG : List Value) (hC : Chunk.holds w0 M (Chunk.own' (cT sb jq vs1 (sx.status) (sx.aK) sx.frames jU sx.cells jG)) (cT sb jq vs1 (sx.status) (sx.aK) sx.frames jU sx.cells jG)) (hap : ∀ b, Chunk.own' (cT sb jq vs1 (sx.status) (sx.aK) sx.frames jU sx.cells jG) b → ¬ M b) (a : Ins) (DU : Value) (ha4 : fu dU w0 (fun b => M b ∨ (cT sb jq vs1 (sx.status) (sx.aK) sx.frames jU sx.cells jG).own' b) DU a.args) (kb : Int) (xb : LX.Frame) (gb : 0 ≤ kb) (eb : sx.frames[kb.toNat]? = some xb) (vb : Value) (hb : jU[kb.toNat]? = some vb) (r : Bool × LX.State) (hs : EI sx a kb xb = some r) :
    Calls Tryz.prog 88 #[(.pointer (some ⟨sb, 0, none⟩)), (.agg #[(I6 a.op), (I6 a.a), (I6 a.b), (I6 a.c), DU]), vb] w0 (fun e w' => aI (Chunk.own' (cT sb jq vs1 (sx.status) (sx.aK) sx.frames jU sx.cells jG)) w0 w' ∧ ∃ MK, ∃ ML, ∃ MM, ∃ MN, e = .returned (.bool r.1) ∧ Chunk.holds w' M (Chunk.own' (cT sb MK ML r.2.status r.2.aK r.2.frames MM r.2.cells MN)) (cT sb MK ML r.2.status r.2.aK r.2.frames MM r.2.cells MN) ∧ (∀ b, Chunk.own' (cT sb MK ML r.2.status r.2.aK r.2.frames MM r.2.cells MN) b → b < w0.heap.size → Chunk.own' (cT sb jq vs1 (sx.status) (sx.aK) sx.frames jU sx.cells jG) b)) := by
 refine aN (args := [(.pointer (some ⟨sb, 0, none⟩)), (.agg #[(I6 a.op), (I6 a.a), (I6 a.b), (I6 a.c), DU]), vb]) Tryz.func88 rfl Tryz.ntmps88 (bD rfl) ?_
 have h := SH.GA hM hC hap
 replace h := h.Du 6 ha4 Bl
 generalize Bo : (cT sb jq vs1 (sx.status) (sx.aK) sx.frames jU sx.cells jG).own' = K0 at h
 replace h := h.bG 1 5 (by decide) rfl rfl
 replace h := h.bG 1 4 (by decide) rfl rfl
 replace h := h.bG 1 3 (by decide) rfl rfl
 replace h := h.bG 1 2 (by decide) rfl rfl
 obtain ⟨u1, e2, h⟩ := h.rT 3 7 xb.regs rfl rfl (by decide) eb rfl
 obtain rfl : vb = u1 := fJ (hb.symm.trans e2)
 refine nG (oW (cs := [(I6 a.op), (I6 a.a), (I6 a.b), (I6 a.c), DU]) h 8 rfl rfl fun w b3 h => aa (ae (v := (.bool (false))) rfl) (nJ (aa (ah iR rfl) (aa (aB h 8 rfl aW rfl rfl) (aa (ae (v := (I6 a.b)) rfl) (nN (bW (σ := Int) (inl [7, 11, 12, 13, 14, 15]) (fun x4 => [(7, (I6 x4))]) (fun x4 w => SH w0 M K0 w (hset [(1, .blk sb [jq, vs1, (I6 sx.status), (I6 sx.aK)]), (2, .own bR.raw 49 jq (List.zip sx.frames jU)), (3, .gZ (dC bM 51 (hat (kb).toNat) jU (List.map bR.sub sx.frames))), (4, .own (ed Val).raw 47 vs1 (List.zip sx.cells jG)), (5, .gZ (dC bM 51 hn jG (List.map (ed Val).sub sx.cells))), (6, .rd dU DU a.args), (7, .own bM 51 vb xb.regs), (8, .blk b3 [(I6 a.op), (I6 a.a), (I6 a.b), (I6 a.c), DU])]) ∧ wE xb sx a kb x4 = some r) ?_ ?_)))))))
 rintro x4 w dx ⟨h, hs⟩
 refine nG (aa (ag (v := vb) rfl) (aa (ag (v := (I6 x4)) rfl) ?_))
 obtain ⟨x5, e6, hs⟩ := aJ hs
 obtain ⟨b8, q9, i7⟩ := h.xy 7 rfl bO rfl (aH e6).1 (aH e6).2
 refine aa (i7 _ _ _ _ _ _ _ _ _ rfl rfl) ?_
 obtain ⟨cs10, m11, r12⟩ := h.Af 7 rfl q9 (aH e6).2
 obtain rfl := r12
 refine aa (pI (k := 0) (vs := [(I6 x5.kind), (I6 x5.n)]) m11 bT rfl rfl rfl (bD rfl)) (bU h 9 bT fun w b13 h => dm (vs := [(I6 x5.kind), (I6 x5.n)]) h 9 [(I6 x5.kind), (I6 x5.n)] rfl bT rfl rfl rfl rfl rfl (ai rfl (ai rfl aR)) fun w h => nN (aP (bW (σ := Bool) (inl (rg 20 17)) (fun x14 => [(36, (.bool (x14)))]) (fun x14 w => SH w0 M K0 w (hset [(1, .blk sb [jq, vs1, (I6 sx.status), (I6 sx.aK)]), (2, .own bR.raw 49 jq (List.zip sx.frames jU)), (3, .gZ (dC bM 51 (hat (kb).toNat) jU (List.map bR.sub sx.frames))), (4, .own (ed Val).raw 47 vs1 (List.zip sx.cells jG)), (5, .gZ (dC bM 51 hn jG (List.map (ed Val).sub sx.cells))), (6, .rd dU DU a.args), (7, .own bM 51 vb xb.regs), (8, .blk b3 [(I6 a.op), (I6 a.a), (I6 a.b), (I6 a.c), DU]), (9, .blk b13 [(I6 x5.kind), (I6 x5.n)])]) ∧ wD sx a x5 xb kb x14 = some r) ?_ ?_)))
 rintro x14 w dx ⟨h, hs⟩
 refine aG hs rfl (fun c15 hs => ?_) (fun c15 hs => ?_)
 refine nG (aa (ae (v := (.bool (false))) rfl) (nR (ay (bQ (v := (.bool (false))) Tryz.results88 rfl ?_))))
 replace h := h.iY 3 7 rfl rfl (by decide) eb hb rfl
 replace h := h.pair 1 2 (by decide)
 replace h := h.pair 1 3 (by decide)
 replace h := h.pair 1 4 (by decide)
 replace h := h.pair 1 5 (by decide)
 obtain rfl := fJ hs
 subst Bo
 obtain ⟨o1, o2, o3⟩ := h.q8 1 (C := (cT sb jq vs1 (sx.status) (sx.aK) sx.frames jU sx.cells jG)) rfl ⟨⟨⟨⟨trivial, trivial⟩, trivial⟩, trivial⟩, trivial⟩
 exact ⟨o2, jq, vs1, jU, jG, rfl, o1, o3⟩
 refine aF (ak (aP (nG (aa (ah qa rfl) (aa (aB h 8 rfl aW rfl rfl) (aa (bz rfl rfl) (nN (aG hs rfl (fun c16 hs => ?_) (fun c16 hs => ?_)))))))))
 refine rP 16 mixed (by kernel_rfl) h fun w h => aM (ag (v := (.pointer (some ⟨sb, 0, none⟩))) rfl) (aM (bL rfl) (aM (ah jW rfl) (aM (aB h 1 rfl o8 rfl rfl) (aM (ah iG rfl) (aM (aB h 9 rfl aW rfl rfl) ?_)))))
 obtain ⟨Ag, e18, hs⟩ := aJ hs
 obtain ⟨u22, e23, h⟩ := h.rT 5 10 Ag rfl rfl (by decide) (aH e18).2 rfl
 obtain ⟨b20, q21, i19⟩ := h.xy 4 rfl eX rfl (aH e18).1 (fE (aH e18).2 e23)
 refine aM (i19 _ _ _ _ _ _ _ _ _ rfl rfl) ?_
 obtain ⟨cs24, m25, r26⟩ := h.Af 4 rfl q21 (fE (aH e18).2 e23)
 obtain ⟨rfl, -⟩ := r26
 refine aM (pY (k := 0) m25 nA rfl rfl) (aM (ah qJ rfl) (aM (aB h 8 rfl aW rfl rfl) (aM (ag (v := vb) rfl) (aM (ah iR rfl) (aM (aB h 8 rfl aW rfl rfl) ?_)))))
 obtain ⟨x27, e28, hs⟩ := aJ hs
 obtain ⟨b30, q31, i29⟩ := h.xy 7 rfl bO rfl (aH e28).1 (aH e28).2
 refine aM (i29 _ _ _ _ _ _ _ _ _ rfl rfl) ?_
 obtain ⟨cs32, m33, r34⟩ := h.Af 7 rfl q31 (aH e28).2
 obtain rfl := r34
 refine aM (pI (k := 0) (vs := [(I6 x27.kind), (I6 x27.n)]) m33 bT rfl rfl rfl (bD rfl)) ?_
 obtain ⟨zb, e36, hs⟩ := aJ hs
 obtain ⟨b38, q39, i37⟩ := h.xy 10 rfl bO rfl (aH e36).1 (aH e36).2
 refine aM (i37 _ _ _ _ _ _ _ _ _ rfl rfl) (Be (yM (a' := x27) (vs := [(I6 x27.kind), (I6 x27.n)]) h 10 rfl q39 rfl (aH e36).2 bT rfl rfl rfl rfl rfl fun w h k40 => nJ (aa (ae (v := (.bool (true))) rfl) (nR (bQ (v := (.bool (true))) Tryz.results88 rfl ?_)))))
 replace h := h.iY 3 7 rfl rfl (by decide) eb hb rfl
 replace h := h.rQ 4 5 10 (Ag.set (a.c).toNat x27) rfl rfl rfl (by decide) (by decide) (by decide) (aH e18).2 e23 rfl
 replace h := h.pair 1 2 (by decide)
 replace h := h.pair 1 3 (by decide)
 replace h := h.pair 1 4 (by decide)
 replace h := h.pair 1 5 (by decide)
 obtain rfl := fJ hs
 subst Bo
 obtain ⟨o1, o2, o3⟩ := h.q8 1 (C := (cT sb jq vs1 (sx.status) (sx.aK) sx.frames jU (sx.cells.set (x5.n).toNat (Ag.set (a.c).toNat x27)) jG)) rfl ⟨⟨⟨⟨trivial, trivial⟩, trivial⟩, trivial⟩, trivial⟩
 exact ⟨o2, jq, vs1, jU, jG, rfl, o1, o3⟩
 refine rP 16 mixed (by kernel_rfl) h fun w h => aM (ag (v := vb) rfl) (aM (ah kE rfl) (aM (aB h 8 rfl aW rfl rfl) (aM (ag (v := (.pointer (some ⟨sb, 0, none⟩))) rfl) (aM (bL rfl) (aM (ah jW rfl) (aM (aB h 1 rfl o8 rfl rfl) (aM (ah iG rfl) (aM (aB h 9 rfl aW rfl rfl) ?_))))))))
 obtain ⟨x41, e42, hs⟩ := aJ hs
 obtain ⟨u46, e47, h⟩ := h.rT 5 11 x41 rfl rfl (by decide) (aH e42).2 rfl
 obtain ⟨Tq, q45, i43⟩ := h.xy 4 rfl eX rfl (aH e42).1 (fE (aH e42).2 e47)
 refine aM (i43 _ _ _ _ _ _ _ _ _ rfl rfl) ?_
 obtain ⟨cs48, m49, r50⟩ := h.Af 4 rfl q45 (fE (aH e42).2 e47)
 obtain ⟨rfl, -⟩ := r50
 refine aM (pY (k := 0) m49 nA rfl rfl) (aM (ah qJ rfl) (aM (aB h 8 rfl aW rfl rfl) ?_))
 obtain ⟨Yz, e52, hs⟩ := aJ hs
 obtain ⟨b54, q55, i53⟩ := h.xy 11 rfl bO rfl (aH e52).1 (aH e52).2
 refine aM (i53 _ _ _ _ _ _ _ _ _ rfl rfl) ?_
 obtain ⟨cs56, m57, r58⟩ := h.Af 11 rfl q55 (aH e52).2
 obtain rfl := r58
 refine aM (pI (k := 0) (vs := [(I6 Yz.kind), (I6 Yz.n)]) m57 bT rfl rfl rfl (bD rfl)) ?_
 obtain ⟨x59, e60, hs⟩ := aJ hs
 obtain ⟨b62, q63, i61⟩ := h.xy 7 rfl bO rfl (aH e60).1 (aH e60).2
 refine aM (i61 _ _ _ _ _ _ _ _ _ rfl rfl) (Be (yM (a' := Yz) (vs := [(I6 Yz.kind), (I6 Yz.n)]) h 7 rfl q63 rfl (aH e60).2 bT rfl rfl rfl rfl rfl fun w h k64 => nJ (aa (ae (v := (.bool (true))) rfl) (nR (bQ (v := (.bool (true))) Tryz.results88 rfl ?_)))))
 replace h := h.rQ 2 3 7 ({ xb with regs := (xb.regs.set (a.a).toNat Yz) }) rfl rfl rfl (by decide) (by decide) (by decide) eb hb rfl
 replace h := h.iY 5 11 rfl rfl (by decide) (aH e42).2 e47 rfl
 replace h := h.pair 1 2 (by decide)
 replace h := h.pair 1 3 (by decide)
 replace h := h.pair 1 4 (by decide)
 replace h := h.pair 1 5 (by decide)
 obtain rfl := fJ hs
 subst Bo
 obtain ⟨o1, o2, o3⟩ := h.q8 1 (C := (cT sb jq vs1 (sx.status) (sx.aK) (sx.frames.set (kb).toNat ({ xb with regs := (xb.regs.set (a.a).toNat Yz) })) jU sx.cells jG)) rfl ⟨⟨⟨⟨trivial, trivial⟩, trivial⟩, trivial⟩, trivial⟩
 exact ⟨o2, jq, vs1, jU, jG, rfl, o1, o3⟩
 refine BC mixed (by kernel_rfl) h fun w h => aM (ah tQ rfl) (aM (aB h 9 rfl aW rfl rfl) (aM (gN rfl rfl) (aM (ag (v := (.bool (decide ((x5.kind : Int) ≠ 2)))) rfl) (jf (b := decide ((x5.kind : Int) ≠ 2)) hs (fun Db hs => ?_) (fun Db hs => ?_)))))
 refine gz (b' := true) rfl (cB Db) rfl (gz (b' := true) rfl (cB Db) rfl (gz (b' := true) rfl (cB Db) rfl (gz (b' := true) rfl (cB Db) rfl (gz (b' := true) rfl (cB Db) rfl (gz (b' := true) rfl (cB Db) rfl (gz (b' := true) rfl (cB Db) rfl (gz (b' := true) rfl (cB Db) rfl (gz (b' := true) rfl (cB Db) rfl (gz (b' := true) rfl (cB Db) rfl (gz (b' := true) rfl (cB Db) rfl (gz (b' := true) rfl (cB Db) rfl (aM (dn (b := true) (v := (.bool (true))) (cB Db) rfl) (Am (au ?_))))))))))))))
 exact bP true ⟨h.cn _, hs⟩
 refine iX rfl (cB Db) (aM (ah qJ rfl) (iX rfl (cB Db) (aM (aB h 8 rfl aW rfl rfl) (iX rfl (cB Db) (aM (ag (v := (.pointer (some ⟨sb, 0, none⟩))) rfl) (iX rfl (cB Db) (aM (bL rfl) (iX rfl (cB Db) (aM (ah jW rfl) (iX rfl (cB Db) (aM (aB h 1 rfl o8 rfl rfl) (iX rfl (cB Db) (aM (ah iG rfl) (iX rfl (cB Db) (aM (aB h 9 rfl aW rfl rfl) (iX rfl (cB Db) ?_))))))))))))))))
 obtain ⟨x66, e67, hs⟩ := aJ hs
 obtain ⟨u71, e72, h⟩ := h.rT 5 12 x66 rfl rfl (by decide) (aH e67).2 rfl
 obtain ⟨b69, q70, i68⟩ := h.xy 4 rfl eX rfl (aH e67).1 (fE (aH e67).2 e72)
 refine aM (i68 _ _ _ _ _ _ _ _ _ rfl rfl) (iX rfl (cB Db) ?_)
 obtain ⟨cs73, m74, r75⟩ := h.Af 4 rfl q70 (fE (aH e67).2 e72)
 obtain ⟨rfl, -⟩ := r75
 refine aM (pY (k := 0) m74 nA rfl rfl) (iX rfl (cB Db) (aM (bS bO rfl (h.dV 12 rfl)) (iX rfl (cB Db) (aM (pX rfl rfl) (aM (dn (b := false) (v := (.bool (decide (((x66.length : Int) : Int) ≤ a.c)))) (cB Db) rfl) (Am ?_))))))
 replace h := h.iY 5 12 rfl rfl (by decide) (aH e67).2 e72 rfl
 refine au ?_
 exact bP (decide (((x66.length : Int) : Int) ≤ a.c)) ⟨h.cn _, hs⟩
 refine nG (aa (ah qa rfl) (aa (aB h 8 rfl aW rfl rfl) (aa (bz rfl rfl) (nN (aG hs rfl (fun c76 hs => ?_) (fun c76 hs => ?_))))))
 refine aC (aa (ah kE rfl) (aa (aB h 8 rfl aW rfl rfl) (aa (ae (v := (I6 a.a)) rfl) (az (au ?_)))))
 exact bP a.a ⟨h.cn _, hs⟩
 refine aF (au ?_)
 exact bP a.b ⟨h.cn _, hs⟩
def uz (MH : (List Int × List (Int × Bool)) → Option (List Int × Int)) (xK : List Int) (AJ : List (Int × Bool)) : Option (List Int × Int) :=
  MH (xK, AJ)
def uA (KX : (List Int × List (Int × Bool)) → Option (List Int × Int)) (Qk : List Int) (FP : List (Int × Bool)) : Option (List Int × Int) :=
  KX (Qk, FP)
def nM (uV : Val) (s : List Int × List (Int × Bool)) (KX : List Int × List (Int × Bool) → Option (List Int × Int)) : Option (List Int × Int) :=
  match s with | (gT, pq) => bif (decide ((uV.kind : Int) = 2) && (!((lk uV.n pq).getD false))) then gL (Room 8 gT [uV.n]) (uA KX (gT ++ [uV.n]) (Av uV.n true pq)) else uA KX gT pq
def nO (I4 : Int) (Od : (Int × List Int × List (Int × Bool)) → Option (List Int × Int)) (s : List Int × List (Int × Bool)) : Option (List Int × Int) :=
  match s with | (gT, pq) => gL (jN (I4 + 1)) (Od ((I4 + 1), gT, pq))
def lK (a : List (List Val)) (s : Int × List Int × List (Int × Bool)) (Od : Int × List Int × List (Int × Bool) → Option (List Int × Int)) : Option (List Int × Int) :=
  match s with | (I4, CL, ym) => bif decide ((I4 : Int) < (CL.length : Int)) then (idx CL I4).bind fun x79 => (idx a x79).bind fun x87 => each nM (nO I4 Od) x87 (CL, ym) else some (CL, 0)
def qA (tX : Val) (s : List Int × List (Int × Bool)) (MH : List Int × List (Int × Bool) → Option (List Int × Int)) : Option (List Int × Int) :=
  match s with | (y32, Pm) => bif (decide ((tX.kind : Int) = 2) && (!((lk tX.n Pm).getD false))) then gL (Room 8 y32 [tX.n]) (uz MH (y32 ++ [tX.n]) (Av tX.n true Pm)) else uz MH y32 Pm
def uB (N : Nat) (a : List (List Val)) (s : List Int × List (Int × Bool)) : Option (List Int × Int) :=
  match s with | (y32, Pm) => again (lK a) N (0, y32, Pm)
def qB (a : List (List Val)) (x6 : Val) (s : Unit) (nx8 : Unit → Option (List Int × Int)) : Option (List Int × Int) :=
  bif decide (((cz x6 (a.length : Int)) : Int) ≠ 0) then some ([], (cz x6 (a.length : Int))) else nx8 ()
def nP (N : Nat) (a : List (List Val)) (b : List Val) (s : Unit) : Option (List Int × Int) :=
  each qA (uB N a) b ([], ([] : List (Int × Bool)))
def A7 (N : Nat) (a : List (List Val)) (b : List Val) : Option (List Int × Int) :=
  bif decide (((dJ a) : Int) ≠ 0) then some ([], (dJ a)) else bif decide ((400 : Int) < (b.length : Int)) then some ([], 2) else each (qB a) (nP N a b) b ()
theorem MO (N : Nat) (w0 : World) (M : BS) (hM : ∀ b, M b → b < w0.heap.size) (va : Value) (a : List (List Val)) (ha : gB (mP bM) w0 BE M va a) (vb : Value) (b : List Val) (hb : gB bM w0 BE M vb b) (r : List Int × Int) (hs : A7 N a b = some r) :
    Calls Tryz.prog 48 #[va, vb] w0 (fun e w' => Grow w0 w' ∧ ∃ u0, e = .returned (.tuple #[u0, .int .i64 r.2]) ∧ dW dU 3 w' M u0 r.1 ∧ (∀ b, ob u0 b → w0.heap.size ≤ b)) := by
 refine aN (args := [va, vb]) Tryz.func48 rfl Tryz.ntmps48 (bD rfl) ?_
 have h := SH.init hM
 replace h := h.fw 1 ha bC
 replace h := h.fw 2 hb (cZ bC)
 have vR := ha.bV
 have Ms := hb.bV
 refine nG (aa (ae (v := (.slice none 0 0)) rfl) (aa (ae (v := (I6 0)) rfl) (nK (aa (ag (v := va) rfl) (aS Vp rfl rfl (Bj _ _ h.lt va a (h.gM 1 rfl) _ rfl) ?_)))))
 rintro _ w ⟨k1, rfl⟩
 refine ⟨_, rfl, ?_⟩
 replace h := h.grow k1
 refine aa (ae (v := (I6 ((dJ a)))) rfl) (nJ (aa (ag (v := (I6 ((dJ a)))) rfl) (aa (gN rfl rfl) (nN (aG hs rfl (fun c2 hs => ?_) (fun c2 hs => ?_))))))
 refine nG (aa (ag (v := (I6 ((dJ a)))) rfl) (aa (ae (v := (.slice none 0 0)) rfl) (aa (ae (v := (I6 ((dJ a)))) rfl) (nR (ay (Fp (v1 := (.slice none 0 0)) (v2 := (I6 ((dJ a)))) Tryz.results48 rfl rfl ?_))))))
 obtain rfl := fJ hs
 exact ⟨h.grown, _, rfl, dW.nil, mh⟩
 refine aF (ak (aP (nG (aa (ag (v := vb) rfl) (aa (bS bO rfl (h.gM 2 rfl)) (aa (jT rfl rfl) (nN (aG hs rfl (fun c3 hs => ?_) (fun c3 hs => ?_)))))))))
 refine nG (aa (ae (v := (.slice none 0 0)) rfl) (aa (ae (v := (I6 2)) rfl) (nR (ay (Fp (v1 := (.slice none 0 0)) (v2 := (I6 2)) Tryz.results48 rfl rfl ?_)))))
 obtain rfl := fJ hs
 exact ⟨h.grown, _, rfl, dW.nil, mh⟩
 refine aF (ak (aP (nG (aa (ag (v := vb) rfl) (aa (bS bO rfl (h.gM 2 rfl)) (aa (ag (v := (I6 0)) rfl) (nN (aO (gF (σ := Nat × Int) (inl ([4, 5, 8, 9] ++ rg 28 12)) (fun ⟨k4, i5⟩ => [(28, (I6 i5))]) (fun ⟨k4, i5⟩ w => SH w0 M BE w (hset [(1, .sr (mP bM) va a), (2, .sr bM vb b)]) ∧ i5 = (k4 : Int) ∧ each (qB a) (nP N a b) (b.drop k4) () = some r) (fun ⟨k4, i5⟩ => b.length - k4) ⟨0, 0⟩ ⟨rfl, trivial⟩ ?_ ?_)))))))))
 exact ⟨h.cn _, rfl, hs⟩
 rintro ⟨k4, i5⟩ w dx ⟨h, hik, hs⟩
 refine nG ?_
 refine aa (dP rfl rfl) (nN ?_)
 refine aP (iE rfl (fun e9 => ?_) (fun e9 => ?_))
 refine aF (ak ?_)
 obtain ⟨x6, e10a, e10b⟩ := fV (hik ▸ e9)
 rw [e10b, dI] at hs
 generalize hnx8 : each (qB a) (nP N a b) (b.drop (k4 + 1)) = nx8 at hs
 have e10r := gp ((h.gM 2 rfl)).bV hik e9
 refine aP (aO (nG ?_))
 obtain ⟨b12, o13, cs14, h, r15, i11⟩ := h.zg 2 3 rfl bO rfl (iO hik) (gm hik e10a)
 obtain rfl := r15
 refine aa (i11 _ _ _ _ _ _ _ _ _ rfl rfl) (aa (jH (k := 0) (vs := [(I6 x6.kind), (I6 x6.n)]) h 3 rfl bT rfl rfl rfl (bD rfl)) (bU h 4 bT fun w b16 h => dm (vs := [(I6 x6.kind), (I6 x6.n)]) h 4 [(I6 x6.kind), (I6 x6.n)] rfl bT rfl rfl rfl rfl rfl (ai rfl (ai rfl aR)) fun w h => nJ (aa (cK (vs := [(I6 x6.kind), (I6 x6.n)]) h 4 rfl bT rfl rfl rfl) (aa (ag (v := va) rfl) (aa (bS eX rfl (h.gM 1 rfl)) (aS PG rfl rfl (AU _ _ h.lt x6 (a.length : Int) _ rfl) ?_))))))
 rintro _ w ⟨k17, rfl⟩
 refine ⟨_, rfl, ?_⟩
 replace h := h.grow k17
 refine aa (ae (v := (I6 ((cz x6 (a.length : Int))))) rfl) (nJ (aa (ag (v := (I6 ((cz x6 (a.length : Int))))) rfl) (aa (gN rfl rfl) (nN (aG hs rfl (fun c18 hs => ?_) (fun c18 hs => ?_))))))
 refine nG (aa (ag (v := (I6 ((cz x6 (a.length : Int))))) rfl) (aa (ae (v := (.slice none 0 0)) rfl) (aa (ae (v := (I6 ((cz x6 (a.length : Int))))) rfl) (nR (aD (ay (ay (aD (ay (Fp (v1 := (.slice none 0 0)) (v2 := (I6 ((cz x6 (a.length : Int))))) Tryz.results48 rfl rfl ?_))))))))))
 obtain rfl := fJ hs
 exact ⟨h.grown, _, rfl, dW.nil, mh⟩
 refine aF (ax (ak (aC (aa (dw rfl rfl e10r) (aa (ag (v := (I6 ((i5 + 1)))) rfl) (az (au ?_)))))))
 subst hnx8
 exact jV ⟨k4 + 1, i5 + 1⟩ ⟨h.cn _, by omega, hs⟩ (by have := rq e9; dsimp only; omega)
 rw [fZ (hik ▸ e9), gG] at hs
 refine nE (Cx h 5 fun w b19 h => qd h 6 FC fun w b20 h => fA h 6 [(.map (some b19))] rfl FC rfl rfl rfl rfl rfl fun w h => nJ (qd h 7 vP fun w Ke h => nJ (aa (rV (c1 := []) (c2 := [(.pointer (some ⟨b20, 0, none⟩)), (.pointer (some ⟨Ke, 0, none⟩))]) rfl rfl) (aa (ae (v := (.func (.func 82) #[] #[(.pointer (some ⟨b20, 0, none⟩)), (.pointer (some ⟨Ke, 0, none⟩))])) rfl) (nN (aP ?_))))))
 refine nG (aa (ag (v := vb) rfl) (aa (bS bO rfl (h.gM 2 rfl)) (aa (ag (v := (I6 0)) rfl) (nN (aO ?_)))))
 replace h := h.xC (R := dU) (E := 3) 11
 refine gF (σ := Nat × Int × Value × List Int × List (Int × Bool)) (inl ([14] ++ rg 44 8)) (fun ⟨N7, i35, v31, y32, Pm⟩ => [(44, (I6 i35))]) (fun ⟨N7, i35, v31, y32, Pm⟩ w => SH w0 M BE w (hset [(1, .sr (mP bM) va a), (2, .sr bM vb b), (5, .mp b19 (List.map (fun p => (p.1, (fun x => Value.bool x) p.2)) Pm)), (6, .blk b20 [(.map (some b19))]), (7, .blk Ke [v31]), (11, .own dU 3 v31 y32)]) ∧ i35 = (N7 : Int) ∧ each qA (uB N a) (b.drop N7) (y32, Pm) = some r) (fun ⟨N7, i35, v31, y32, Pm⟩ => b.length - N7) ⟨0, 0, (.slice none 0 0), [], ([] : List (Int × Bool))⟩ ⟨rfl, trivial⟩ ?_ ?_
 exact ⟨h.cn _, rfl, hs⟩
 rintro ⟨N7, i35, v31, y32, Pm⟩ w dx ⟨h, hik, hs⟩
 refine nG ?_
 refine aa (dP rfl rfl) (nN ?_)
 refine aP (iE rfl (fun e39 => ?_) (fun e39 => ?_))
 refine aF (ak ?_)
 obtain ⟨tX, e40a, e40b⟩ := fV (hik ▸ e39)
 rw [e40b, dI] at hs
 generalize We : each qA (uB N a) (b.drop (N7 + 1)) = MH at hs
 have e40r := gp ((h.gM 2 rfl)).bV hik e39
 refine bW (σ := Value × List Int × List (Int × Bool)) (inl [14, 46, 47, 48, 49, 50]) (fun ⟨v41, xK, AJ⟩ => []) (fun ⟨v41, xK, AJ⟩ w => SH w0 M BE w (hset [(1, .sr (mP bM) va a), (2, .sr bM vb b), (5, .mp b19 (List.map (fun p => (p.1, (fun x => Value.bool x) p.2)) AJ)), (6, .blk b20 [(.map (some b19))]), (7, .blk Ke [v41]), (11, .own dU 3 v41 xK)]) ∧ uz MH xK AJ = some r) ?_ ?_
 rintro ⟨v41, xK, AJ⟩ w dx ⟨h, hs⟩
 refine aC (aa (dw rfl rfl e40r) (aa (ag (v := (I6 ((i35 + 1)))) rfl) (az (au ?_))))
 subst We
 exact jV ⟨N7 + 1, i35 + 1, v41, xK, AJ⟩ ⟨h.cn _, by omega, hs⟩ (by have := rq e39; dsimp only; omega)
 refine aO (nG ?_)
 obtain ⟨XK, o46, cs47, h, r48, i44⟩ := h.zg 2 12 rfl bO rfl (iO hik) (gm hik e40a)
 obtain rfl := r48
 refine aa (i44 _ _ _ _ _ _ _ _ _ rfl rfl) (aa (jH (k := 0) (vs := [(I6 tX.kind), (I6 tX.n)]) h 12 rfl bT rfl rfl rfl (bD rfl)) (bU h 13 bT fun w b49 h => dm (vs := [(I6 tX.kind), (I6 tX.n)]) h 13 [(I6 tX.kind), (I6 tX.n)] rfl bT rfl rfl rfl rfl rfl (ai rfl (ai rfl aR)) fun w h => nN (aC (aa (ag (v := (.func (.func 82) #[] #[(.pointer (some ⟨b20, 0, none⟩)), (.pointer (some ⟨Ke, 0, none⟩))])) rfl) (aa (cK (vs := [(I6 tX.kind), (I6 tX.n)]) h 13 rfl bT rfl rfl rfl) (jK (args := [(.agg #[(I6 tX.kind), (I6 tX.n)]), (.pointer (some ⟨b20, 0, none⟩)), (.pointer (some ⟨Ke, 0, none⟩))]) Vq rfl rfl (aN (args := [(.agg #[(I6 tX.kind), (I6 tX.n)]), (.pointer (some ⟨b20, 0, none⟩)), (.pointer (some ⟨Ke, 0, none⟩))]) Tryz.func82 rfl Tryz.ntmps82 (bD rfl) (nG (oW (cs := [(I6 tX.kind), (I6 tX.n)]) h 14 rfl rfl fun w b50 h => nJ (aa (ah tQ rfl) (aa (aB h 14 rfl aW rfl rfl) (aa (bz rfl rfl) (aa (ag (v := (.bool (decide ((tX.kind : Int) = 2)))) rfl) (aA rfl rfl (fun q => aB h 6 rfl FC rfl rfl) (aA rfl rfl (fun q => ah iG rfl) ?_)))))))))))))))
 refine aA rfl rfl (fun q => aB h 14 rfl aW (dz q) rfl) (aA rfl rfl (fun q => Zb (f := (fun x => Value.bool x)) (zz := false) Pm h 5 rfl Ey (dz q) (dz q) rfl rfl) (aA rfl rfl (fun q => ic (dz q)) (aa (fD rfl rfl lX) (nN (aG hs rfl (fun c51 hs => ?_) (fun c51 hs => ?_))))))
 refine nG (aa (aB h 6 rfl FC rfl rfl) (aa (ah iG rfl) (aa (aB h 14 rfl aW rfl rfl) (BD (p8 := (List.map (fun p => (p.1, (fun x => Value.bool x) p.2)) (Av tX.n true Pm))) h 5 rfl Ey rfl rfl rfl (CE (f := (fun x => Value.bool x)) _) fun w h => nN (aC (aa (aB h 7 rfl vP rfl rfl) (aa (ah iG rfl) (aa (aB h 14 rfl aW rfl rfl) (uQ (R := dU) (vs := [(I6 tX.n)]) (xs := [tX.n]) h 15 jg rfl rfl rfl ⟨rfl, trivial⟩ rfl fun w Zl h => ?_)))))))))
 obtain ⟨a53, hs⟩ := bg hs
 refine mo (R := dU) (m := [tX.n]) h 11 rfl (h.dV 15 rfl) jg rfl rfl rfl a53.1 a53.2 fun w V5 h => fA h 7 [V5] rfl vP rfl rfl rfl rfl (h.dD 11 rfl).one fun w h => az (KA Tryz.results82 (⟨_, rfl, ?_⟩))
 refine az (ax (au ?_))
 exact bP (V5, (y32 ++ [tX.n]), (Av tX.n true Pm)) ⟨h.cn _, hs⟩
 refine aF (KA Tryz.results82 (⟨_, rfl, ?_⟩))
 refine az (ax (au ?_))
 exact bP (v31, y32, Pm) ⟨h.cn _, hs⟩
 rw [fZ (hik ▸ e39), gG] at hs
 refine gV (bA (bA (dE (ak (aP (nG (aa (ae (v := (I6 0)) rfl) (nN (aO (gF (σ := Nat × Int × Value × List Int × List (Int × Bool)) (inl ([15, 17] ++ rg 52 22)) (fun ⟨m74, I4, v68, CL, ym⟩ => [(15, (I6 I4))]) (fun ⟨m74, I4, v68, CL, ym⟩ w => SH w0 M BE w (hset [(1, .sr (mP bM) va a), (5, .mp b19 (List.map (fun p => (p.1, (fun x => Value.bool x) p.2)) ym)), (6, .blk b20 [(.map (some b19))]), (7, .blk Ke [v68]), (11, .own dU 3 v68 CL)]) ∧ again (lK a) m74 (I4, CL, ym) = some r) (fun ⟨m74, I4, v68, CL, ym⟩ => m74) ⟨N, 0, v31, y32, Pm⟩ ⟨rfl, trivial⟩ ?_ ?_))))))))))
 exact ⟨h.cn _, hs⟩
 rintro ⟨m74, I4, v68, CL, ym⟩ w dx ⟨h, hs⟩
 obtain ⟨m741, m74e, m74h⟩ := pG hs
 subst m74e
 replace hs := m74h
 generalize hnx75 : again (lK a) m741 = Od at hs
 refine aP (nG (aa (ag (v := (I6 I4)) rfl) (aa (aB h 7 rfl vP rfl rfl) (aa (bS bY rfl (h.dV 11 rfl)) (aa (dP rfl rfl) (nN (aG hs rfl (fun c78 hs => ?_) (fun c78 hs => ?_))))))))
 refine aF (ak (aP (aO (nG (aa (ag (v := va) rfl) (aa (aB h 7 rfl vP rfl rfl) (aa (ag (v := (I6 I4)) rfl) ?_)))))))
 obtain ⟨x79, e80, hs⟩ := aJ hs
 obtain ⟨b82, q83, i81⟩ := h.xy 11 rfl bY rfl (aH e80).1 (aH e80).2
 refine aa (i81 _ _ _ _ _ _ _ _ _ rfl rfl) ?_
 obtain ⟨cs84, m85, r86⟩ := h.Af 11 rfl q83 (aH e80).2
 obtain rfl := r86
 refine aa (pY (k := 0) m85 aW rfl rfl) ?_
 obtain ⟨x87, e88, hs⟩ := aJ hs
 obtain ⟨b90, o91, cs92, h, r93, i89⟩ := h.zg 1 16 rfl eX rfl (aH e88).1 (aH e88).2
 obtain ⟨u94, rfl, g95⟩ := r93
 replace h := h.bX 17 g95.up
 refine aa (i89 _ _ _ _ _ _ _ _ _ rfl rfl) (aa (dZ (k := 0) h 16 rfl nA rfl rfl) (aa (bS bO rfl (h.mM 17 rfl)) (aa (ag (v := (I6 0)) rfl) (nN (aO (gF (σ := Nat × Int × Value × List Int × List (Int × Bool)) (inl ([17] ++ rg 66 8)) (fun ⟨Kh, i109, v105, gT, pq⟩ => [(66, (I6 i109))]) (fun ⟨Kh, i109, v105, gT, pq⟩ w => SH w0 M BE w (hset [(1, .sr (mP bM) va a), (5, .mp b19 (List.map (fun p => (p.1, (fun x => Value.bool x) p.2)) pq)), (6, .blk b20 [(.map (some b19))]), (7, .blk Ke [v105]), (11, .own dU 3 v105 gT), (17, .rd bM u94 x87)]) ∧ i109 = (Kh : Int) ∧ each nM (nO I4 Od) (x87.drop Kh) (gT, pq) = some r) (fun ⟨Kh, i109, v105, gT, pq⟩ => x87.length - Kh) ⟨0, 0, v68, CL, ym⟩ ⟨rfl, trivial⟩ ?_ ?_))))))
 exact ⟨h.cn _, rfl, hs⟩
 rintro ⟨Kh, i109, v105, gT, pq⟩ w dx ⟨h, hik, hs⟩
 refine nG ?_
 refine aa (dP rfl rfl) (nN ?_)
 refine aP (iE rfl (fun Ws => ?_) (fun Ws => ?_))
 refine aF (ak ?_)
 obtain ⟨uV, e114a, e114b⟩ := fV (hik ▸ Ws)
 rw [e114b, dI] at hs
 generalize hnx112 : each nM (nO I4 Od) (x87.drop (Kh + 1)) = KX at hs
 have e114r := gp ((h.mM 17 rfl)).bV hik Ws
 refine bW (σ := Value × List Int × List (Int × Bool)) (inl [17, 68, 69, 70, 71, 72]) (fun ⟨Wt, Qk, FP⟩ => []) (fun ⟨Wt, Qk, FP⟩ w => SH w0 M BE w (hset [(1, .sr (mP bM) va a), (5, .mp b19 (List.map (fun p => (p.1, (fun x => Value.bool x) p.2)) FP)), (6, .blk b20 [(.map (some b19))]), (7, .blk Ke [Wt]), (11, .own dU 3 Wt Qk), (17, .rd bM u94 x87)]) ∧ uA KX Qk FP = some r) ?_ ?_
 rintro ⟨Wt, Qk, FP⟩ w dx ⟨h, hs⟩
 refine aC (aa (dw rfl rfl e114r) (aa (ag (v := (I6 ((i109 + 1)))) rfl) (az (au ?_))))
 subst hnx112
 exact jV ⟨Kh + 1, i109 + 1, Wt, Qk, FP⟩ ⟨h.cn _, by omega, hs⟩ (by have := rq Ws; dsimp only; omega)
 refine aO (nG ?_)
 obtain ⟨b119, o120, cs121, h, r122, i118⟩ := h.Fj 17 18 rfl bO rfl (iO hik) (gm hik e114a)
 obtain rfl := r122
 refine aa (i118 _ _ _ _ _ _ _ _ _ rfl rfl) (aa (jH (k := 0) (vs := [(I6 uV.kind), (I6 uV.n)]) h 18 rfl bT rfl rfl rfl (bD rfl)) (bU h 19 bT fun w b123 h => dm (vs := [(I6 uV.kind), (I6 uV.n)]) h 19 [(I6 uV.kind), (I6 uV.n)] rfl bT rfl rfl rfl rfl rfl (ai rfl (ai rfl aR)) fun w h => nN (aC (aa (ag (v := (.func (.func 82) #[] #[(.pointer (some ⟨b20, 0, none⟩)), (.pointer (some ⟨Ke, 0, none⟩))])) rfl) (aa (cK (vs := [(I6 uV.kind), (I6 uV.n)]) h 19 rfl bT rfl rfl rfl) (jK (args := [(.agg #[(I6 uV.kind), (I6 uV.n)]), (.pointer (some ⟨b20, 0, none⟩)), (.pointer (some ⟨Ke, 0, none⟩))]) Vq rfl rfl (aN (args := [(.agg #[(I6 uV.kind), (I6 uV.n)]), (.pointer (some ⟨b20, 0, none⟩)), (.pointer (some ⟨Ke, 0, none⟩))]) Tryz.func82 rfl Tryz.ntmps82 (bD rfl) (nG (oW (cs := [(I6 uV.kind), (I6 uV.n)]) h 20 rfl rfl fun w b124 h => nJ (aa (ah tQ rfl) (aa (aB h 20 rfl aW rfl rfl) (aa (bz rfl rfl) (aa (ag (v := (.bool (decide ((uV.kind : Int) = 2)))) rfl) (aA rfl rfl (fun q => aB h 6 rfl FC rfl rfl) (aA rfl rfl (fun q => ah iG rfl) ?_)))))))))))))))
 refine aA rfl rfl (fun q => aB h 20 rfl aW (dz q) rfl) (aA rfl rfl (fun q => Zb (f := (fun x => Value.bool x)) (zz := false) pq h 5 rfl Ey (dz q) (dz q) rfl rfl) (aA rfl rfl (fun q => ic (dz q)) (aa (fD rfl rfl lX) (nN (aG hs rfl (fun rZ hs => ?_) (fun rZ hs => ?_))))))
 refine nG (aa (aB h 6 rfl FC rfl rfl) (aa (ah iG rfl) (aa (aB h 20 rfl aW rfl rfl) (BD (p8 := (List.map (fun p => (p.1, (fun x => Value.bool x) p.2)) (Av uV.n true pq))) h 5 rfl Ey rfl rfl rfl (CE (f := (fun x => Value.bool x)) _) fun w h => nN (aC (aa (aB h 7 rfl vP rfl rfl) (aa (ah iG rfl) (aa (aB h 20 rfl aW rfl rfl) (uQ (R := dU) (vs := [(I6 uV.n)]) (xs := [uV.n]) h 21 jg rfl rfl rfl ⟨rfl, trivial⟩ rfl fun w u126 h => ?_)))))))))
 obtain ⟨a127, hs⟩ := bg hs
 refine mo (R := dU) (m := [uV.n]) h 11 rfl (h.dV 21 rfl) jg rfl rfl rfl a127.1 a127.2 fun w u128 h => fA h 7 [u128] rfl vP rfl rfl rfl rfl (h.dD 11 rfl).one fun w h => az (KA Tryz.results82 (⟨_, rfl, ?_⟩))
 refine az (ax (au ?_))
 exact bP (u128, (gT ++ [uV.n]), (Av uV.n true pq)) ⟨h.cn _, hs⟩
 refine aF (KA Tryz.results82 (⟨_, rfl, ?_⟩))
 refine az (ax (au ?_))
 exact bP (v105, gT, pq) ⟨h.cn _, hs⟩
 rw [fZ (hik ▸ Ws), gG] at hs
 refine gV (bA (bA (dE (ax (ak (aC (aa (ag (v := (I6 I4)) rfl) ?_)))))))
 obtain ⟨a129, hs⟩ := bg hs
 refine aa (dw rfl rfl a129) (aa (ae (v := (I6 ((I4 + 1)))) rfl) (az (au ?_)))
 subst hnx75
 exact jV ⟨m741, (I4 + 1), v105, gT, pq⟩ ⟨h.cn _, hs⟩
 refine nE (aa (aB h 7 rfl vP rfl rfl) (aa (ae (v := v68) rfl) (aa (ae (v := (I6 0)) rfl) (nR (Fp (v1 := v68) (v2 := (I6 0)) Tryz.results48 rfl rfl ?_)))))
 obtain rfl := fJ hs
 exact ⟨h.grown, _, rfl, (h.ng 11 rfl).1, (h.ng 11 rfl).2⟩
def CS (H7 : List Val → Option (List Val)) (uf : List Val) : Option (List Val) :=
  H7 uf
def CU (mL : List (Int × Int)) (i6 : Int) (x4 : List Val) (H7 : List Val → Option (List Val)) : Option (List Val) :=
  (idx x4 i6).bind fun EJ => bif decide ((EJ.kind : Int) = 2) then CS H7 (x4.set (i6).toNat { EJ with n := ((lk EJ.n mL).getD (0 : Int)) }) else CS H7 x4
def FQ (x4 : List Val) : Option (List Val) :=
  some x4
def I5 (sx : List Val) (mL : List (Int × Int)) : Option (List Val) :=
  upto (CU mL) FQ 0 ((sx.length : Int)).toNat sx
theorem Oe (w0 : World) (M : BS) (hM : ∀ b, M b → b < w0.heap.size) (bq bm : Nat) (sv : Value) (sx : List Val) (hC : Chunk.holds w0 M (Chunk.own' (.own bM 51 sv sx : Chunk)) (.own bM 51 sv sx : Chunk)) (hap : ∀ b, Chunk.own' (.own bM 51 sv sx : Chunk) b → ¬ M b) (mL : List (Int × Int)) (hbm : wV w0 bm (List.map (fun p => (p.1, (fun x => Value.int .i64 x) p.2)) mL)) (nbm : ¬ Chunk.own' (.own bM 51 sv sx : Chunk) bm) (hbq : ∃ E, w0.heap[bq]? = some (.cells #[(.map (some bm))] E (0, 0))) (nbq : ¬ Chunk.own' (.own bM 51 sv sx : Chunk) bq) (r : List Val) (hs : I5 sx mL = some r) :
    Calls Tryz.prog 50 #[sv, (.pointer (some ⟨bq, 0, none⟩))] w0 (fun e w' => aI (Chunk.own' (.own bM 51 sv sx : Chunk)) w0 w' ∧ e = .returned (.tuple #[]) ∧ Chunk.holds w' M (Chunk.own' (.own bM 51 sv r : Chunk)) (.own bM 51 sv r : Chunk) ∧ (∀ b, Chunk.own' (.own bM 51 sv r : Chunk) b → b < w0.heap.size → Chunk.own' (.own bM 51 sv sx : Chunk) b)) := by
 refine aN (args := [sv, (.pointer (some ⟨bq, 0, none⟩))]) Tryz.func50 rfl Tryz.ntmps50 (bD rfl) ?_
 have h := SH.GA hM hC hap
 replace h := h.Au 3 (cs := [(.map (some bm))]) hbq nbq Bl
 have nbqK := nbq
 have nbmK := nbm
 generalize Bo : (.own bM 51 sv sx : Chunk).own' = K0 at h nbqK nbmK
 refine nG (aa (ag (v := sv) rfl) (aa (bS bO rfl (h.dV 1 rfl)) (aa (ag (v := (I6 0)) rfl) (nN (aO ?_)))))
 have hli6 := (h.dV 1 rfl).bV
 refine gF (σ := Nat × Int × List Val) (inl ([3, 4] ++ rg 7 17)) (fun ⟨k5, i6, x4⟩ => [(7, (I6 i6))]) (fun ⟨k5, i6, x4⟩ w => SH w0 M K0 w (hset [(1, .own bM 51 sv x4), (2, .no), (3, .pt bq 0 [(.map (some bm))])]) ∧ i6 = (k5 : Int) ∧ upto (CU mL) FQ i6 (((sx.length : Int)).toNat - k5) x4 = some r) (fun ⟨k5, i6, x4⟩ => ((sx.length : Int)).toNat - k5) ⟨0, 0, sx⟩ ⟨rfl, trivial⟩ ?_ ?_
 exact ⟨h.cn _, rfl, hs⟩
 rintro ⟨k5, i6, x4⟩ w dx ⟨h, hik, hs⟩
 refine nG ?_
 refine aa (dP rfl rfl) (nN ?_)
 refine aP (iE rfl (fun e10 => ?_) (fun e10 => ?_))
 refine aF (ak ?_)
 rw [vw (by have := rq e10; omega)] at hs
 generalize VD : upto (CU mL) FQ (i6 + 1) (((sx.length : Int)).toNat - (k5 + 1)) = H7 at hs
 have VE : jN (i6 + 1) := (by have := rq e10; have := hli6; exact jN.mk (by omega) (by omega))
 refine bW (σ := List Val) (inl ([3, 4] ++ rg 9 14)) (fun uf => []) (fun uf w => SH w0 M K0 w (hset [(1, .own bM 51 sv uf), (2, .no), (3, .pt bq 0 [(.map (some bm))])]) ∧ CS H7 uf = some r) ?_ ?_
 rintro uf w dx ⟨h, hs⟩
 refine aC (aa (dw rfl rfl VE) (aa (ag (v := (I6 ((i6 + 1)))) rfl) (az (au ?_))))
 subst VD
 exact jV ⟨k5 + 1, i6 + 1, uf⟩ ⟨h.cn _, by omega, hs⟩ (by have := rq e10; dsimp only; omega)
 refine aO (nG (aa (ag (v := (I6 i6)) rfl) ?_))
 obtain ⟨EJ, e14, hs⟩ := aJ hs
 obtain ⟨b16, q17, i15⟩ := h.xy 1 rfl bO rfl (aH e14).1 (aH e14).2
 refine aa (i15 _ _ _ _ _ _ _ _ _ rfl rfl) ?_
 obtain ⟨cs18, m19, VQ⟩ := h.Af 1 rfl q17 (aH e14).2
 obtain rfl := VQ
 refine aa (pI (k := 0) (vs := [(I6 EJ.kind), (I6 EJ.n)]) m19 bT rfl rfl rfl (bD rfl)) (bU h 4 bT fun w Ke h => aa (ae (v := (I6 i6)) rfl) (dm (vs := [(I6 EJ.kind), (I6 EJ.n)]) h 4 [(I6 EJ.kind), (I6 EJ.n)] rfl bT rfl rfl rfl rfl rfl (ai rfl (ai rfl aR)) fun w h => nJ (aa (ah tQ rfl) (aa (aB h 4 rfl aW rfl rfl) (aa (bz rfl rfl) (nN (aG hs rfl (fun c22 hs => ?_) (fun c22 hs => ?_))))))))
 refine aC (aa (ag (v := sv) rfl) (aa (ag (v := (I6 i6)) rfl) (aa (dZ (k := 0) h 3 rfl RD rfl rfl) (aa (ah iG rfl) (aa (aB h 4 rfl aW rfl rfl) (aa (aag (f := (fun x => Value.int .i64 x)) (zz := (0 : Int)) mL ((hbm).keep h.keep nbmK) RB rfl rfl rfl) ?_))))))
 obtain ⟨b24, q25, i23⟩ := h.xy 1 rfl bO rfl (aH e14).1 (aH e14).2
 refine aa (i23 _ _ _ _ _ _ _ _ _ rfl rfl) (aa (ah iG rfl) (KD (a' := { EJ with n := ((lk EJ.n mL).getD (0 : Int)) }) h 1 rfl q25 rfl (aH e14).2 aW rfl rfl rfl rfl (by rintro _ rfl; rfl) fun w h => az (ax (au ?_))))
 exact bP (x4.set (i6).toNat { EJ with n := ((lk EJ.n mL).getD (0 : Int)) }) ⟨h.cn _, hs⟩
 refine aF (ax (au ?_))
 exact bP x4 ⟨h.cn _, hs⟩
 rw [vz (by have := of_decide_eq_false e10; omega)] at hs
 refine gV (bA (bA (dE (KA Tryz.results50 ?_))))
 obtain rfl := fJ hs
 subst Bo
 obtain ⟨o1, o2, o3⟩ := h.q8 1 (C := (.own bM 51 sv x4 : Chunk)) rfl trivial
 exact ⟨o2, rfl, o1, o3⟩
def wF (Aj : List (Int × Int)) (i127 : Int) (uJ : List (List Val)) (Zq : List (List Val) → Option LX.State) : Option LX.State :=
  (idx uJ i127).bind fun DF => (I5 DF Aj).bind fun FR => Zq (uJ.set (i127).toNat FR)
def xm (GL : List LX.Frame) (uO : LX.State) (uJ : List (List Val)) : Option LX.State :=
  some (⟨GL, uJ, uO.status, uO.aK⟩ : LX.State)
def uC (Aj : List (Int × Int)) (i99 : Int) (GL : List LX.Frame) (Zr : List LX.Frame → Option LX.State) : Option LX.State :=
  (idx GL i99).bind fun x105 => (I5 x105.regs Aj).bind fun FP => Zr (GL.set (i99).toNat ({ x105 with regs := FP }))
def xn (Aj : List (Int × Int)) (uO : LX.State) (qp : List (List Val)) (GL : List LX.Frame) : Option LX.State :=
  upto (wF Aj) (xm GL uO) 0 ((qp.length : Int)).toNat qp
def oM (uO : LX.State) (i67 : Int) (Wu : Int) (s : List (List Val) × List Int × List (Int × Int)) (nx70 : List (List Val) × List Int × List (Int × Int) → Option LX.State) : Option LX.State :=
  match s with | (qp, Kj, Aj) => (idx uO.cells Wu).bind fun Zt => gL (Wu ∉ Kj) (gL (Room 24 qp [Zt]) (nx70 ((qp ++ [Zt]), (Kj ++ [Wu]), (Av Wu i67 Aj))))
def qO (uO : LX.State) (s : List (List Val) × List Int × List (Int × Int)) : Option LX.State :=
  match s with | (qp, Kj, Aj) => upto (uC Aj) (xn Aj uO qp) 0 ((uO.frames.length : Int)).toNat uO.frames
def qP (EJ : LX.Frame) (yu : List Val) (nx15 : List Val → Option LX.State) : Option LX.State :=
  gL (Room 16 yu EJ.regs) (nx15 (yu ++ EJ.regs))
def xq (N : Nat) (a : LX.State) (yu : List Val) : Option LX.State :=
  (A7 N a.cells yu).bind fun y28 => bif decide ((y28.2 : Int) ≠ 0) then none else (AZ a).bind fun uO => eO (oM uO) (qO uO) 0 y28.1 ([], ([] : List Int), ([] : List (Int × Int)))
def rJ (N : Nat) (a : LX.State) : Option LX.State :=
  each qP (xq N a) a.frames []
theorem r9 (N : Nat) (w0 : World) (M : BS) (hM : ∀ b, M b → b < w0.heap.size) (a : LX.State) (Ef EG : Value) (ha0 : gB dB w0 BE M Ef a.frames) (ha1 : gB (mP bM) w0 BE M EG a.cells) (r : LX.State) (hs : rJ N a = some r) :
    Calls Tryz.prog 20 #[(.agg #[Ef, EG, (I6 a.status), (I6 a.aK)])] w0 (fun e w' => Grow w0 w' ∧ ∃ xM, ∃ Bq, ∃ EF, ∃ Qj, e = .returned (.agg #[xM, Bq, .int .i64 r.status, .int .i64 r.aK]) ∧ Chunk.holds w' M (Chunk.own' ((cU xM Bq r.frames EF r.cells Qj) : Chunk)) ((cU xM Bq r.frames EF r.cells Qj) : Chunk) ∧ (∀ b, Chunk.own' ((cU xM Bq r.frames EF r.cells Qj) : Chunk) b → w0.heap.size ≤ b)) := by
 refine aN (args := [(.agg #[Ef, EG, (I6 a.status), (I6 a.aK)])]) Tryz.func20 rfl Tryz.ntmps20 (bD rfl) ?_
 have h := SH.init hM
 replace h := h.fw 1 ha0 bC
 replace h := h.fw 2 ha1 (cZ bC)
 refine nG (oW (cs := [Ef, EG, (I6 a.status), (I6 a.aK)]) h 3 rfl rfl fun w b1 h => bU h 4 bE fun w b2 h => nJ (aa (ae (v := (.slice none 0 0)) rfl) (nK (aa (ah eH rfl) (aa (aB h 3 rfl jd rfl rfl) (aa (bS dA rfl (h.gM 1 rfl)) (aa (ag (v := (I6 0)) rfl) (nN (aO ?_)))))))))
 replace h := h.xC (R := bM) (E := 51) 8
 refine gF (σ := Nat × Int × Value × List Val) (inl ([3, 5] ++ rg 20 9)) (fun ⟨k11, i12, v9, yu⟩ => [(3, v9), (20, (I6 i12))]) (fun ⟨k11, i12, v9, yu⟩ w => SH w0 M BE w (hset [(1, .sr dB Ef a.frames), (2, .sr (mP bM) EG a.cells), (3, .blk b1 [Ef, EG, (I6 a.status), (I6 a.aK)]), (4, .blk b2 [(.slice none 0 0), (.slice none 0 0), (I6 0), (I6 0)]), (8, .own bM 51 v9 yu)]) ∧ i12 = (k11 : Int) ∧ each qP (xq N a) (a.frames.drop k11) yu = some r) (fun ⟨k11, i12, v9, yu⟩ => a.frames.length - k11) ⟨0, 0, (.slice none 0 0), []⟩ ⟨rfl, rfl, trivial⟩ ?_ ?_
 exact ⟨h.cn _, rfl, hs⟩
 rintro ⟨k11, i12, v9, yu⟩ w dx ⟨h, hik, hs⟩
 refine nG ?_
 refine aa (dP rfl rfl) (nN ?_)
 refine aP (iE rfl (fun e16 => ?_) (fun e16 => ?_))
 refine aF (ak ?_)
 obtain ⟨EJ, e17a, e17b⟩ := fV (hik ▸ e16)
 rw [e17b, dI] at hs
 generalize hnx15 : each qP (xq N a) (a.frames.drop (k11 + 1)) = nx15 at hs
 have e17r := gp ((h.gM 1 rfl)).bV hik e16
 refine aP (aO (nG ?_))
 obtain ⟨b19, o20, cs21, h, r22, i18⟩ := h.zg 1 9 rfl dA rfl (iO hik) (gm hik e17a)
 obtain ⟨u23, rfl, g24⟩ := vL r22
 replace h := h.bX 10 g24.up
 refine aa (i18 _ _ _ _ _ _ _ _ _ rfl rfl) (aa (jH (k := 0) (vs := [(I6 EJ.proc), (I6 EJ.at_), u23, (I6 EJ.mH)]) h 9 rfl jh rfl rfl rfl (bD rfl)) (bU h 11 jh fun w b25 h => dm (vs := [(I6 EJ.proc), (I6 EJ.at_), u23, (I6 EJ.mH)]) h 11 [(I6 EJ.proc), (I6 EJ.at_), u23, (I6 EJ.mH)] rfl jh rfl rfl rfl rfl rfl (ai rfl (ai rfl (ai (h.fo 10 rfl).one (ai rfl aR)))) fun w h => nN (aC (aa (ag (v := v9) rfl) (aa (ah mV rfl) (aa (aB h 11 rfl nA rfl rfl) ?_))))))
 obtain ⟨a26, hs⟩ := bg hs
 refine mo (R := bM) (m := EJ.regs) h 8 rfl (h.mM 10 rfl) vM rfl rfl rfl a26.1 a26.2 fun w u27 h => aa (ae (v := u27) rfl) (az (ax (ak (aC (aa (dw rfl rfl e17r) (aa (ag (v := (I6 ((i12 + 1)))) rfl) (az (au ?_))))))))
 subst hnx15
 exact jV ⟨k11 + 1, i12 + 1, u27, (yu ++ EJ.regs)⟩ ⟨h.cn _, by omega, hs⟩ (by have := rq e16; dsimp only; omega)
 rw [fZ (hik ▸ e16), gG] at hs
 refine nE (aa (ah jW rfl) (aa (aB h 3 rfl o8 rfl rfl) (aa (ag (v := v9) rfl) ?_)))
 obtain ⟨y28, e29, hs⟩ := aJ hs
 refine aS aap rfl rfl (MO N _ _ h.lt EG a.cells (h.gM 2 rfl) v9 yu (h.dV 8 rfl) _ e29) ?_
 rintro _ w ⟨XH, u30, rfl, g31, g32⟩
 refine ⟨_, rfl, ?_⟩
 replace h := h.jO 12 XH g31 g32
 refine aa (ag (v := (.tuple #[u30, (I6 y28.2)])) rfl) (aa (aU rfl rfl) (aa (aU rfl rfl) (aa (ae (v := u30) rfl) (aa (ae (v := (I6 y28.2)) rfl) (nK (aa (ag (v := (I6 y28.2)) rfl) (aa (gN rfl rfl) (nN (aG hs rfl (fun c34 hs => ?_) (fun c34 hs => ?_))))))))))
 refine nG (aa (cK (vs := [Ef, EG, (I6 a.status), (I6 a.aK)]) h 3 rfl bE rfl rfl rfl) (dm (vs := [Ef, EG, (I6 a.status), (I6 a.aK)]) h 4 [Ef, EG, (I6 a.status), (I6 a.aK)] rfl bE rfl rfl rfl rfl rfl (ai (h.Dr 1 rfl).one (ai (h.Dr 2 rfl).one (ai rfl (ai rfl aR)))) fun w h => nR (ay ?_)))
 cases hs
 refine nS (aa (cK (vs := [Ef, EG, (I6 a.status), (I6 a.aK)]) h 3 rfl bE rfl rfl rfl) ?_)
 obtain ⟨uO, e36, hs⟩ := aJ hs
 refine aS Mo rfl rfl (CR _ _ h.lt a Ef EG (h.gM 1 rfl) (h.gM 2 rfl) _ e36) ?_
 rintro _ w ⟨k43, u37, YA, MP, Ql, rfl, h41, h42⟩
 refine ⟨_, rfl, ?_⟩
 replace h := h.Fx 13 (C := (cU u37 YA uO.frames MP uO.cells Ql)) k43 ⟨⟨⟨trivial, trivial⟩, trivial⟩, trivial⟩ h41 h42
 replace h := h.bG 13 16 (by decide) rfl rfl
 replace h := h.bG 13 15 (by decide) rfl rfl
 replace h := h.bG 13 14 (by decide) rfl rfl
 refine dm (vs := [u37, YA, (I6 uO.status), (I6 uO.aK)]) h 3 [u37, YA, (I6 uO.status), (I6 uO.aK)] rfl bE rfl rfl rfl rfl rfl (ai (h.dD 13 rfl).one (ai (h.dD 15 rfl).one (ai rfl (ai rfl aR)))) fun w h => nJ (Cx h 17 fun w Tq h => qd h 18 RD fun w XK h => fA h 18 [(.map (some Tq))] rfl RD rfl rfl rfl rfl rfl fun w h => nJ (aa (ae (v := (.slice none 0 0)) rfl) (nK (aa (ag (v := u30) rfl) (aa (bS bY rfl (h.dV 12 rfl)) (aa (ag (v := (I6 0)) rfl) (nN (aO ?_))))))))
 replace h := h.freeze 12 rfl
 replace h := h.aad 16 rfl
 replace h := h.xC (R := (ed Val).raw) (E := 47) 25
 replace h := h.aaa (R := bM) (Es := 51) 26
 refine gF (σ := Nat × Int × Value × List Value × List (List Val) × List Int × List (Int × Int)) (inl ([9, 10, 11] ++ rg 44 17)) (fun ⟨Zu, i67, v61, Hg, qp, Kj, Aj⟩ => [(9, v61), (44, (I6 i67))]) (fun ⟨Zu, i67, v61, Hg, qp, Kj, Aj⟩ w => SH w0 M BE w (hset [(3, .blk b1 [u37, YA, (I6 uO.status), (I6 uO.aK)]), (4, .blk b2 [(.slice none 0 0), (.slice none 0 0), (I6 0), (I6 0)]), (12, .rd dU u30 y28.1), (13, .own bR.raw 49 u37 (List.zip uO.frames MP)), (14, .gZ (dC bM 51 hn MP (List.map bR.sub uO.frames))), (15, .own (ed Val).raw 47 YA (List.zip uO.cells Ql)), (16, .gZ (dC bM 51 (hmv Kj) Ql (List.map (ed Val).sub uO.cells))), (17, .mp Tq (List.map (fun p => (p.1, (fun x => Value.int .i64 x) p.2)) Aj)), (18, .blk XK [(.map (some Tq))]), (25, .own (ed Val).raw 47 v61 (List.zip qp Hg)), (26, .gZ (dC bM 51 hn Hg (List.map (ed Val).sub qp)))]) ∧ i67 = (Zu : Int) ∧ eO (oM uO) (qO uO) i67 (y28.1.drop Zu) (qp, Kj, Aj) = some r) (fun ⟨Zu, i67, v61, Hg, qp, Kj, Aj⟩ => y28.1.length - Zu) ⟨0, 0, (.slice none 0 0), ([] : List Value), [], ([] : List Int), ([] : List (Int × Int))⟩ ⟨rfl, rfl, trivial⟩ ?_ ?_
 exact ⟨h.cn _, rfl, hs⟩
 rintro ⟨Zu, i67, v61, Hg, qp, Kj, Aj⟩ w dx ⟨h, hik, hs⟩
 refine nG ?_
 refine aa (dP rfl rfl) (nN ?_)
 refine aP (iE rfl (fun V6 => ?_) (fun V6 => ?_))
 refine aF (ak ?_)
 obtain ⟨Wu, e72a, e72b⟩ := fV (hik ▸ V6)
 rw [e72b, iT] at hs
 generalize hnx70 : eO (oM uO) (qO uO) (i67 + 1) (y28.1.drop (Zu + 1)) = nx70 at hs
 have e72r := gp ((h.mM 12 rfl)).bV hik V6
 refine aP (aO (nG (aa (ag (v := (I6 i67)) rfl) ?_)))
 obtain ⟨b74, o75, cs76, h, r77, i73⟩ := h.Fj 12 27 rfl bY rfl (iO hik) (gm hik e72a)
 obtain rfl := r77
 refine aa (i73 _ _ _ _ _ _ _ _ _ rfl rfl) (aa (dZ (k := 0) h 27 rfl aW rfl rfl) (aa (ae (v := (I6 i67)) rfl) (aa (ae (v := (I6 Wu)) rfl) (nJ (aa (aB h 18 rfl RD rfl rfl) (aa (ag (v := (I6 Wu)) rfl) (aa (ag (v := (I6 i67)) rfl) (BD (p8 := (List.map (fun p => (p.1, (fun x => Value.int .i64 x) p.2)) (Av Wu i67 Aj))) h 17 rfl RB rfl rfl rfl (CE (f := (fun x => Value.int .i64 x)) _) fun w h => nN (aC (aa (ag (v := v61) rfl) (aa (ah jW rfl) (aa (aB h 3 rfl o8 rfl rfl) (aa (ag (v := (I6 Wu)) rfl) ?_)))))))))))))
 obtain ⟨Zt, e79, hs⟩ := aJ hs
 obtain ⟨a83, hs⟩ := bg hs
 obtain ⟨u84, e85, h⟩ := h.X5 16 28 Zt rfl rfl (by decide) (aH e79).1 (aH e79).2 a83 rfl
 obtain ⟨b81, q82, i80⟩ := h.xy 15 rfl eX rfl (aH e79).1 (fE (aH e79).2 e85)
 refine aa (i80 _ _ _ _ _ _ _ _ _ rfl rfl) ?_
 obtain ⟨cs86, m87, r88⟩ := h.Af 15 rfl q82 (fE (aH e79).2 e85)
 obtain ⟨rfl, -⟩ := r88
 refine aa (pY (k := 0) m87 nA rfl rfl) ?_
 have u89o : (Value.oneCell' u84) = true := (h.dD 28 rfl).one
 refine uQ (R := (ed Val).raw) (vs := [u84]) (xs := List.zip [Zt] [u84]) h 29 rE rfl rfl rfl ⟨⟨je u89o, u89o⟩, trivial⟩ rfl fun w u89 h => ?_
 replace h := h.yz (N := (ed Val)) 28 Zt rfl rfl
 obtain ⟨a90, hs⟩ := bg hs
 have z92 := h.iM 26 rfl
 have z92b := h.iM 28 rfl
 refine mo (R := (ed Val).raw) (m := List.zip [Zt] [u84]) h 25 rfl (h.dV 29 rfl) rE rfl rfl rfl (by rw [dR z92, dR z92b]; exact a90.1) (by rw [dR z92, dR z92b]; exact a90.2) fun w u91 h => ?_
 replace h := (h.yw 26 28 rfl rfl (by decide)).fC 29
 rw [yx z92, ← List.map_append] at h
 obtain ⟨us93, us93e⟩ : ∃ z, z = Hg ++ [u84] := ⟨_, rfl⟩
 rw [← us93e] at h
 refine aa (ae (v := u91) rfl) (az (ax (ak (aC (aa (dw rfl rfl e72r) (aa (ag (v := (I6 ((i67 + 1)))) rfl) (az (au ?_))))))))
 subst hnx70
 exact jV ⟨Zu + 1, i67 + 1, u91, us93, (qp ++ [Zt]), (Kj ++ [Wu]), (Av Wu i67 Aj)⟩ ⟨h.cn _, by omega, hs⟩ (by have := rq V6; dsimp only; omega)
 rw [fZ (hik ▸ V6), ni] at hs
 refine nE (aa (rV (c1 := []) (c2 := [(.pointer (some ⟨XK, 0, none⟩))]) rfl rfl) (aa (ae (v := (.func (.func 50) #[] #[(.pointer (some ⟨XK, 0, none⟩))])) rfl) (nK (aa (ah eH rfl) (aa (aB h 3 rfl jd rfl rfl) (aa (qZ (N := bR) dA rfl (h.dV 13 rfl) (h.iM 14 rfl)) (aa (ag (v := (I6 0)) rfl) (nN (aO ?_)))))))))
 have hli99 := PD (h.dV 13 rfl) (h.iM 14 rfl)
 refine gF (σ := Nat × Int × List LX.Frame) (inl ([14] ++ rg 65 9)) (fun ⟨Zv, i99, GL⟩ => [(65, (I6 i99))]) (fun ⟨Zv, i99, GL⟩ w => SH w0 M BE w (hset [(3, .blk b1 [u37, YA, (I6 uO.status), (I6 uO.aK)]), (4, .blk b2 [(.slice none 0 0), (.slice none 0 0), (I6 0), (I6 0)]), (13, .own bR.raw 49 u37 (List.zip GL MP)), (14, .gZ (dC bM 51 hn MP (List.map bR.sub GL))), (15, .own (ed Val).raw 47 YA (List.zip uO.cells Ql)), (16, .gZ (dC bM 51 (hmv Kj) Ql (List.map (ed Val).sub uO.cells))), (17, .mp Tq (List.map (fun p => (p.1, (fun x => Value.int .i64 x) p.2)) Aj)), (18, .blk XK [(.map (some Tq))]), (25, .own (ed Val).raw 47 v61 (List.zip qp Hg)), (26, .gZ (dC bM 51 hn Hg (List.map (ed Val).sub qp)))]) ∧ i99 = (Zv : Int) ∧ upto (uC Aj) (xn Aj uO qp) i99 (((uO.frames.length : Int)).toNat - Zv) GL = some r) (fun ⟨Zv, i99, GL⟩ => ((uO.frames.length : Int)).toNat - Zv) ⟨0, 0, uO.frames⟩ ⟨rfl, trivial⟩ ?_ ?_
 exact ⟨h.cn _, rfl, hs⟩
 rintro ⟨Zv, i99, GL⟩ w dx ⟨h, hik, hs⟩
 refine nG ?_
 refine aa (dP rfl rfl) (nN ?_)
 refine aP (iE rfl (fun Wv => ?_) (fun Wv => ?_))
 refine aF (ak ?_)
 rw [vw (by have := rq Wv; omega)] at hs
 generalize hnx102 : upto (uC Aj) (xn Aj uO qp) (i99 + 1) (((uO.frames.length : Int)).toNat - (Zv + 1)) = Zr at hs
 have e104r : jN (i99 + 1) := (by have := rq Wv; have := hli99; exact jN.mk (by omega) (by omega))
 refine aP (aO (nG ?_))
 obtain ⟨x105, Ww, hs⟩ := aJ hs
 obtain ⟨De, e111, h⟩ := h.rT 14 30 x105.regs rfl rfl (by decide) (aH Ww).2 rfl
 obtain ⟨b108, q109, i107⟩ := h.xy 13 rfl dA rfl (aH Ww).1 (fE (aH Ww).2 e111)
 refine aa (i107 _ _ _ _ _ _ _ _ _ rfl rfl) ?_
 obtain ⟨cs112, m113, r114⟩ := h.Af 13 rfl q109 (fE (aH Ww).2 e111)
 obtain ⟨rfl, -⟩ := r114
 refine aa (pI (k := 0) (vs := [(I6 x105.proc), (I6 x105.at_), De, (I6 x105.mH)]) m113 jh rfl rfl rfl (bD rfl)) (bU h 31 jh fun w b115 h => dm (vs := [(I6 x105.proc), (I6 x105.at_), De, (I6 x105.mH)]) h 31 [(I6 x105.proc), (I6 x105.at_), De, (I6 x105.mH)] rfl jh rfl rfl rfl rfl rfl (ai rfl (ai rfl (ai (h.dD 30 rfl).one (ai rfl aR)))) fun w h => nN (aC (aa (ag (v := (.func (.func 50) #[] #[(.pointer (some ⟨XK, 0, none⟩))])) rfl) (aa (ah mV rfl) (aa (aB h 31 rfl nA rfl rfl) ?_)))))
 obtain ⟨l116a, l116b, l116c⟩ := h.xH 30 (C := (.own bM 51 De x105.regs : Chunk)) rfl trivial
 obtain ⟨FP, e118, hs⟩ := aJ hs
 refine aS Vn rfl rfl (Oe _ _ l116c XK Tq De x105.regs l116a l116b Aj (h.Po 17 rfl) (fun hb => h.apart 30 17 (by decide) _ hb rfl) (h.qV 18 rfl) (fun hb => h.apart 30 18 (by decide) _ hb rfl) _ e118) ?_
 rintro _ w ⟨k119, rfl, h120, h121⟩
 refine ⟨_, rfl, ?_⟩
 replace h := h.back 30 (C := (.own bM 51 De x105.regs : Chunk)) (C' := (.own bM 51 De FP : Chunk)) rfl trivial h120 k119 h121
 refine az (ax (ak (aC (aa (dw rfl rfl e104r) (aa (ag (v := (I6 ((i99 + 1)))) rfl) (az ?_))))))
 replace h := h.rQ 13 14 30 ({ x105 with regs := FP }) rfl rfl rfl (by decide) (by decide) (by decide) (aH Ww).2 e111 rfl
 refine au ?_
 subst hnx102
 exact jV ⟨Zv + 1, i99 + 1, (GL.set (i99).toNat ({ x105 with regs := FP }))⟩ ⟨h.cn _, by omega, hs⟩ (by have := rq Wv; dsimp only; omega)
 rw [vz (by have := of_decide_eq_false Wv; omega)] at hs
 refine gV (bA (bA (dE (ak (aP (nG (aa (ag (v := v61) rfl) (aa (qZ (N := (ed Val)) eX rfl (h.dV 25 rfl) (h.iM 26 rfl)) (aa (ag (v := (I6 0)) rfl) (nN (aO ?_)))))))))))
 have hli127 := PD (h.dV 25 rfl) (h.iM 26 rfl)
 refine gF (σ := Nat × Int × List (List Val)) (inl ([16] ++ rg 76 8)) (fun ⟨Og, i127, uJ⟩ => [(76, (I6 i127))]) (fun ⟨Og, i127, uJ⟩ w => SH w0 M BE w (hset [(3, .blk b1 [u37, YA, (I6 uO.status), (I6 uO.aK)]), (4, .blk b2 [(.slice none 0 0), (.slice none 0 0), (I6 0), (I6 0)]), (13, .own bR.raw 49 u37 (List.zip GL MP)), (14, .gZ (dC bM 51 hn MP (List.map bR.sub GL))), (15, .own (ed Val).raw 47 YA (List.zip uO.cells Ql)), (16, .gZ (dC bM 51 (hmv Kj) Ql (List.map (ed Val).sub uO.cells))), (17, .mp Tq (List.map (fun p => (p.1, (fun x => Value.int .i64 x) p.2)) Aj)), (18, .blk XK [(.map (some Tq))]), (25, .own (ed Val).raw 47 v61 (List.zip uJ Hg)), (26, .gZ (dC bM 51 hn Hg (List.map (ed Val).sub uJ)))]) ∧ i127 = (Og : Int) ∧ upto (wF Aj) (xm GL uO) i127 (((qp.length : Int)).toNat - Og) uJ = some r) (fun ⟨Og, i127, uJ⟩ => ((qp.length : Int)).toNat - Og) ⟨0, 0, qp⟩ ⟨rfl, trivial⟩ ?_ ?_
 exact ⟨h.cn _, rfl, hs⟩
 rintro ⟨Og, i127, uJ⟩ w dx ⟨h, hik, hs⟩
 refine nG ?_
 refine aa (dP rfl rfl) (nN ?_)
 refine aP (iE rfl (fun Wx => ?_) (fun Wx => ?_))
 refine aF (ak ?_)
 rw [vw (by have := rq Wx; omega)] at hs
 generalize hnx130 : upto (wF Aj) (xm GL uO) (i127 + 1) (((qp.length : Int)).toNat - (Og + 1)) = Zq at hs
 have e132r : jN (i127 + 1) := (by have := rq Wx; have := hli127; exact jN.mk (by omega) (by omega))
 refine aP (aO (nG ?_))
 obtain ⟨DF, Wy, hs⟩ := aJ hs
 obtain ⟨u138, Tj, h⟩ := h.rT 26 32 DF rfl rfl (by decide) (aH Wy).2 rfl
 obtain ⟨b136, q137, i135⟩ := h.xy 25 rfl eX rfl (aH Wy).1 (fE (aH Wy).2 Tj)
 refine aa (i135 _ _ _ _ _ _ _ _ _ rfl rfl) ?_
 obtain ⟨cs140, m141, r142⟩ := h.Af 25 rfl q137 (fE (aH Wy).2 Tj)
 obtain ⟨rfl, -⟩ := r142
 refine aa (pY (k := 0) m141 nA rfl rfl) (aa (ae (v := u138) rfl) (nN (aC (aa (ag (v := (.func (.func 50) #[] #[(.pointer (some ⟨XK, 0, none⟩))])) rfl) (aa (ag (v := u138) rfl) ?_)))))
 obtain ⟨l143a, l143b, l143c⟩ := h.xH 32 (C := (.own bM 51 u138 DF : Chunk)) rfl trivial
 obtain ⟨FR, e145, hs⟩ := aJ hs
 refine aS Vn rfl rfl (Oe _ _ l143c XK Tq u138 DF l143a l143b Aj (h.Po 17 rfl) (fun hb => h.apart 32 17 (by decide) _ hb rfl) (h.qV 18 rfl) (fun hb => h.apart 32 18 (by decide) _ hb rfl) _ e145) ?_
 rintro _ w ⟨k146, rfl, h147, h148⟩
 refine ⟨_, rfl, ?_⟩
 replace h := h.back 32 (C := (.own bM 51 u138 DF : Chunk)) (C' := (.own bM 51 u138 FR : Chunk)) rfl trivial h147 k146 h148
 refine az (ax (ak (aC (aa (dw rfl rfl e132r) (aa (ag (v := (I6 ((i127 + 1)))) rfl) (az ?_))))))
 replace h := h.rQ 25 26 32 FR rfl rfl rfl (by decide) (by decide) (by decide) (aH Wy).2 Tj rfl
 refine au ?_
 subst hnx130
 exact jV ⟨Og + 1, i127 + 1, (uJ.set (i127).toNat FR)⟩ ⟨h.cn _, by omega, hs⟩ (by have := rq Wx; dsimp only; omega)
 rw [vz (by have := of_decide_eq_false Wx; omega)] at hs
 refine nE (aa (ag (v := v61) rfl) (aa (ah jW rfl) (fA h 3 [u37, v61, (I6 uO.status), (I6 uO.aK)] rfl o8 rfl rfl rfl rfl (h.dD 25 rfl).one fun w h => nJ (aa (cK (vs := [u37, v61, (I6 uO.status), (I6 uO.aK)]) h 3 rfl bE rfl rfl rfl) (dm (vs := [u37, v61, (I6 uO.status), (I6 uO.aK)]) h 4 [u37, v61, (I6 uO.status), (I6 uO.aK)] rfl bE rfl rfl rfl rfl rfl (ai (h.dD 13 rfl).one (ai (h.dD 25 rfl).one (ai rfl (ai rfl aR)))) fun w h => nR (Zg (vs := [u37, v61, (I6 uO.status), (I6 uO.aK)]) Tryz.results20 rfl h 4 rfl bE rfl ?_))))))
 replace h := h.pair 13 14 (by decide)
 replace h := h.pair 13 25 (by decide)
 replace h := h.pair 13 26 (by decide)
 obtain rfl := fJ hs
 obtain ⟨o1, o2, o3⟩ := h.q8 13 (C := (cU u37 v61 GL MP uJ Hg)) rfl ⟨⟨⟨trivial, trivial⟩, trivial⟩, trivial⟩
 exact ⟨o2, u37, v61, MP, Hg, rfl, o1, Md o3⟩
def qC (a : Ins) (y4 : List LX.Frame) (y7 : List (List Val)) (y8 : Int) (y9 : Int) : Option (Bool × LX.State) :=
  bif decide (((y7.length : Int) : Int) = 24) then some (false, (⟨y4, y7, y8, y9⟩ : LX.State)) else gL (jN ((y4.length : Int) - 1)) ((idx y4 ((y4.length : Int) - 1)).bind fun uf => (idx uf.regs a.a).bind fun x22 => gL (0 ≤ a.b ∧ a.b * 16 ≤ 140737488355328) (gL (Room 24 y7 [(List.replicate a.b.toNat (⟨0, 0⟩ : Val))]) (some (true, (⟨(y4.set (((y4.length : Int) - 1)).toNat ({ uf with regs := (uf.regs.set (a.a).toNat (⟨2, (y7.length : Int)⟩ : Val)) })), (y7 ++ [(List.replicate a.b.toNat (⟨0, 0⟩ : Val))]), y8, y9⟩ : LX.State)))))
def I7 (N : Nat) (sx : LX.State) (a : Ins) : Option (Bool × LX.State) :=
  bif decide (((sx.cells.length : Int) : Int) = 24) then (rJ N sx).bind fun y39 => qC a y39.frames y39.cells y39.status y39.aK else qC a sx.frames sx.cells sx.status sx.aK
theorem I8 (N : Nat) (w0 : World) (M : BS) (hM : ∀ b, M b → b < w0.heap.size) (sb : Nat) (sx : LX.State) (jq vs1 : Value) (jU jG : List Value) (hC : Chunk.holds w0 M (Chunk.own' (cT sb jq vs1 (sx.status) (sx.aK) sx.frames jU sx.cells jG)) (cT sb jq vs1 (sx.status) (sx.aK) sx.frames jU sx.cells jG)) (hap : ∀ b, Chunk.own' (cT sb jq vs1 (sx.status) (sx.aK) sx.frames jU sx.cells jG) b → ¬ M b) (a : Ins) (DU : Value) (ha4 : fu dU w0 (fun b => M b ∨ (cT sb jq vs1 (sx.status) (sx.aK) sx.frames jU sx.cells jG).own' b) DU a.args) (r : Bool × LX.State) (hs : I7 N sx a = some r) :
    Calls Tryz.prog 89 #[(.pointer (some ⟨sb, 0, none⟩)), (.agg #[(I6 a.op), (I6 a.a), (I6 a.b), (I6 a.c), DU])] w0 (fun e w' => aI (Chunk.own' (cT sb jq vs1 (sx.status) (sx.aK) sx.frames jU sx.cells jG)) w0 w' ∧ ∃ MK, ∃ ML, ∃ MM, ∃ MN, e = .returned (.bool r.1) ∧ Chunk.holds w' M (Chunk.own' (cT sb MK ML r.2.status r.2.aK r.2.frames MM r.2.cells MN)) (cT sb MK ML r.2.status r.2.aK r.2.frames MM r.2.cells MN) ∧ (∀ b, Chunk.own' (cT sb MK ML r.2.status r.2.aK r.2.frames MM r.2.cells MN) b → b < w0.heap.size → Chunk.own' (cT sb jq vs1 (sx.status) (sx.aK) sx.frames jU sx.cells jG) b)) := by
 refine aN (args := [(.pointer (some ⟨sb, 0, none⟩)), (.agg #[(I6 a.op), (I6 a.a), (I6 a.b), (I6 a.c), DU])]) Tryz.func89 rfl Tryz.ntmps89 (bD rfl) ?_
 have h := SH.GA hM hC hap
 replace h := h.Du 6 ha4 Bl
 generalize Bo : (cT sb jq vs1 (sx.status) (sx.aK) sx.frames jU sx.cells jG).own' = K0 at h
 replace h := h.bG 1 5 (by decide) rfl rfl
 replace h := h.bG 1 4 (by decide) rfl rfl
 replace h := h.bG 1 3 (by decide) rfl rfl
 replace h := h.bG 1 2 (by decide) rfl rfl
 refine nG (oW (cs := [(I6 a.op), (I6 a.a), (I6 a.b), (I6 a.c), DU]) h 7 rfl rfl fun w b1 h => aa (ae (v := (.bool (false))) rfl) (nN (bW (σ := Value × List Value × List LX.Frame × Value × List Value × List (List Val) × Int × Int) (inl (rg 5 12)) (fun ⟨v2, UB, y4, v5, Nb, y7, y8, y9⟩ => []) (fun ⟨v2, UB, y4, v5, Nb, y7, y8, y9⟩ w => SH w0 M K0 w (hset [(1, .blk sb [v2, v5, (I6 y8), (I6 y9)]), (6, .rd dU DU a.args), (7, .blk b1 [(I6 a.op), (I6 a.a), (I6 a.b), (I6 a.c), DU]), (8, .own bR.raw 49 v2 (List.zip y4 UB)), (9, .gZ (dC bM 51 hn UB (List.map bR.sub y4))), (10, .own (ed Val).raw 47 v5 (List.zip y7 Nb)), (11, .gZ (dC bM 51 hn Nb (List.map (ed Val).sub y7)))]) ∧ qC a y4 y7 y8 y9 = some r) ?_ ?_)))
 rintro ⟨v2, UB, y4, v5, Nb, y7, y8, y9⟩ w dx ⟨h, hs⟩
 refine aP (nG (aa (ag (v := (.pointer (some ⟨sb, 0, none⟩))) rfl) (aa (bL rfl) (aa (ah jW rfl) (aa (aB h 1 rfl o8 rfl rfl) (aa (qZ (N := (ed Val)) eX rfl (h.dV 10 rfl) (h.iM 11 rfl)) (aa (bz rfl rfl) (nN (aG hs rfl (fun c10 hs => ?_) (fun c10 hs => ?_))))))))))
 refine nG (aa (ae (v := (.bool (false))) rfl) (nR (ay (bQ (v := (.bool (false))) Tryz.results89 rfl ?_))))
 replace h := h.pair 1 8 (by decide)
 replace h := h.pair 1 9 (by decide)
 replace h := h.pair 1 10 (by decide)
 replace h := h.pair 1 11 (by decide)
 obtain rfl := fJ hs
 subst Bo
 obtain ⟨o1, o2, o3⟩ := h.q8 1 (C := (cT sb v2 v5 (y8) (y9) y4 UB y7 Nb)) rfl ⟨⟨⟨⟨trivial, trivial⟩, trivial⟩, trivial⟩, trivial⟩
 exact ⟨o2, v2, v5, UB, Nb, rfl, o1, o3⟩
 refine aF (ak (aP (rP 22 mixed (by kernel_rfl) h fun w h => aM (ag (v := (.pointer (some ⟨sb, 0, none⟩))) rfl) (aM (bL rfl) (aM (ah eH rfl) (aM (aB h 1 rfl jd rfl rfl) (aM (ag (v := (.pointer (some ⟨sb, 0, none⟩))) rfl) (aM (bL rfl) (aM (ah eH rfl) (aM (aB h 1 rfl jd rfl rfl) (aM (qZ (N := bR) dA rfl (h.dV 8 rfl) (h.iM 9 rfl)) ?_)))))))))))
 obtain ⟨a11, hs⟩ := bg hs
 refine aM (mZ rfl rfl a11) ?_
 obtain ⟨uf, e13, hs⟩ := aJ hs
 obtain ⟨H6, e18, h⟩ := h.rT 9 12 uf.regs rfl rfl (by decide) (aH e13).2 rfl
 obtain ⟨b15, q16, i14⟩ := h.xy 8 rfl dA rfl (aH e13).1 (fE (aH e13).2 e18)
 refine aM (i14 _ _ _ _ _ _ _ _ _ rfl rfl) (aM (ah mV rfl) ?_)
 obtain ⟨Yn, m20, r21⟩ := h.Af 8 rfl q16 (fE (aH e13).2 e18)
 obtain ⟨rfl, -⟩ := r21
 refine aM (pY (k := 2) m20 nA rfl rfl) (aM (ah kE rfl) (aM (aB h 7 rfl aW rfl rfl) (aM (ag (v := (.pointer (some ⟨sb, 0, none⟩))) rfl) (aM (bL rfl) (aM (ah jW rfl) (aM (aB h 1 rfl o8 rfl rfl) (aM (qZ (N := (ed Val)) eX rfl (h.dV 10 rfl) (h.iM 11 rfl)) (aM (dQ (pv := [(0, (I6 2)), (1, (I6 ((y7.length : Int))))]) (out := [(I6 2), (I6 ((y7.length : Int)))]) vQ rfl ⟨0, 1, [(I6 2)], rfl, rfl, rfl, bD rfl, ⟨1, 1, [(I6 ((y7.length : Int)))], rfl, rfl, rfl, bD rfl, rfl⟩⟩) ?_))))))))
 obtain ⟨x22, e23, hs⟩ := aJ hs
 obtain ⟨b25, q26, i24⟩ := h.xy 12 rfl bO rfl (aH e23).1 (aH e23).2
 refine aM (i24 _ _ _ _ _ _ _ _ _ rfl rfl) (Be (yM (a' := (⟨2, (y7.length : Int)⟩ : Val)) (vs := [(I6 2), (I6 ((y7.length : Int)))]) h 12 rfl q26 rfl (aH e23).2 bT rfl rfl rfl rfl rfl fun w h k27 => nN (aP (ky (L := (fun b => ob v5 b ∨ b = sb)) mixed h fun w h => bB 0 (aI.refl _ _) rfl aj (by kernel_rfl) (by kernel_rfl) (by kernel_rfl) (fun w hk => ag (v := (.pointer (some ⟨sb, 0, none⟩))) rfl) (bB 1 (aI.refl _ _) rfl aj (by kernel_rfl) (by kernel_rfl) (by kernel_rfl) (fun w hk => ag (v := (.pointer (some ⟨sb, 0, none⟩))) rfl) (bB 2 (aI.refl _ _) rfl aj (by kernel_rfl) (by kernel_rfl) (by kernel_rfl) (fun w hk => bL rfl) (bB 3 (aI.refl _ _) rfl aj (by kernel_rfl) (by kernel_rfl) (by kernel_rfl) (fun w hk => ah jW rfl) (bB 5 (aI.refl _ _) rfl aj (by kernel_rfl) (by kernel_rfl) (by kernel_rfl) (fun w hk => ah iR rfl) (bB 6 (aI.refl _ _) rfl aj (by kernel_rfl) (by kernel_rfl) (by kernel_rfl) (fun w hk => have h := h.BH 10 1 (by decide) rfl rfl hk; aB h 7 rfl aW rfl rfl) ?_)))))))))
 obtain ⟨Oh, hs⟩ := bg hs
 obtain ⟨zL, hs⟩ := bg hs
 obtain ⟨MQ, Zw⟩ : ∃ x, x = w := ⟨_, rfl⟩
 have jZ : aI (fun b => ob v5 b ∨ b = sb) MQ w := Zw ▸ aI.refl (fun b => ob v5 b ∨ b = sb) w
 refine qX Zw.symm (oZ 4 7 (by kernel_rfl) rfl aj rfl aj ?_ ?_)
 refine aa (aB h 1 rfl o8 rfl rfl) (az (aQ jZ (bF 7 (by kernel_rfl) rfl aj (zl (R := bM) (zs := [(I6 0), (I6 0)]) (a := (⟨0, 0⟩ : Val)) h 97 vM bT rfl (by decide) rfl rfl Oh rfl (fun _ _ => rfl) fun w jM h FT FU => ?_))))
 have Tu : ∀ b, ob jM b → MQ.heap.size ≤ b := fun b hb => Nat.le_trans jZ.size (FU b hb)
 replace jZ := jZ.grow FT
 refine az (aQ jZ (bF 8 (by kernel_rfl) rfl aj ?_))
 have sM : (Value.oneCell' jM) = true := (h.dD 97 rfl).one
 refine Bg (R := (ed Val).raw) (vs := [jM]) (xs := List.zip [(List.replicate a.b.toNat (⟨0, 0⟩ : Val))] [jM]) h 109 rE rfl rfl rfl ⟨⟨je sM, sM⟩, trivial⟩ rfl fun w Cb h zM zN => ?_
 have KY : ∀ b, ob Cb b → MQ.heap.size ≤ b := fun b hb => Nat.le_trans jZ.size (zN b hb)
 replace jZ := jZ.grow zM
 replace h := h.yz (N := (ed Val)) 97 (List.replicate a.b.toNat (⟨0, 0⟩ : Val)) rfl rfl
 refine az (aQ jZ (bF 9 (by kernel_rfl) rfl aj ?_))
 have qD := h.iM 11 rfl
 have sN := h.iM 97 rfl
 have KZ := jZ.size
 refine mU (R := (ed Val).raw) (m := List.zip [(List.replicate a.b.toNat (⟨0, 0⟩ : Val))] [jM]) h 10 rfl (h.dV 109 rfl) rE rfl rfl rfl (by rw [dR qD, dR sN]; exact zL.1) (by rw [dR qD, dR sN]; exact zL.2) fun w mG h zO zP => ?_
 have K3 : ∀ b, ob mG b → b < MQ.heap.size → ob v5 b := fun b hb hl => zP b hb (Nat.lt_of_lt_of_le hl (jZ).size)
 replace jZ := aI.step jZ zO (fun _ hx _ => .inl (hx))
 replace h := (h.yw 11 97 rfl rfl (by decide)).fC 109
 rw [yx qD, ← List.map_append] at h
 obtain ⟨sO, xO⟩ : ∃ z, z = Nb ++ [jM] := ⟨_, rfl⟩
 rw [← xO] at h
 refine az (aQ jZ (cO 10 jZ rfl (by kernel_rfl) (fun w hk => bL rfl) (cO 11 jZ rfl (by kernel_rfl) (fun w hk => ah jW rfl) (bF 12 (by kernel_rfl) rfl aj (rX h 1 [v2, mG, (I6 y8), (I6 y9)] rfl o8 rfl rfl rfl rfl (h.dD 10 rfl).one fun w h zQ => ?_)))))
 replace jZ := aI.step jZ zQ (fun _ hx _ => .inr (hx))
 refine az (aQ jZ (fB (by kernel_rfl) (ak (nG (aa (ae (v := (.bool (true))) rfl) (nR (bQ (v := (.bool (true))) Tryz.results89 rfl ?_)))))))
 replace h := h.rQ 8 9 12 ({ uf with regs := (uf.regs.set (a.a).toNat (⟨2, (y7.length : Int)⟩ : Val)) }) rfl rfl rfl (by decide) (by decide) (by decide) (aH e13).2 e18 rfl
 replace h := h.pair 1 8 (by decide)
 replace h := h.pair 1 9 (by decide)
 replace h := h.pair 1 10 (by decide)
 replace h := h.pair 1 11 (by decide)
 obtain rfl := fJ hs
 subst Bo
 obtain ⟨o1, o2, o3⟩ := h.q8 1 (C := (cT sb v2 mG (y8) (y9) (y4.set (((y4.length : Int) - 1)).toNat ({ uf with regs := (uf.regs.set (a.a).toNat (⟨2, (y7.length : Int)⟩ : Val)) })) UB (y7 ++ [(List.replicate a.b.toNat (⟨0, 0⟩ : Val))]) sO)) rfl ⟨⟨⟨⟨trivial, trivial⟩, trivial⟩, trivial⟩, trivial⟩
 exact ⟨o2, v2, mG, UB, sO, rfl, o1, o3⟩
 refine zl (R := bM) (zs := [(I6 0), (I6 0)]) (a := (⟨0, 0⟩ : Val)) h 97 vM bT rfl (by decide) rfl rfl Oh rfl (fun _ _ => rfl) fun w jM h FT FU => ?_
 have Tu : ∀ b, ob jM b → MQ.heap.size ≤ b := fun b hb => Nat.le_trans jZ.size (FU b hb)
 replace jZ := jZ.grow FT
 refine az (aQ jZ (oZ 4 8 (by kernel_rfl) rfl aj rfl aj ?_ ?_))
 refine aa (aB h 1 rfl o8 rfl rfl) (az (aQ jZ (bF 8 (by kernel_rfl) rfl aj ?_)))
 have sM : (Value.oneCell' jM) = true := (h.dD 97 rfl).one
 refine Bg (R := (ed Val).raw) (vs := [jM]) (xs := List.zip [(List.replicate a.b.toNat (⟨0, 0⟩ : Val))] [jM]) h 109 rE rfl rfl rfl ⟨⟨je sM, sM⟩, trivial⟩ rfl fun w Cb h zM zN => ?_
 have KY : ∀ b, ob Cb b → MQ.heap.size ≤ b := fun b hb => Nat.le_trans jZ.size (zN b hb)
 replace jZ := jZ.grow zM
 replace h := h.yz (N := (ed Val)) 97 (List.replicate a.b.toNat (⟨0, 0⟩ : Val)) rfl rfl
 refine az (aQ jZ (bF 9 (by kernel_rfl) rfl aj ?_))
 have qD := h.iM 11 rfl
 have sN := h.iM 97 rfl
 have KZ := jZ.size
 refine mU (R := (ed Val).raw) (m := List.zip [(List.replicate a.b.toNat (⟨0, 0⟩ : Val))] [jM]) h 10 rfl (h.dV 109 rfl) rE rfl rfl rfl (by rw [dR qD, dR sN]; exact zL.1) (by rw [dR qD, dR sN]; exact zL.2) fun w mG h zO zP => ?_
 have K3 : ∀ b, ob mG b → b < MQ.heap.size → ob v5 b := fun b hb hl => zP b hb (Nat.lt_of_lt_of_le hl (jZ).size)
 replace jZ := aI.step jZ zO (fun _ hx _ => .inl (hx))
 replace h := (h.yw 11 97 rfl rfl (by decide)).fC 109
 rw [yx qD, ← List.map_append] at h
 obtain ⟨sO, xO⟩ : ∃ z, z = Nb ++ [jM] := ⟨_, rfl⟩
 rw [← xO] at h
 refine az (aQ jZ (cO 10 jZ rfl (by kernel_rfl) (fun w hk => bL rfl) (cO 11 jZ rfl (by kernel_rfl) (fun w hk => ah jW rfl) (bF 12 (by kernel_rfl) rfl aj (rX h 1 [v2, mG, (I6 y8), (I6 y9)] rfl o8 rfl rfl rfl rfl (h.dD 10 rfl).one fun w h zQ => ?_)))))
 replace jZ := aI.step jZ zQ (fun _ hx _ => .inr (hx))
 refine az (aQ jZ (fB (by kernel_rfl) (ak (nG (aa (ae (v := (.bool (true))) rfl) (nR (bQ (v := (.bool (true))) Tryz.results89 rfl ?_)))))))
 replace h := h.rQ 8 9 12 ({ uf with regs := (uf.regs.set (a.a).toNat (⟨2, (y7.length : Int)⟩ : Val)) }) rfl rfl rfl (by decide) (by decide) (by decide) (aH e13).2 e18 rfl
 replace h := h.pair 1 8 (by decide)
 replace h := h.pair 1 9 (by decide)
 replace h := h.pair 1 10 (by decide)
 replace h := h.pair 1 11 (by decide)
 obtain rfl := fJ hs
 subst Bo
 obtain ⟨o1, o2, o3⟩ := h.q8 1 (C := (cT sb v2 mG (y8) (y9) (y4.set (((y4.length : Int) - 1)).toNat ({ uf with regs := (uf.regs.set (a.a).toNat (⟨2, (y7.length : Int)⟩ : Val)) })) UB (y7 ++ [(List.replicate a.b.toNat (⟨0, 0⟩ : Val))]) sO)) rfl ⟨⟨⟨⟨trivial, trivial⟩, trivial⟩, trivial⟩, trivial⟩
 exact ⟨o2, v2, mG, UB, sO, rfl, o1, o3⟩
 have sM : (Value.oneCell' jM) = true := (h.dD 97 rfl).one
 refine Bg (R := (ed Val).raw) (vs := [jM]) (xs := List.zip [(List.replicate a.b.toNat (⟨0, 0⟩ : Val))] [jM]) h 109 rE rfl rfl rfl ⟨⟨je sM, sM⟩, trivial⟩ rfl fun w Cb h zM zN => ?_
 have KY : ∀ b, ob Cb b → MQ.heap.size ≤ b := fun b hb => Nat.le_trans jZ.size (zN b hb)
 replace jZ := jZ.grow zM
 replace h := h.yz (N := (ed Val)) 97 (List.replicate a.b.toNat (⟨0, 0⟩ : Val)) rfl rfl
 refine az (aQ jZ (bF 4 (by kernel_rfl) rfl aj (aa (aB h 1 rfl o8 rfl rfl) (az (aQ jZ (bF 9 (by kernel_rfl) rfl aj ?_))))))
 have qD := h.iM 11 rfl
 have sN := h.iM 97 rfl
 have KZ := jZ.size
 refine mU (R := (ed Val).raw) (m := List.zip [(List.replicate a.b.toNat (⟨0, 0⟩ : Val))] [jM]) h 10 rfl (h.dV 109 rfl) rE rfl rfl rfl (by rw [dR qD, dR sN]; exact zL.1) (by rw [dR qD, dR sN]; exact zL.2) fun w mG h zO zP => ?_
 have K3 : ∀ b, ob mG b → b < MQ.heap.size → ob v5 b := fun b hb hl => zP b hb (Nat.lt_of_lt_of_le hl (jZ).size)
 replace jZ := aI.step jZ zO (fun _ hx _ => .inl (hx))
 replace h := (h.yw 11 97 rfl rfl (by decide)).fC 109
 rw [yx qD, ← List.map_append] at h
 obtain ⟨sO, xO⟩ : ∃ z, z = Nb ++ [jM] := ⟨_, rfl⟩
 rw [← xO] at h
 refine az (aQ jZ (cO 10 jZ rfl (by kernel_rfl) (fun w hk => bL rfl) (cO 11 jZ rfl (by kernel_rfl) (fun w hk => ah jW rfl) (bF 12 (by kernel_rfl) rfl aj (rX h 1 [v2, mG, (I6 y8), (I6 y9)] rfl o8 rfl rfl rfl rfl (h.dD 10 rfl).one fun w h zQ => ?_)))))
 replace jZ := aI.step jZ zQ (fun _ hx _ => .inr (hx))
 refine az (aQ jZ (fB (by kernel_rfl) (ak (nG (aa (ae (v := (.bool (true))) rfl) (nR (bQ (v := (.bool (true))) Tryz.results89 rfl ?_)))))))
 replace h := h.rQ 8 9 12 ({ uf with regs := (uf.regs.set (a.a).toNat (⟨2, (y7.length : Int)⟩ : Val)) }) rfl rfl rfl (by decide) (by decide) (by decide) (aH e13).2 e18 rfl
 replace h := h.pair 1 8 (by decide)
 replace h := h.pair 1 9 (by decide)
 replace h := h.pair 1 10 (by decide)
 replace h := h.pair 1 11 (by decide)
 obtain rfl := fJ hs
 subst Bo
 obtain ⟨o1, o2, o3⟩ := h.q8 1 (C := (cT sb v2 mG (y8) (y9) (y4.set (((y4.length : Int) - 1)).toNat ({ uf with regs := (uf.regs.set (a.a).toNat (⟨2, (y7.length : Int)⟩ : Val)) })) UB (y7 ++ [(List.replicate a.b.toNat (⟨0, 0⟩ : Val))]) sO)) rfl ⟨⟨⟨⟨trivial, trivial⟩, trivial⟩, trivial⟩, trivial⟩
 exact ⟨o2, v2, mG, UB, sO, rfl, o1, o3⟩
 refine nG (aa (ag (v := (.pointer (some ⟨sb, 0, none⟩))) rfl) (aa (bL rfl) (aa (ah jW rfl) (aa (aB h 1 rfl o8 rfl rfl) (aa (qZ (N := (ed Val)) eX rfl (h.dV 4 rfl) (h.iM 5 rfl)) (aa (bz rfl rfl) (nN (aG hs rfl (fun NG hs => ?_) (fun NG hs => ?_)))))))))
 refine aC (aa (ag (v := (.pointer (some ⟨sb, 0, none⟩))) rfl) (aa (ag (v := (.pointer (some ⟨sb, 0, none⟩))) rfl) (aa (bL rfl) (aa (cK (vs := [jq, vs1, (I6 sx.status), (I6 sx.aK)]) h 1 rfl bE rfl rfl rfl) ?_))))
 obtain ⟨y39, e40, hs⟩ := aJ hs
 refine aS Dw rfl rfl (r9 N _ BE (fun _ h => h.elim) sx jq vs1 (h.rf (N := bR) (R' := dB) 2 3 rfl rfl (by decide) rfl j4) (h.rf (N := (ed Val)) (R' := (mP bM)) 4 5 rfl rfl (by decide) rfl p9) _ e40) ?_
 rintro _ w ⟨k47, u41, u43, Yx, us44, rfl, h45, h46⟩
 refine ⟨_, rfl, ?_⟩
 replace h := h.Zi 181 (C := (cU u41 u43 y39.frames Yx y39.cells us44)) k47 ⟨⟨⟨trivial, trivial⟩, trivial⟩, trivial⟩ ⟨⟨⟨(fun _ _ _ _ _ h => h), (CF (fun _ _ _ _ _ h => h))⟩, (fun _ _ _ _ _ h => h)⟩, (CF (fun _ _ _ _ _ h => h))⟩ h45 h46
 replace h := h.bG 181 184 (by decide) rfl rfl
 replace h := h.bG 181 183 (by decide) rfl rfl
 replace h := h.bG 181 182 (by decide) rfl rfl
 refine aa (bL rfl) (dm (vs := [u41, u43, (I6 y39.status), (I6 y39.aK)]) h 1 [u41, u43, (I6 y39.status), (I6 y39.aK)] rfl bE rfl rfl rfl rfl rfl (ai (h.dD 181 rfl).one (ai (h.dD 183 rfl).one (ai rfl (ai rfl aR)))) fun w h => az (au ?_))
 replace h := (h.fC 8).moveC 181 8 rfl rfl (by decide)
 replace h := (h.fC 9).moveC 182 9 rfl rfl (by decide)
 replace h := (h.fC 10).moveC 183 10 rfl rfl (by decide)
 replace h := (h.fC 11).moveC 184 11 rfl rfl (by decide)
 exact bP (u41, Yx, y39.frames, u43, us44, y39.cells, y39.status, y39.aK) ⟨h.cn _, hs⟩
 refine aF (au ?_)
 replace h := (h.fC 8).moveC 2 8 rfl rfl (by decide)
 replace h := (h.fC 9).moveC 3 9 rfl rfl (by decide)
 replace h := (h.fC 10).moveC 4 10 rfl rfl (by decide)
 replace h := (h.fC 11).moveC 5 11 rfl rfl (by decide)
 exact bP (jq, jU, sx.frames, vs1, jG, sx.cells, sx.status, sx.aK) ⟨h.cn _, hs⟩
def uW (sx : LX.State) (i11 : Int) (uf : Int) (y9 : List Val) (nx14 : List Val → Option (Bool × LX.State)) : Option (Bool × LX.State) :=
  gL (jN ((sx.frames.length : Int) - 1)) ((idx sx.frames ((sx.frames.length : Int) - 1)).bind fun yF => (idx yF.regs uf).bind fun zy => (idx y9 i11).bind fun x41 => nx14 (y9.set (i11).toNat zy))
def uX (sx : LX.State) (b : Ins) (a : List bN) (y9 : List Val) : Option (Bool × LX.State) :=
  gL (Room 48 sx.frames [(⟨b.b, 0, y9, b.a⟩ : LX.Frame)]) (some (true, (⟨(sx.frames ++ [(⟨b.b, 0, y9, b.a⟩ : LX.Frame)]), sx.cells, sx.status, sx.aK⟩ : LX.State)))
def I9 (sx : LX.State) (i62 : Int) (qp : Int) (uM : List Val) (Mt : List Val → Option (Bool × LX.State)) : Option (Bool × LX.State) :=
  gL (jN ((sx.frames.length : Int) - 1)) ((idx sx.frames ((sx.frames.length : Int) - 1)).bind fun x74 => (idx x74.regs qp).bind fun x84 => (idx uM i62).bind fun x92 => Mt (uM.set (i62).toNat x84))
def Ja (sx : LX.State) (b : Ins) (a : List bN) (uM : List Val) : Option (Bool × LX.State) :=
  gL (Room 48 sx.frames [(⟨b.b, 0, uM, b.a⟩ : LX.Frame)]) (some (true, (⟨(sx.frames ++ [(⟨b.b, 0, uM, b.a⟩ : LX.Frame)]), sx.cells, sx.status, sx.aK⟩ : LX.State)))
def MR (sx : LX.State) (a : List bN) (b : Ins) : Option (Bool × LX.State) :=
  bif decide (((sx.frames.length : Int) : Int) = 10) then some (false, sx) else (idx a b.b).bind fun CV => gL (0 ≤ CV.regs ∧ CV.regs * 16 ≤ 140737488355328) (eO (uW sx) (uX sx b a) 0 b.args (List.replicate CV.regs.toNat (⟨0, 0⟩ : Val)))
theorem K4 (w0 : World) (M : BS) (hM : ∀ b, M b → b < w0.heap.size) (sb : Nat) (sx : LX.State) (jq vs1 : Value) (jU jG : List Value) (hC : Chunk.holds w0 M (Chunk.own' (cT sb jq vs1 (sx.status) (sx.aK) sx.frames jU sx.cells jG)) (cT sb jq vs1 (sx.status) (sx.aK) sx.frames jU sx.cells jG)) (hap : ∀ b, Chunk.own' (cT sb jq vs1 (sx.status) (sx.aK) sx.frames jU sx.cells jG) b → ¬ M b) (va : Value) (a : List bN) (ha : fu jF w0 (fun b => M b ∨ (cT sb jq vs1 (sx.status) (sx.aK) sx.frames jU sx.cells jG).own' b) va a) (b : Ins) (vb4 : Value) (hb4 : fu dU w0 (fun b => M b ∨ (cT sb jq vs1 (sx.status) (sx.aK) sx.frames jU sx.cells jG).own' b) vb4 b.args) (r : Bool × LX.State) (hs : MR sx a b = some r) :
    Calls Tryz.prog 90 #[va, (.pointer (some ⟨sb, 0, none⟩)), (.agg #[(I6 b.op), (I6 b.a), (I6 b.b), (I6 b.c), vb4])] w0 (fun e w' => aI (Chunk.own' (cT sb jq vs1 (sx.status) (sx.aK) sx.frames jU sx.cells jG)) w0 w' ∧ ∃ MK, ∃ ML, ∃ MM, ∃ MN, e = .returned (.bool r.1) ∧ Chunk.holds w' M (Chunk.own' (cT sb MK ML r.2.status r.2.aK r.2.frames MM r.2.cells MN)) (cT sb MK ML r.2.status r.2.aK r.2.frames MM r.2.cells MN) ∧ (∀ b, Chunk.own' (cT sb MK ML r.2.status r.2.aK r.2.frames MM r.2.cells MN) b → b < w0.heap.size → Chunk.own' (cT sb jq vs1 (sx.status) (sx.aK) sx.frames jU sx.cells jG) b)) := by
 refine aN (args := [va, (.pointer (some ⟨sb, 0, none⟩)), (.agg #[(I6 b.op), (I6 b.a), (I6 b.b), (I6 b.c), vb4])]) Tryz.func90 rfl Tryz.ntmps90 (bD rfl) ?_
 have h := SH.GA hM hC hap
 replace h := h.Du 6 ha Bl
 replace h := h.Du 7 hb4 (tO Bl)
 generalize Bo : (cT sb jq vs1 (sx.status) (sx.aK) sx.frames jU sx.cells jG).own' = K0 at h
 replace h := h.bG 1 5 (by decide) rfl rfl
 replace h := h.bG 1 4 (by decide) rfl rfl
 replace h := h.bG 1 3 (by decide) rfl rfl
 replace h := h.bG 1 2 (by decide) rfl rfl
 have vR := ha.bV
 refine nG (oW (cs := [(I6 b.op), (I6 b.a), (I6 b.b), (I6 b.c), vb4]) h 8 rfl rfl fun w b1 h => aa (ae (v := (.bool (false))) rfl) (nK (aa (ag (v := (.pointer (some ⟨sb, 0, none⟩))) rfl) (aa (bL rfl) (aa (ah eH rfl) (aa (aB h 1 rfl jd rfl rfl) (aa (qZ (N := bR) dA rfl (h.dV 2 rfl) (h.iM 3 rfl)) (aa (bz rfl rfl) (nN (aG hs rfl (fun c2 hs => ?_) (fun c2 hs => ?_)))))))))))
 refine nG (aa (ae (v := (.bool (false))) rfl) (nR (ay (bQ (v := (.bool (false))) Tryz.results90 rfl ?_))))
 replace h := h.pair 1 2 (by decide)
 replace h := h.pair 1 3 (by decide)
 replace h := h.pair 1 4 (by decide)
 replace h := h.pair 1 5 (by decide)
 obtain rfl := fJ hs
 subst Bo
 obtain ⟨o1, o2, o3⟩ := h.q8 1 (C := (cT sb jq vs1 (sx.status) (sx.aK) sx.frames jU sx.cells jG)) rfl ⟨⟨⟨⟨trivial, trivial⟩, trivial⟩, trivial⟩, trivial⟩
 exact ⟨o2, jq, vs1, jU, jG, rfl, o1, o3⟩
 refine aF (ak (aP (Ap mixed h fun w h => eP 0 (aI.refl BE _) rfl aj (by kernel_rfl) (by kernel_rfl) (by kernel_rfl) (fun w hk => ah iR rfl) (eP 1 (aI.refl BE _) rfl aj (by kernel_rfl) (by kernel_rfl) (by kernel_rfl) (fun w hk => have h := h.grow hk; aB h 8 rfl aW rfl rfl) (eP 2 (aI.refl BE _) rfl aj (by kernel_rfl) (by kernel_rfl) (by kernel_rfl) (fun w hk => ag (v := va) rfl) (eP 3 (aI.refl BE _) rfl aj (by kernel_rfl) (by kernel_rfl) (by kernel_rfl) (fun w hk => ah iR rfl) (eP 4 (aI.refl BE _) rfl aj (by kernel_rfl) (by kernel_rfl) (by kernel_rfl) (fun w hk => have h := h.grow hk; aB h 8 rfl aW rfl rfl) ?_)))))))
 obtain ⟨CV, RJ, hs⟩ := aJ hs
 obtain ⟨bq3x5_4, oq3x5_5, csq3x5_6, h, YB, YC⟩ := h.Fj 6 69 rfl jP rfl (aH RJ).1 (aH RJ).2
 obtain ⟨uq3x5_8, rfl, YD⟩ := om YB
 replace h := h.bX 70 YD.up
 refine eP 5 (aI.refl BE _) rfl aj (by kernel_rfl) (by kernel_rfl) (by kernel_rfl) (fun w hk => YC _ _ _ _ _ _ _ _ _ rfl rfl) (eP 6 (aI.refl BE _) rfl aj (by kernel_rfl) (by kernel_rfl) (by kernel_rfl) (fun w hk => ah Ay rfl) (eP 7 (aI.refl BE _) rfl aj (by kernel_rfl) (by kernel_rfl) (by kernel_rfl) (fun w hk => have h := h.grow hk; dZ (k := 1) h 69 rfl aW rfl rfl) (eP 9 (aI.refl BE _) rfl aj (by kernel_rfl) (by kernel_rfl) (by kernel_rfl) (fun w hk => ah kE rfl) (eP 10 (aI.refl BE _) rfl aj (by kernel_rfl) (by kernel_rfl) (by kernel_rfl) (fun w hk => have h := h.grow hk; aB h 8 rfl aW rfl rfl) ?_))))
 obtain ⟨RL, hs⟩ := bg hs
 obtain ⟨ws4, ws4e⟩ : ∃ x, x = w := ⟨_, rfl⟩
 have hg5 : Grow ws4 w := ws4e ▸ aI.refl BE w
 refine En ws4e.symm (Rl 8 12 (by kernel_rfl) rfl aj rfl aj ?_ ?_)
 refine zl (R := bM) (zs := [(I6 0), (I6 0)]) (a := (⟨0, 0⟩ : Val)) h 105 vM bT rfl (by decide) rfl rfl RL rfl (fun _ _ => rfl) fun w dY h Jb Jc => ?_
 have Wz : ∀ b, ob dY b → ws4.heap.size ≤ b := fun b hb => Nat.le_trans hg5.size (Jc b hb)
 replace hg5 := hg5.trans Jb
 refine az (iF hg5 (pJ 11 hg5 rfl (by kernel_rfl) (fun w hk => dQ (pv := [(0, (I6 b.b)), (2, dY), (3, (I6 b.a))]) (out := [(I6 b.b), (I6 0), dY, (I6 b.a)]) IC rfl ⟨0, 1, [(I6 b.b)], rfl, rfl, rfl, bD rfl, ⟨2, 1, [dY], rfl, (je (h.dD 105 rfl).one), rfl, bD rfl, ⟨3, 1, [(I6 b.a)], rfl, rfl, rfl, bD rfl, rfl⟩⟩⟩) (kM 12 (by kernel_rfl) rfl aj (uS h 153 jh fun w Cc h FV FW => ?_))))
 have FX : ws4.heap.size ≤ Cc := Nat.le_trans hg5.size FW
 replace hg5 := hg5.trans FV
 refine az (iF hg5 (kM 13 (by kernel_rfl) rfl aj (qY (vs := [(I6 b.b), (I6 0), dY, (I6 b.a)]) h 153 [(I6 b.b), (I6 0), dY, (I6 b.a)] rfl jh rfl rfl rfl rfl rfl (ai rfl (ai rfl (ai (h.dD 105 rfl).one (ai rfl aR)))) fun w h Jd => ?_)))
 replace hg5 := hg5.fresh Jd (fun x hx => hx ▸ FX)
 refine az (iF hg5 (qH (by kernel_rfl) (ak (aP (nG (aa (ah xe rfl) (aa (aB h 8 rfl vP rfl rfl) (aa (bS bY rfl (h.mM 7 rfl)) (aa (ag (v := (I6 0)) rfl) (nN (aO (gF (σ := Nat × Int × List Val) (inl ([8, 9] ++ rg 31 26)) (fun ⟨k10, i11, y9⟩ => [(31, (I6 i11))]) (fun ⟨k10, i11, y9⟩ w => SH w0 M K0 w (hset [(1, .blk sb [jq, vs1, (I6 sx.status), (I6 sx.aK)]), (2, .own bR.raw 49 jq (List.zip sx.frames jU)), (3, .gZ (dC bM 51 hn jU (List.map bR.sub sx.frames))), (4, .own (ed Val).raw 47 vs1 (List.zip sx.cells jG)), (5, .gZ (dC bM 51 hn jG (List.map (ed Val).sub sx.cells))), (7, .rd dU vb4 b.args), (105, .own bM 51 dY y9), (153, .blk Cc [(I6 b.b), (I6 0), dY, (I6 b.a)])]) ∧ i11 = (k10 : Int) ∧ eO (uW sx) (uX sx b a) i11 (b.args.drop k10) y9 = some r) (fun ⟨k10, i11, y9⟩ => b.args.length - k10) ⟨0, 0, (List.replicate CV.regs.toNat (⟨0, 0⟩ : Val))⟩ ⟨rfl, trivial⟩ ?_ ?_))))))))))))
 exact ⟨h.cn _, rfl, hs⟩
 rintro ⟨k10, i11, y9⟩ w dx ⟨h, hik, hs⟩
 refine nG ?_
 refine aa (dP rfl rfl) (nN ?_)
 refine aP (iE rfl (fun e15 => ?_) (fun e15 => ?_))
 refine aF (ak ?_)
 obtain ⟨uf, e16a, e16b⟩ := fV (hik ▸ e15)
 rw [e16b, iT] at hs
 generalize hnx14 : eO (uW sx) (uX sx b a) (i11 + 1) (b.args.drop (k10 + 1)) = nx14 at hs
 have e16r := gp ((h.mM 7 rfl)).bV hik e15
 refine aP (aO (nG (aa (ag (v := (I6 i11)) rfl) ?_)))
 obtain ⟨b18, o19, cs20, h, r21, i17⟩ := h.Fj 7 189 rfl bY rfl (iO hik) (gm hik e16a)
 obtain rfl := r21
 refine aa (i17 _ _ _ _ _ _ _ _ _ rfl rfl) (aa (dZ (k := 0) h 189 rfl aW rfl rfl) (aa (ae (v := (I6 i11)) rfl) (aa (ae (v := (I6 uf)) rfl) (nN (rP 20 mixed (by kernel_rfl) h fun w h => aM (ah mV rfl) (aM (aB h 153 rfl nA rfl rfl) (aM (ag (v := (I6 i11)) rfl) (aM (ag (v := (.pointer (some ⟨sb, 0, none⟩))) rfl) (aM (bL rfl) (aM (ah eH rfl) (aM (aB h 1 rfl jd rfl rfl) (aM (ag (v := (.pointer (some ⟨sb, 0, none⟩))) rfl) (aM (bL rfl) (aM (ah eH rfl) (aM (aB h 1 rfl jd rfl rfl) (aM (qZ (N := bR) dA rfl (h.dV 2 rfl) (h.iM 3 rfl)) ?_))))))))))))))))
 obtain ⟨a22, hs⟩ := bg hs
 refine aM (mZ rfl rfl a22) ?_
 obtain ⟨yF, e24, hs⟩ := aJ hs
 obtain ⟨u28, e29, h⟩ := h.rT 3 190 yF.regs rfl rfl (by decide) (aH e24).2 rfl
 obtain ⟨b26, q27, i25⟩ := h.xy 2 rfl dA rfl (aH e24).1 (fE (aH e24).2 e29)
 refine aM (i25 _ _ _ _ _ _ _ _ _ rfl rfl) (aM (ah mV rfl) ?_)
 obtain ⟨cs30, m31, r32⟩ := h.Af 2 rfl q27 (fE (aH e24).2 e29)
 obtain ⟨rfl, -⟩ := r32
 refine aM (pY (k := 2) m31 nA rfl rfl) (aM (ag (v := (I6 uf)) rfl) ?_)
 obtain ⟨zy, e34, hs⟩ := aJ hs
 obtain ⟨b36, q37, i35⟩ := h.xy 190 rfl bO rfl (aH e34).1 (aH e34).2
 refine aM (i35 _ _ _ _ _ _ _ _ _ rfl rfl) ?_
 obtain ⟨cs38, m39, r40⟩ := h.Af 190 rfl q37 (aH e34).2
 obtain rfl := r40
 refine aM (pI (k := 0) (vs := [(I6 zy.kind), (I6 zy.n)]) m39 bT rfl rfl rfl (bD rfl)) ?_
 obtain ⟨x41, e42, hs⟩ := aJ hs
 obtain ⟨Tq, q45, i43⟩ := h.xy 105 rfl bO rfl (aH e42).1 (aH e42).2
 refine aM (i43 _ _ _ _ _ _ _ _ _ rfl rfl) (Be (yM (a' := zy) (vs := [(I6 zy.kind), (I6 zy.n)]) h 105 rfl q45 rfl (aH e42).2 bT rfl rfl rfl rfl rfl fun w h k46 => az (ax (ak (aC (aa (dw rfl rfl e16r) (aa (ag (v := (I6 ((i11 + 1)))) rfl) (az ?_))))))))
 replace h := h.iY 3 190 rfl rfl (by decide) (aH e24).2 e29 rfl
 refine au ?_
 subst hnx14
 exact jV ⟨k10 + 1, i11 + 1, (y9.set (i11).toNat zy)⟩ ⟨h.cn _, by omega, hs⟩ (by have := rq e15; dsimp only; omega)
 rw [fZ (hik ▸ e15), ni] at hs
 refine gV (bA (bA (dE (ak (aP (ky (L := (fun b => ob jq b ∨ b = sb)) mixed h fun w h => bB 0 (aI.refl _ _) rfl aj (by kernel_rfl) (by kernel_rfl) (by kernel_rfl) (fun w hk => ag (v := (.pointer (some ⟨sb, 0, none⟩))) rfl) (bB 1 (aI.refl _ _) rfl aj (by kernel_rfl) (by kernel_rfl) (by kernel_rfl) (fun w hk => ag (v := (.pointer (some ⟨sb, 0, none⟩))) rfl) (bB 2 (aI.refl _ _) rfl aj (by kernel_rfl) (by kernel_rfl) (by kernel_rfl) (fun w hk => bL rfl) (bB 3 (aI.refl _ _) rfl aj (by kernel_rfl) (by kernel_rfl) (by kernel_rfl) (fun w hk => ah eH rfl) (bB 5 (aI.refl _ _) rfl aj (by kernel_rfl) (by kernel_rfl) (by kernel_rfl) (fun w hk => have h := h.BH 2 1 (by decide) rfl rfl hk; cK (vs := [(I6 b.b), (I6 0), dY, (I6 b.a)]) h 153 rfl jh rfl rfl rfl) ?_))))))))))
 obtain ⟨EK, hs⟩ := bg hs
 obtain ⟨WA, Zx⟩ : ∃ x, x = w := ⟨_, rfl⟩
 have tF : aI (fun b => ob jq b ∨ b = sb) WA w := Zx ▸ aI.refl (fun b => ob jq b ∨ b = sb) w
 refine qX Zx.symm (oZ 4 6 (by kernel_rfl) rfl aj rfl aj ?_ ?_)
 refine aa (aB h 1 rfl jd rfl rfl) (az (aQ tF (bF 6 (by kernel_rfl) rfl aj ?_)))
 have FY : (Value.oneCell' dY) = true := (h.dD 105 rfl).one
 refine Bg (R := bR.raw) (vs := [(.agg #[(I6 b.b), (I6 0), dY, (I6 b.a)])]) (xs := List.zip [(⟨b.b, 0, y9, b.a⟩ : LX.Frame)] [dY]) h 263 qg rfl rfl rfl ⟨⟨rfl, FY⟩, trivial⟩ rfl fun w Je h FZ F3 => ?_
 have Tv : ∀ b, ob Je b → WA.heap.size ≤ b := fun b hb => Nat.le_trans tF.size (F3 b hb)
 replace tF := tF.grow FZ
 replace h := h.yz (N := bR) 105 (⟨b.b, 0, y9, b.a⟩ : LX.Frame) rfl rfl
 refine az (aQ tF (bF 7 (by kernel_rfl) rfl aj ?_))
 have xP := h.iM 3 rfl
 have zR := h.iM 105 rfl
 have Tw := tF.size
 refine mU (R := bR.raw) (m := List.zip [(⟨b.b, 0, y9, b.a⟩ : LX.Frame)] [dY]) h 2 rfl (h.dV 263 rfl) qg rfl rfl rfl (by rw [dR xP, dR zR]; exact EK.1) (by rw [dR xP, dR zR]; exact EK.2) fun w uD h F4 F5 => ?_
 have Tx : ∀ b, ob uD b → b < WA.heap.size → ob jq b := fun b hb hl => F5 b hb (Nat.lt_of_lt_of_le hl (tF).size)
 replace tF := aI.step tF F4 (fun _ hx _ => .inl (hx))
 replace h := (h.yw 3 105 rfl rfl (by decide)).fC 263
 rw [yx xP, ← List.map_append] at h
 obtain ⟨zS, DX⟩ : ∃ z, z = jU ++ [dY] := ⟨_, rfl⟩
 rw [← DX] at h
 refine az (aQ tF (cO 8 tF rfl (by kernel_rfl) (fun w hk => bL rfl) (cO 9 tF rfl (by kernel_rfl) (fun w hk => ah eH rfl) (bF 10 (by kernel_rfl) rfl aj (rX h 1 [uD, vs1, (I6 sx.status), (I6 sx.aK)] rfl jd rfl rfl rfl rfl (h.dD 2 rfl).one fun w h F6 => ?_)))))
 replace tF := aI.step tF F6 (fun _ hx _ => .inr (hx))
 refine az (aQ tF (fB (by kernel_rfl) (ak (nG (aa (ae (v := (.bool (true))) rfl) (nR (bQ (v := (.bool (true))) Tryz.results90 rfl ?_)))))))
 replace h := h.pair 1 2 (by decide)
 replace h := h.pair 1 3 (by decide)
 replace h := h.pair 1 4 (by decide)
 replace h := h.pair 1 5 (by decide)
 obtain rfl := fJ hs
 subst Bo
 obtain ⟨o1, o2, o3⟩ := h.q8 1 (C := (cT sb uD vs1 (sx.status) (sx.aK) (sx.frames ++ [(⟨b.b, 0, y9, b.a⟩ : LX.Frame)]) zS sx.cells jG)) rfl ⟨⟨⟨⟨trivial, trivial⟩, trivial⟩, trivial⟩, trivial⟩
 exact ⟨o2, uD, vs1, zS, jG, rfl, o1, o3⟩
 have FY : (Value.oneCell' dY) = true := (h.dD 105 rfl).one
 refine Bg (R := bR.raw) (vs := [(.agg #[(I6 b.b), (I6 0), dY, (I6 b.a)])]) (xs := List.zip [(⟨b.b, 0, y9, b.a⟩ : LX.Frame)] [dY]) h 263 qg rfl rfl rfl ⟨⟨rfl, FY⟩, trivial⟩ rfl fun w Je h FZ F3 => ?_
 have Tv : ∀ b, ob Je b → WA.heap.size ≤ b := fun b hb => Nat.le_trans tF.size (F3 b hb)
 replace tF := tF.grow FZ
 replace h := h.yz (N := bR) 105 (⟨b.b, 0, y9, b.a⟩ : LX.Frame) rfl rfl
 refine az (aQ tF (bF 4 (by kernel_rfl) rfl aj (aa (aB h 1 rfl jd rfl rfl) (az (aQ tF (bF 7 (by kernel_rfl) rfl aj ?_))))))
 have xP := h.iM 3 rfl
 have zR := h.iM 105 rfl
 have Tw := tF.size
 refine mU (R := bR.raw) (m := List.zip [(⟨b.b, 0, y9, b.a⟩ : LX.Frame)] [dY]) h 2 rfl (h.dV 263 rfl) qg rfl rfl rfl (by rw [dR xP, dR zR]; exact EK.1) (by rw [dR xP, dR zR]; exact EK.2) fun w uD h F4 F5 => ?_
 have Tx : ∀ b, ob uD b → b < WA.heap.size → ob jq b := fun b hb hl => F5 b hb (Nat.lt_of_lt_of_le hl (tF).size)
 replace tF := aI.step tF F4 (fun _ hx _ => .inl (hx))
 replace h := (h.yw 3 105 rfl rfl (by decide)).fC 263
 rw [yx xP, ← List.map_append] at h
 obtain ⟨zS, DX⟩ : ∃ z, z = jU ++ [dY] := ⟨_, rfl⟩
 rw [← DX] at h
 refine az (aQ tF (cO 8 tF rfl (by kernel_rfl) (fun w hk => bL rfl) (cO 9 tF rfl (by kernel_rfl) (fun w hk => ah eH rfl) (bF 10 (by kernel_rfl) rfl aj (rX h 1 [uD, vs1, (I6 sx.status), (I6 sx.aK)] rfl jd rfl rfl rfl rfl (h.dD 2 rfl).one fun w h F6 => ?_)))))
 replace tF := aI.step tF F6 (fun _ hx _ => .inr (hx))
 refine az (aQ tF (fB (by kernel_rfl) (ak (nG (aa (ae (v := (.bool (true))) rfl) (nR (bQ (v := (.bool (true))) Tryz.results90 rfl ?_)))))))
 replace h := h.pair 1 2 (by decide)
 replace h := h.pair 1 3 (by decide)
 replace h := h.pair 1 4 (by decide)
 replace h := h.pair 1 5 (by decide)
 obtain rfl := fJ hs
 subst Bo
 obtain ⟨o1, o2, o3⟩ := h.q8 1 (C := (cT sb uD vs1 (sx.status) (sx.aK) (sx.frames ++ [(⟨b.b, 0, y9, b.a⟩ : LX.Frame)]) zS sx.cells jG)) rfl ⟨⟨⟨⟨trivial, trivial⟩, trivial⟩, trivial⟩, trivial⟩
 exact ⟨o2, uD, vs1, zS, jG, rfl, o1, o3⟩
 refine uS h 153 jh fun w Cc h FV FW => ?_
 have FX : ws4.heap.size ≤ Cc := Nat.le_trans hg5.size FW
 replace hg5 := hg5.trans FV
 refine az (iF hg5 (kM 8 (by kernel_rfl) rfl aj (zl (R := bM) (zs := [(I6 0), (I6 0)]) (a := (⟨0, 0⟩ : Val)) h 105 vM bT rfl (by decide) rfl rfl RL rfl (fun _ _ => rfl) fun w dY h Jb Jc => ?_)))
 have Wz : ∀ b, ob dY b → ws4.heap.size ≤ b := fun b hb => Nat.le_trans hg5.size (Jc b hb)
 replace hg5 := hg5.trans Jb
 refine az (iF hg5 (pJ 11 hg5 rfl (by kernel_rfl) (fun w hk => dQ (pv := [(0, (I6 b.b)), (2, dY), (3, (I6 b.a))]) (out := [(I6 b.b), (I6 0), dY, (I6 b.a)]) IC rfl ⟨0, 1, [(I6 b.b)], rfl, rfl, rfl, bD rfl, ⟨2, 1, [dY], rfl, (je (h.dD 105 rfl).one), rfl, bD rfl, ⟨3, 1, [(I6 b.a)], rfl, rfl, rfl, bD rfl, rfl⟩⟩⟩) (kM 13 (by kernel_rfl) rfl aj (qY (vs := [(I6 b.b), (I6 0), dY, (I6 b.a)]) h 153 [(I6 b.b), (I6 0), dY, (I6 b.a)] rfl jh rfl rfl rfl rfl rfl (ai rfl (ai rfl (ai (h.dD 105 rfl).one (ai rfl aR)))) fun w h Jd => ?_))))
 replace hg5 := hg5.fresh Jd (fun x hx => hx ▸ FX)
 refine az (iF hg5 (qH (by kernel_rfl) (ak (aP (nG (aa (ah xe rfl) (aa (aB h 8 rfl vP rfl rfl) (aa (bS bY rfl (h.mM 7 rfl)) (aa (ag (v := (I6 0)) rfl) (nN (aO (gF (σ := Nat × Int × List Val) (inl ([8, 9] ++ rg 31 26)) (fun ⟨YE, i62, uM⟩ => [(31, (I6 i62))]) (fun ⟨YE, i62, uM⟩ w => SH w0 M K0 w (hset [(1, .blk sb [jq, vs1, (I6 sx.status), (I6 sx.aK)]), (2, .own bR.raw 49 jq (List.zip sx.frames jU)), (3, .gZ (dC bM 51 hn jU (List.map bR.sub sx.frames))), (4, .own (ed Val).raw 47 vs1 (List.zip sx.cells jG)), (5, .gZ (dC bM 51 hn jG (List.map (ed Val).sub sx.cells))), (7, .rd dU vb4 b.args), (105, .own bM 51 dY uM), (153, .blk Cc [(I6 b.b), (I6 0), dY, (I6 b.a)])]) ∧ i62 = (YE : Int) ∧ eO (I9 sx) (Ja sx b a) i62 (b.args.drop YE) uM = some r) (fun ⟨YE, i62, uM⟩ => b.args.length - YE) ⟨0, 0, (List.replicate CV.regs.toNat (⟨0, 0⟩ : Val))⟩ ⟨rfl, trivial⟩ ?_ ?_))))))))))))
 exact ⟨h.cn _, rfl, hs⟩
 rintro ⟨YE, i62, uM⟩ w dx ⟨h, hik, hs⟩
 refine nG ?_
 refine aa (dP rfl rfl) (nN ?_)
 refine aP (iE rfl (fun e66 => ?_) (fun e66 => ?_))
 refine aF (ak ?_)
 obtain ⟨qp, e67a, e67b⟩ := fV (hik ▸ e66)
 rw [e67b, iT] at hs
 generalize VX : eO (I9 sx) (Ja sx b a) (i62 + 1) (b.args.drop (YE + 1)) = Mt at hs
 have e67r := gp ((h.mM 7 rfl)).bV hik e66
 refine aP (aO (nG (aa (ag (v := (I6 i62)) rfl) ?_)))
 obtain ⟨b69, o70, cs71, h, r72, i68⟩ := h.Fj 7 335 rfl bY rfl (iO hik) (gm hik e67a)
 obtain rfl := r72
 refine aa (i68 _ _ _ _ _ _ _ _ _ rfl rfl) (aa (dZ (k := 0) h 335 rfl aW rfl rfl) (aa (ae (v := (I6 i62)) rfl) (aa (ae (v := (I6 qp)) rfl) (nN (rP 20 mixed (by kernel_rfl) h fun w h => aM (ah mV rfl) (aM (aB h 153 rfl nA rfl rfl) (aM (ag (v := (I6 i62)) rfl) (aM (ag (v := (.pointer (some ⟨sb, 0, none⟩))) rfl) (aM (bL rfl) (aM (ah eH rfl) (aM (aB h 1 rfl jd rfl rfl) (aM (ag (v := (.pointer (some ⟨sb, 0, none⟩))) rfl) (aM (bL rfl) (aM (ah eH rfl) (aM (aB h 1 rfl jd rfl rfl) (aM (qZ (N := bR) dA rfl (h.dV 2 rfl) (h.iM 3 rfl)) ?_))))))))))))))))
 obtain ⟨a73, hs⟩ := bg hs
 refine aM (mZ rfl rfl a73) ?_
 obtain ⟨x74, e75, hs⟩ := aJ hs
 obtain ⟨u79, e80, h⟩ := h.rT 3 336 x74.regs rfl rfl (by decide) (aH e75).2 rfl
 obtain ⟨b77, q78, i76⟩ := h.xy 2 rfl dA rfl (aH e75).1 (fE (aH e75).2 e80)
 refine aM (i76 _ _ _ _ _ _ _ _ _ rfl rfl) (aM (ah mV rfl) ?_)
 obtain ⟨cs81, m82, r83⟩ := h.Af 2 rfl q78 (fE (aH e75).2 e80)
 obtain ⟨rfl, -⟩ := r83
 refine aM (pY (k := 2) m82 nA rfl rfl) (aM (ag (v := (I6 qp)) rfl) ?_)
 obtain ⟨x84, e85, hs⟩ := aJ hs
 obtain ⟨RG, q88, i86⟩ := h.xy 336 rfl bO rfl (aH e85).1 (aH e85).2
 refine aM (i86 _ _ _ _ _ _ _ _ _ rfl rfl) ?_
 obtain ⟨cs89, m90, r91⟩ := h.Af 336 rfl q88 (aH e85).2
 obtain rfl := r91
 refine aM (pI (k := 0) (vs := [(I6 x84.kind), (I6 x84.n)]) m90 bT rfl rfl rfl (bD rfl)) ?_
 obtain ⟨x92, e93, hs⟩ := aJ hs
 obtain ⟨b95, q96, i94⟩ := h.xy 105 rfl bO rfl (aH e93).1 (aH e93).2
 refine aM (i94 _ _ _ _ _ _ _ _ _ rfl rfl) (Be (yM (a' := x84) (vs := [(I6 x84.kind), (I6 x84.n)]) h 105 rfl q96 rfl (aH e93).2 bT rfl rfl rfl rfl rfl fun w h k97 => az (ax (ak (aC (aa (dw rfl rfl e67r) (aa (ag (v := (I6 ((i62 + 1)))) rfl) (az ?_))))))))
 replace h := h.iY 3 336 rfl rfl (by decide) (aH e75).2 e80 rfl
 refine au ?_
 subst VX
 exact jV ⟨YE + 1, i62 + 1, (uM.set (i62).toNat x84)⟩ ⟨h.cn _, by omega, hs⟩ (by have := rq e66; dsimp only; omega)
 rw [fZ (hik ▸ e66), ni] at hs
 refine gV (bA (bA (dE (ak (aP (ky (L := (fun b => ob jq b ∨ b = sb)) mixed h fun w h => bB 0 (aI.refl _ _) rfl aj (by kernel_rfl) (by kernel_rfl) (by kernel_rfl) (fun w hk => ag (v := (.pointer (some ⟨sb, 0, none⟩))) rfl) (bB 1 (aI.refl _ _) rfl aj (by kernel_rfl) (by kernel_rfl) (by kernel_rfl) (fun w hk => ag (v := (.pointer (some ⟨sb, 0, none⟩))) rfl) (bB 2 (aI.refl _ _) rfl aj (by kernel_rfl) (by kernel_rfl) (by kernel_rfl) (fun w hk => bL rfl) (bB 3 (aI.refl _ _) rfl aj (by kernel_rfl) (by kernel_rfl) (by kernel_rfl) (fun w hk => ah eH rfl) (bB 5 (aI.refl _ _) rfl aj (by kernel_rfl) (by kernel_rfl) (by kernel_rfl) (fun w hk => have h := h.BH 2 1 (by decide) rfl rfl hk; cK (vs := [(I6 b.b), (I6 0), dY, (I6 b.a)]) h 153 rfl jh rfl rfl rfl) ?_))))))))))
 obtain ⟨CW, hs⟩ := bg hs
 obtain ⟨Oi, WB⟩ : ∃ x, x = w := ⟨_, rfl⟩
 have lV : aI (fun b => ob jq b ∨ b = sb) Oi w := WB ▸ aI.refl (fun b => ob jq b ∨ b = sb) w
 refine qX WB.symm (oZ 4 6 (by kernel_rfl) rfl aj rfl aj ?_ ?_)
 refine aa (aB h 1 rfl jd rfl rfl) (az (aQ lV (bF 6 (by kernel_rfl) rfl aj ?_)))
 have DY : (Value.oneCell' dY) = true := (h.dD 105 rfl).one
 refine Bg (R := bR.raw) (vs := [(.agg #[(I6 b.b), (I6 0), dY, (I6 b.a)])]) (xs := List.zip [(⟨b.b, 0, uM, b.a⟩ : LX.Frame)] [dY]) h 409 qg rfl rfl rfl ⟨⟨rfl, DY⟩, trivial⟩ rfl fun w F7 h DZ D5 => ?_
 have Qm : ∀ b, ob F7 b → Oi.heap.size ≤ b := fun b hb => Nat.le_trans lV.size (D5 b hb)
 replace lV := lV.grow DZ
 replace h := h.yz (N := bR) 105 (⟨b.b, 0, uM, b.a⟩ : LX.Frame) rfl rfl
 refine az (aQ lV (bF 7 (by kernel_rfl) rfl aj ?_))
 have uY := h.iM 3 rfl
 have xQ := h.iM 105 rfl
 have Qn := lV.size
 refine mU (R := bR.raw) (m := List.zip [(⟨b.b, 0, uM, b.a⟩ : LX.Frame)] [dY]) h 2 rfl (h.dV 409 rfl) qg rfl rfl rfl (by rw [dR uY, dR xQ]; exact CW.1) (by rw [dR uY, dR xQ]; exact CW.2) fun w qQ h D6 D7 => ?_
 have Qo : ∀ b, ob qQ b → b < Oi.heap.size → ob jq b := fun b hb hl => D7 b hb (Nat.lt_of_lt_of_le hl (lV).size)
 replace lV := aI.step lV D6 (fun _ hx _ => .inl (hx))
 replace h := (h.yw 3 105 rfl rfl (by decide)).fC 409
 rw [yx uY, ← List.map_append] at h
 obtain ⟨xR, Ce⟩ : ∃ z, z = jU ++ [dY] := ⟨_, rfl⟩
 rw [← Ce] at h
 refine az (aQ lV (cO 8 lV rfl (by kernel_rfl) (fun w hk => bL rfl) (cO 9 lV rfl (by kernel_rfl) (fun w hk => ah eH rfl) (bF 10 (by kernel_rfl) rfl aj (rX h 1 [qQ, vs1, (I6 sx.status), (I6 sx.aK)] rfl jd rfl rfl rfl rfl (h.dD 2 rfl).one fun w h D8 => ?_)))))
 replace lV := aI.step lV D8 (fun _ hx _ => .inr (hx))
 refine az (aQ lV (fB (by kernel_rfl) (ak (nG (aa (ae (v := (.bool (true))) rfl) (nR (bQ (v := (.bool (true))) Tryz.results90 rfl ?_)))))))
 replace h := h.pair 1 2 (by decide)
 replace h := h.pair 1 3 (by decide)
 replace h := h.pair 1 4 (by decide)
 replace h := h.pair 1 5 (by decide)
 obtain rfl := fJ hs
 subst Bo
 obtain ⟨o1, o2, o3⟩ := h.q8 1 (C := (cT sb qQ vs1 (sx.status) (sx.aK) (sx.frames ++ [(⟨b.b, 0, uM, b.a⟩ : LX.Frame)]) xR sx.cells jG)) rfl ⟨⟨⟨⟨trivial, trivial⟩, trivial⟩, trivial⟩, trivial⟩
 exact ⟨o2, qQ, vs1, xR, jG, rfl, o1, o3⟩
 have DY : (Value.oneCell' dY) = true := (h.dD 105 rfl).one
 refine Bg (R := bR.raw) (vs := [(.agg #[(I6 b.b), (I6 0), dY, (I6 b.a)])]) (xs := List.zip [(⟨b.b, 0, uM, b.a⟩ : LX.Frame)] [dY]) h 409 qg rfl rfl rfl ⟨⟨rfl, DY⟩, trivial⟩ rfl fun w F7 h DZ D5 => ?_
 have Qm : ∀ b, ob F7 b → Oi.heap.size ≤ b := fun b hb => Nat.le_trans lV.size (D5 b hb)
 replace lV := lV.grow DZ
 replace h := h.yz (N := bR) 105 (⟨b.b, 0, uM, b.a⟩ : LX.Frame) rfl rfl
 refine az (aQ lV (bF 4 (by kernel_rfl) rfl aj (aa (aB h 1 rfl jd rfl rfl) (az (aQ lV (bF 7 (by kernel_rfl) rfl aj ?_))))))
 have uY := h.iM 3 rfl
 have xQ := h.iM 105 rfl
 have Qn := lV.size
 refine mU (R := bR.raw) (m := List.zip [(⟨b.b, 0, uM, b.a⟩ : LX.Frame)] [dY]) h 2 rfl (h.dV 409 rfl) qg rfl rfl rfl (by rw [dR uY, dR xQ]; exact CW.1) (by rw [dR uY, dR xQ]; exact CW.2) fun w qQ h D6 D7 => ?_
 have Qo : ∀ b, ob qQ b → b < Oi.heap.size → ob jq b := fun b hb hl => D7 b hb (Nat.lt_of_lt_of_le hl (lV).size)
 replace lV := aI.step lV D6 (fun _ hx _ => .inl (hx))
 replace h := (h.yw 3 105 rfl rfl (by decide)).fC 409
 rw [yx uY, ← List.map_append] at h
 obtain ⟨xR, Ce⟩ : ∃ z, z = jU ++ [dY] := ⟨_, rfl⟩
 rw [← Ce] at h
 refine az (aQ lV (cO 8 lV rfl (by kernel_rfl) (fun w hk => bL rfl) (cO 9 lV rfl (by kernel_rfl) (fun w hk => ah eH rfl) (bF 10 (by kernel_rfl) rfl aj (rX h 1 [qQ, vs1, (I6 sx.status), (I6 sx.aK)] rfl jd rfl rfl rfl rfl (h.dD 2 rfl).one fun w h D8 => ?_)))))
 replace lV := aI.step lV D8 (fun _ hx _ => .inr (hx))
 refine az (aQ lV (fB (by kernel_rfl) (ak (nG (aa (ae (v := (.bool (true))) rfl) (nR (bQ (v := (.bool (true))) Tryz.results90 rfl ?_)))))))
 replace h := h.pair 1 2 (by decide)
 replace h := h.pair 1 3 (by decide)
 replace h := h.pair 1 4 (by decide)
 replace h := h.pair 1 5 (by decide)
 obtain rfl := fJ hs
 subst Bo
 obtain ⟨o1, o2, o3⟩ := h.q8 1 (C := (cT sb qQ vs1 (sx.status) (sx.aK) (sx.frames ++ [(⟨b.b, 0, uM, b.a⟩ : LX.Frame)]) xR sx.cells jG)) rfl ⟨⟨⟨⟨trivial, trivial⟩, trivial⟩, trivial⟩, trivial⟩
 exact ⟨o2, qQ, vs1, xR, jG, rfl, o1, o3⟩
def MS (sx : LX.State) (a : Val) (b : Int) : Option LX.State :=
  gL (jN ((sx.frames.length : Int) - 1)) ((sub? sx.frames 0 ((sx.frames.length : Int) - 1)).bind fun x3 => bif decide ((((sx.frames.take (((sx.frames.length : Int) - 1)).toNat).length : Int) : Int) = 0) then some (⟨(sx.frames.take (((sx.frames.length : Int) - 1)).toNat), sx.cells, 1, sx.aK⟩ : LX.State) else gL (jN (((sx.frames.take (((sx.frames.length : Int) - 1)).toNat).length : Int) - 1)) ((idx (sx.frames.take (((sx.frames.length : Int) - 1)).toNat) (((sx.frames.take (((sx.frames.length : Int) - 1)).toNat).length : Int) - 1)).bind fun eu => (idx eu.regs b).bind fun DV => some (⟨((sx.frames.take (((sx.frames.length : Int) - 1)).toNat).set ((((sx.frames.take (((sx.frames.length : Int) - 1)).toNat).length : Int) - 1)).toNat ({ eu with regs := (eu.regs.set (b).toNat a) })), sx.cells, sx.status, sx.aK⟩ : LX.State)))
theorem Ty (w0 : World) (M : BS) (hM : ∀ b, M b → b < w0.heap.size) (sb : Nat) (sx : LX.State) (jq vs1 : Value) (jU jG : List Value) (hC : Chunk.holds w0 M (Chunk.own' (cT sb jq vs1 (sx.status) (sx.aK) sx.frames jU sx.cells jG)) (cT sb jq vs1 (sx.status) (sx.aK) sx.frames jU sx.cells jG)) (hap : ∀ b, Chunk.own' (cT sb jq vs1 (sx.status) (sx.aK) sx.frames jU sx.cells jG) b → ¬ M b) (a : Val) (b : Int) (r : LX.State) (hs : MS sx a b = some r) :
    Calls Tryz.prog 91 #[(.pointer (some ⟨sb, 0, none⟩)), (.agg #[(I6 a.kind), (I6 a.n)]), (I6 b)] w0 (fun e w' => aI (Chunk.own' (cT sb jq vs1 (sx.status) (sx.aK) sx.frames jU sx.cells jG)) w0 w' ∧ ∃ MK, ∃ ML, ∃ MM, ∃ MN, e = .returned (.tuple #[]) ∧ Chunk.holds w' M (Chunk.own' (cT sb MK ML r.status r.aK r.frames MM r.cells MN)) (cT sb MK ML r.status r.aK r.frames MM r.cells MN) ∧ (∀ b, Chunk.own' (cT sb MK ML r.status r.aK r.frames MM r.cells MN) b → b < w0.heap.size → Chunk.own' (cT sb jq vs1 (sx.status) (sx.aK) sx.frames jU sx.cells jG) b)) := by
 refine aN (args := [(.pointer (some ⟨sb, 0, none⟩)), (.agg #[(I6 a.kind), (I6 a.n)]), (I6 b)]) Tryz.func91 rfl Tryz.ntmps91 (bD rfl) ?_
 have h := SH.GA hM hC hap
 generalize Bo : (cT sb jq vs1 (sx.status) (sx.aK) sx.frames jU sx.cells jG).own' = K0 at h
 replace h := h.bG 1 5 (by decide) rfl rfl
 replace h := h.bG 1 4 (by decide) rfl rfl
 replace h := h.bG 1 3 (by decide) rfl rfl
 replace h := h.bG 1 2 (by decide) rfl rfl
 refine nG (oW (cs := [(I6 a.kind), (I6 a.n)]) h 6 rfl rfl fun w b1 h => nN (aP (rP 14 mixed (by kernel_rfl) h fun w h => aM (ag (v := (.pointer (some ⟨sb, 0, none⟩))) rfl) (aM (ag (v := (.pointer (some ⟨sb, 0, none⟩))) rfl) (aM (bL rfl) (aM (ah eH rfl) (aM (aB h 1 rfl jd rfl rfl) (aM (ag (v := (.pointer (some ⟨sb, 0, none⟩))) rfl) (aM (bL rfl) (aM (ah eH rfl) (aM (aB h 1 rfl jd rfl rfl) (aM (qZ (N := bR) dA rfl (h.dV 2 rfl) (h.iM 3 rfl)) ?_))))))))))))
 obtain ⟨a2, hs⟩ := bg hs
 refine aM (mZ rfl rfl a2) ?_
 obtain ⟨x3, e4, hs⟩ := aJ hs
 obtain ⟨e7, e7a, e7b, e7c⟩ := Ni e4
 have us8z := h.iM 3 rfl
 obtain ⟨u5, h, i6⟩ := h.cutO 2 rfl dA rfl e7b (by rw [dR us8z]; exact e7c)
 rw [Su] at h
 rw [dR us8z] at i6
 replace h := h.XW 3 (((sx.frames.length : Int) - 1)).toNat rfl
 generalize List.take (((sx.frames.length : Int) - 1)).toNat jU = us8 at h
 refine aM (i6 _ _ _ _ _ _ _ _ _ _ rfl (.inl ⟨rfl, rfl⟩) (.inr (congrArg some rfl))) (aM (bL rfl) (aM (ah eH rfl) (Be (fA h 1 [u5, vs1, (I6 sx.status), (I6 sx.aK)] rfl jd rfl rfl rfl rfl (h.dD 2 rfl).one fun w h => nK (aa (ag (v := (.pointer (some ⟨sb, 0, none⟩))) rfl) (aa (bL rfl) (aa (ah eH rfl) (aa (aB h 1 rfl jd rfl rfl) (aa (qZ (N := bR) dA rfl (h.dV 2 rfl) (h.iM 3 rfl)) (aa (bz rfl rfl) (nN (aG hs rfl (fun c9 hs => ?_) (fun c9 hs => ?_)))))))))))))
 refine nG (aa (ag (v := (.pointer (some ⟨sb, 0, none⟩))) rfl) (aa (bL rfl) (aa (ah lQ rfl) (fA h 1 [u5, vs1, (I6 1), (I6 sx.aK)] rfl aW rfl rfl rfl rfl rfl fun w h => nR (ay (fin0 Tryz.results91 ?_))))))
 replace h := h.pair 1 2 (by decide)
 replace h := h.pair 1 3 (by decide)
 replace h := h.pair 1 4 (by decide)
 replace h := h.pair 1 5 (by decide)
 obtain rfl := fJ hs
 subst Bo
 obtain ⟨o1, o2, o3⟩ := h.q8 1 (C := (cT sb u5 vs1 (1) (sx.aK) (sx.frames.take (((sx.frames.length : Int) - 1)).toNat) us8 sx.cells jG)) rfl ⟨⟨⟨⟨trivial, trivial⟩, trivial⟩, trivial⟩, trivial⟩
 exact ⟨o2, u5, vs1, us8, jG, rfl, o1, o3⟩
 refine aF (ak (rP 16 mixed (by kernel_rfl) h fun w h => aM (ag (v := (.pointer (some ⟨sb, 0, none⟩))) rfl) (aM (bL rfl) (aM (ah eH rfl) (aM (aB h 1 rfl jd rfl rfl) (aM (ag (v := (.pointer (some ⟨sb, 0, none⟩))) rfl) (aM (bL rfl) (aM (ah eH rfl) (aM (aB h 1 rfl jd rfl rfl) (aM (qZ (N := bR) dA rfl (h.dV 2 rfl) (h.iM 3 rfl)) ?_))))))))))
 obtain ⟨a10, hs⟩ := bg hs
 refine aM (mZ rfl rfl a10) ?_
 obtain ⟨eu, e12, hs⟩ := aJ hs
 obtain ⟨u16, e17, h⟩ := h.rT 3 8 eu.regs rfl rfl (by decide) (aH e12).2 rfl
 obtain ⟨b14, q15, i13⟩ := h.xy 2 rfl dA rfl (aH e12).1 (fE (aH e12).2 e17)
 refine aM (i13 _ _ _ _ _ _ _ _ _ rfl rfl) (aM (ah mV rfl) ?_)
 obtain ⟨cs18, m19, VQ⟩ := h.Af 2 rfl q15 (fE (aH e12).2 e17)
 obtain ⟨rfl, -⟩ := VQ
 refine aM (pY (k := 2) m19 nA rfl rfl) (aM (ag (v := (I6 b)) rfl) (aM (cK (vs := [(I6 a.kind), (I6 a.n)]) h 6 rfl bT rfl rfl rfl) ?_))
 obtain ⟨DV, e22, hs⟩ := aJ hs
 obtain ⟨b24, q25, i23⟩ := h.xy 8 rfl bO rfl (aH e22).1 (aH e22).2
 refine aM (i23 _ _ _ _ _ _ _ _ _ rfl rfl) (Be (yM (a' := a) (vs := [(I6 a.kind), (I6 a.n)]) h 8 rfl q25 rfl (aH e22).2 bT rfl rfl rfl rfl rfl fun w h k26 => az (KA Tryz.results91 ?_)))
 replace h := h.rQ 2 3 8 ({ eu with regs := (eu.regs.set (b).toNat a) }) rfl rfl rfl (by decide) (by decide) (by decide) (aH e12).2 e17 rfl
 replace h := h.pair 1 2 (by decide)
 replace h := h.pair 1 3 (by decide)
 replace h := h.pair 1 4 (by decide)
 replace h := h.pair 1 5 (by decide)
 obtain rfl := fJ hs
 subst Bo
 obtain ⟨o1, o2, o3⟩ := h.q8 1 (C := (cT sb u5 vs1 (sx.status) (sx.aK) ((sx.frames.take (((sx.frames.length : Int) - 1)).toNat).set ((((sx.frames.take (((sx.frames.length : Int) - 1)).toNat).length : Int) - 1)).toNat ({ eu with regs := (eu.regs.set (b).toNat a) })) us8 sx.cells jG)) rfl ⟨⟨⟨⟨trivial, trivial⟩, trivial⟩, trivial⟩, trivial⟩
 exact ⟨o2, u5, vs1, us8, jG, rfl, o1, o3⟩
def kv (y31 : Bool) (y34 : List LX.Frame) (Zy : List (List Val)) (y38 : Int) (y39 : Int) : Option (Dv × Bool × LX.State) :=
  some ((⟨false, 0, y31⟩ : Dv), true, (⟨y34, Zy, y38, y39⟩ : LX.State))
def A8 (sx : LX.State) (qp : Bool) (Kj : List LX.Frame) : Option (Dv × Bool × LX.State) :=
  some ((⟨false, 0, false⟩ : Dv), qp, (⟨Kj, sx.cells, sx.status, sx.aK⟩ : LX.State))
def iV (N : Nat) (sx : LX.State) (x3 : LX.Frame) (aY : bN) (aL : Ins) (a : List bN) (x73 : Bool) : Option (Dv × Bool × LX.State) :=
  bif x73 then (EI (⟨(sx.frames.set (((sx.frames.length : Int) - 1)).toNat ({ x3 with at_ := (min (x3.at_ + 1) ((aY.code.length : Int) - 1)) })), sx.cells, sx.status, sx.aK⟩ : LX.State) aL ((sx.frames.length : Int) - 1) ({ x3 with at_ := (min (x3.at_ + 1) ((aY.code.length : Int) - 1)) })).bind fun iB => some ((⟨false, 0, false⟩ : Dv), iB.1, iB.2) else bif decide ((aL.op : Int) = 5) then (I7 N (⟨(sx.frames.set (((sx.frames.length : Int) - 1)).toNat ({ x3 with at_ := (min (x3.at_ + 1) ((aY.code.length : Int) - 1)) })), sx.cells, sx.status, sx.aK⟩ : LX.State) aL).bind fun iC => some ((⟨false, 0, false⟩ : Dv), iC.1, iC.2) else bif decide ((aL.op : Int) = 7) then (MR (⟨(sx.frames.set (((sx.frames.length : Int) - 1)).toNat ({ x3 with at_ := (min (x3.at_ + 1) ((aY.code.length : Int) - 1)) })), sx.cells, sx.status, sx.aK⟩ : LX.State) a aL).bind fun fP => some ((⟨false, 0, false⟩ : Dv), fP.1, fP.2) else bif decide ((aL.op : Int) = 8) then (idx x3.regs aL.a).bind fun WE => (MS (⟨(sx.frames.set (((sx.frames.length : Int) - 1)).toNat ({ x3 with at_ := (min (x3.at_ + 1) ((aY.code.length : Int) - 1)) })), sx.cells, sx.status, sx.aK⟩ : LX.State) WE x3.mH).bind fun wM => kv false wM.frames wM.cells wM.status wM.aK else bif decide ((aL.op : Int) = 9) then (idx x3.regs aL.a).bind fun nQ => some ((⟨true, nQ.n, false⟩ : Dv), decide ((nQ.kind : Int) = 1), (⟨(sx.frames.set (((sx.frames.length : Int) - 1)).toNat ({ x3 with at_ := (min (x3.at_ + 1) ((aY.code.length : Int) - 1)) })), sx.cells, sx.status, sx.aK⟩ : LX.State)) else bif decide ((aL.op : Int) = 10) then kv true (sx.frames.set (((sx.frames.length : Int) - 1)).toNat ({ x3 with at_ := (min (x3.at_ + 1) ((aY.code.length : Int) - 1)) })) sx.cells sx.status sx.aK else bif decide ((aL.op : Int) = 11) then (idx x3.regs aL.a).bind fun WG => bif decide ((WG.kind : Int) ≠ 1) then some ((⟨false, 0, false⟩ : Dv), false, (⟨(sx.frames.set (((sx.frames.length : Int) - 1)).toNat ({ x3 with at_ := (min (x3.at_ + 1) ((aY.code.length : Int) - 1)) })), sx.cells, sx.status, sx.aK⟩ : LX.State)) else kv true (sx.frames.set (((sx.frames.length : Int) - 1)).toNat ({ x3 with at_ := (min (x3.at_ + 1) ((aY.code.length : Int) - 1)) })) sx.cells 3 WG.n else bif decide ((aL.op : Int) = 12) then kv false ((sx.frames.set (((sx.frames.length : Int) - 1)).toNat ({ x3 with at_ := (min (x3.at_ + 1) ((aY.code.length : Int) - 1)) })).set (((sx.frames.length : Int) - 1)).toNat ({ x3 with at_ := aL.b })) sx.cells sx.status sx.aK else bif decide ((aL.op : Int) = 13) then (idx x3.regs aL.a).bind fun D9 => bif (decide ((D9.kind : Int) = 0) || (decide ((D9.kind : Int) = 1) && decide ((D9.n : Int) = 0))) then kv false ((sx.frames.set (((sx.frames.length : Int) - 1)).toNat ({ x3 with at_ := (min (x3.at_ + 1) ((aY.code.length : Int) - 1)) })).set (((sx.frames.length : Int) - 1)).toNat ({ x3 with at_ := aL.b })) sx.cells sx.status sx.aK else kv false (sx.frames.set (((sx.frames.length : Int) - 1)).toNat ({ x3 with at_ := (min (x3.at_ + 1) ((aY.code.length : Int) - 1)) })) sx.cells sx.status sx.aK else kv false (sx.frames.set (((sx.frames.length : Int) - 1)).toNat ({ x3 with at_ := (min (x3.at_ + 1) ((aY.code.length : Int) - 1)) })) sx.cells sx.status sx.aK
def oN (N : Nat) (sx : LX.State) (a : List bN) : Option (Dv × Bool × LX.State) :=
  gL (jN ((sx.frames.length : Int) - 1)) ((idx sx.frames ((sx.frames.length : Int) - 1)).bind fun x3 => (idx a x3.proc).bind fun aY => (idx aY.code x3.at_).bind fun aL => gL (jN (x3.at_ + 1)) (gL (jN ((aY.code.length : Int) - 1)) (bif decide ((aL.op : Int) = 1) then (idx x3.regs aL.a).bind fun x41 => kv false ((sx.frames.set (((sx.frames.length : Int) - 1)).toNat ({ x3 with at_ := (min (x3.at_ + 1) ((aY.code.length : Int) - 1)) })).set (((sx.frames.length : Int) - 1)).toNat ({ x3 with at_ := (min (x3.at_ + 1) ((aY.code.length : Int) - 1)), regs := (x3.regs.set (aL.a).toNat (⟨1, aL.b⟩ : Val)) })) sx.cells sx.status sx.aK else bif decide ((aL.op : Int) = 2) then (idx x3.regs aL.b).bind fun Jf => (idx x3.regs aL.a).bind fun x56 => kv false ((sx.frames.set (((sx.frames.length : Int) - 1)).toNat ({ x3 with at_ := (min (x3.at_ + 1) ((aY.code.length : Int) - 1)) })).set (((sx.frames.length : Int) - 1)).toNat ({ x3 with at_ := (min (x3.at_ + 1) ((aY.code.length : Int) - 1)), regs := (x3.regs.set (aL.a).toNat Jf) })) sx.cells sx.status sx.aK else bif decide ((aL.op : Int) = 3) then (idx aL.args 0).bind fun EL => (idx x3.regs aL.b).bind fun sP => (idx x3.regs aL.c).bind fun sQ => (Oc EL sP sQ).bind fun fQ => (idx x3.regs aL.a).bind fun Tz => A8 sx fQ.2 ((sx.frames.set (((sx.frames.length : Int) - 1)).toNat ({ x3 with at_ := (min (x3.at_ + 1) ((aY.code.length : Int) - 1)) })).set (((sx.frames.length : Int) - 1)).toNat ({ x3 with at_ := (min (x3.at_ + 1) ((aY.code.length : Int) - 1)), regs := (x3.regs.set (aL.a).toNat fQ.1) })) else bif decide ((aL.op : Int) = 4) then iV N sx x3 aY aL a (decide ((aL.op : Int) = 4)) else iV N sx x3 aY aL a (decide ((aL.op : Int) = 6)))))
end
end Go.Proofs.YtfclkapelkhlpaaGreatDoor
