/-
  What the law VmKeeps needs of our own library and of the walks, no more.
-/
import Derived.Test.YtfclkapelkhlpaaGreatDoorProg
import Derived.Test.YtfclkapelkhlpaaGreatDoorVmKeepsTd
set_option linter.unusedSimpArgs false
set_option linter.unusedVariables false
set_option maxRecDepth 10000
namespace Go.Proofs.YtfclkapelkhlpaaGreatDoor
open Go Go.Proofs Go.LX
noncomputable section
theorem NQ (w0 : World) (M : BS) (hM : ∀ b, M b → b < w0.heap.size) (a : Int) (b : Val) (c : Val) (r : Val × Bool) (hs : KX a b c = some r) :
    Calls Tryz.prog 87 #[(.int .i64 (a)), (.agg #[(.int .i64 (b.kind)), (.int .i64 (b.n))]), (.agg #[(.int .i64 (c.kind)), (.int .i64 (c.n))])] w0 (fun e w' => Grow w0 w' ∧ e = .returned (.tuple #[.agg #[.int .i64 r.1.kind, .int .i64 r.1.n], .bool r.2])) := by
 refine aQ (args := [(.int .i64 (a)), (.agg #[(.int .i64 (b.kind)), (.int .i64 (b.n))]), (.agg #[(.int .i64 (c.kind)), (.int .i64 (c.n))])]) Tryz.func87 rfl Tryz.ntmps87 (Nat.le_of_ble_eq_true rfl) ?_
 have h := SH.init hM
 refine ai (ag (nX (cs := [(.int .i64 (b.kind)), (.int .i64 (b.n))]) h 1 rfl rfl fun w b1 h => nX (cs := [(.int .i64 (c.kind)), (.int .i64 (c.n))]) h 2 rfl rfl fun w b2 h => bW h 3 bT fun w b3 h => ae (aj (v := (.bool (false))) rfl) (ah (aa (ai (ag (ae (aj (v := (.func (.func 117) #[] #[])) rfl) (ah (aa (ai (ai (ag (ae (au (v := (.int .i64 (a))) rfl) (ae (bH rfl rfl) (ah (aa (aK hs rfl (fun c4 hs => ?_) (fun c4 hs => ?_))))))))))))))))))
 refine ai (ag (ae (au (v := (.func (.func 117) #[] #[])) rfl) (ae (dz (vs := [(.int .i64 (b.kind)), (.int .i64 (b.n))]) h 1 rfl bT rfl rfl rfl) (ae (dz (vs := [(.int .i64 (c.kind)), (.int .i64 (c.n))]) h 2 rfl bT rfl rfl rfl) (ae (Vu NL rfl rfl) (jl (args := [(.bool ((decide (b.kind = c.kind) && decide (b.n = c.n))))]) NF rfl rfl (aQ (args := [(.bool ((decide (b.kind = c.kind) && decide (b.n = c.n))))]) Tryz.func117 rfl Tryz.ntmps117 (Nat.le_of_ble_eq_true rfl) (ai (ag (bW h 4 bT fun w b5 h => ae (aj (v := (.bool (false))) rfl) (ah (aa (ai (ai (ag (ae (au (v := (.bool ((decide (b.kind = c.kind) && decide (b.n = c.n))))) rfl) (ah (aa (aK hs rfl (fun c6 hs => ?_) (fun c6 hs => ?_))))))))))))))))))))
 refine ai (ag (ae (dO (pv := [(0, (.int .i64 (1))), (1, (.int .i64 (1)))]) (out := [(.int .i64 (1)), (.int .i64 (1))]) uq rfl ⟨0, 1, [(.int .i64 (1))], rfl, rfl, rfl, Nat.le_of_ble_eq_true rfl, ⟨1, 1, [(.int .i64 (1))], rfl, rfl, rfl, Nat.le_of_ble_eq_true rfl, rfl⟩⟩) (dA (vs := [(.int .i64 (1)), (.int .i64 (1))]) h 4 [(.int .i64 (1)), (.int .i64 (1))] rfl bT rfl rfl rfl rfl rfl (ax rfl (ax rfl bu)) fun w h => ae (aj (v := (.bool (true))) rfl) (ah (aa (aI (aC (jO (vs := [(.int .i64 (1)), (.int .i64 (1))]) (v2 := (.bool (true))) Tryz.results117 rfl rfl h 4 rfl bT rfl (⟨_, rfl, ?_⟩)))))))))
 refine ae (bB rfl rfl) (ae (bB rfl rfl) (dA (vs := [(.int .i64 (1)), (.int .i64 (1))]) h 3 [(.int .i64 (1)), (.int .i64 (1))] rfl bT rfl rfl rfl rfl rfl (ax rfl (ax rfl bu)) fun w h => ae (aj (v := (.bool (true))) rfl) (ah (aa (aI (aC (jO (vs := [(.int .i64 (1)), (.int .i64 (1))]) (v2 := (.bool (true))) Tryz.results87 rfl rfl h 3 rfl bT rfl ?_)))))))
 obtain rfl := Option.some.inj hs
 exact ⟨h.grown, rfl⟩
 refine aG (aa (ai (ag (ae (dO (pv := [(0, (.int .i64 (1)))]) (out := [(.int .i64 (1)), (.int .i64 (0))]) uq rfl ⟨0, 1, [(.int .i64 (1))], rfl, rfl, rfl, Nat.le_of_ble_eq_true rfl, rfl⟩) (dA (vs := [(.int .i64 (1)), (.int .i64 (0))]) h 4 [(.int .i64 (1)), (.int .i64 (0))] rfl bT rfl rfl rfl rfl rfl (ax rfl (ax rfl bu)) fun w h => ae (aj (v := (.bool (true))) rfl) (ah (aa (aI (jO (vs := [(.int .i64 (1)), (.int .i64 (0))]) (v2 := (.bool (true))) Tryz.results117 rfl rfl h 4 rfl bT rfl (⟨_, rfl, ?_⟩))))))))))
 refine ae (bB rfl rfl) (ae (bB rfl rfl) (dA (vs := [(.int .i64 (1)), (.int .i64 (0))]) h 3 [(.int .i64 (1)), (.int .i64 (0))] rfl bT rfl rfl rfl rfl rfl (ax rfl (ax rfl bu)) fun w h => ae (aj (v := (.bool (true))) rfl) (ah (aa (aI (aC (jO (vs := [(.int .i64 (1)), (.int .i64 (0))]) (v2 := (.bool (true))) Tryz.results87 rfl rfl h 3 rfl bT rfl ?_)))))))
 obtain rfl := Option.some.inj hs
 exact ⟨h.grown, rfl⟩
 refine aG (aa (ai (ai (ag (ae (ak rR rfl) (ae (aF h 1 rfl bz rfl rfl) (ae (iA rfl rfl) (ae (au (v := (.bool (decide ((b.kind : Int) ≠ 1)))) rfl) (aD rfl rfl (fun q => ak rR rfl) (aD rfl rfl (fun q => aF h 2 rfl bz (dx q) rfl) (aD rfl rfl (fun q => iA (dx q) rfl) (ae (gK rfl rfl lQ) (ah (aa (aK hs rfl (fun c7 hs => ?_) (fun c7 hs => ?_))))))))))))))))
 refine ai (ag (ae (dO (pv := []) (out := [(.int .i64 (0)), (.int .i64 (0))]) uq rfl rfl) (dA (vs := [(.int .i64 (0)), (.int .i64 (0))]) h 3 [(.int .i64 (0)), (.int .i64 (0))] rfl bT rfl rfl rfl rfl rfl (ax rfl (ax rfl bu)) fun w h => ae (aj (v := (.bool (false))) rfl) (ah (aa (aI (aC (jO (vs := [(.int .i64 (0)), (.int .i64 (0))]) (v2 := (.bool (false))) Tryz.results87 rfl rfl h 3 rfl bT rfl ?_))))))))
 obtain rfl := Option.some.inj hs
 exact ⟨h.grown, rfl⟩
 refine aG (aa (ai (ag (ae (aj (v := (.int .i64 (0))) rfl) (ah (aa (bY (σ := Int) (inl [7, 9, 28, 29, 30, 31, 32, 33, 34, 35, 36, 37, 38, 39, 40, 41, 42, 43, 44, 45, 46, 47, 48, 49, 50, 51, 52, 53, 54, 55, 56, 57, 58, 59, 60]) (fun x8 => [(9, (.int .i64 (x8)))]) (fun x8 w => SH w0 M BE w (hset [(3, .blk b3 [(.int .i64 (0)), (.int .i64 (0))])]) ∧ yc x8 = some r) ?_ ?_)))))))
 rintro x8 w dD ⟨h, hs⟩
 refine ai (ag (ae (au (v := (.int .i64 (x8))) rfl) (ae (dO (pv := [(0, (.int .i64 (1))), (1, (.int .i64 (x8)))]) (out := [(.int .i64 (1)), (.int .i64 (x8))]) uq rfl ⟨0, 1, [(.int .i64 (1))], rfl, rfl, rfl, Nat.le_of_ble_eq_true rfl, ⟨1, 1, [(.int .i64 (x8))], rfl, rfl, rfl, Nat.le_of_ble_eq_true rfl, rfl⟩⟩) (ae (au (v := (.int .i64 (x8))) rfl) (ae (oI rfl rfl) (ae (au (v := (.bool (decide ((-1000000000 : Int) ≤ x8)))) rfl) (aD rfl rfl (fun q => au (v := (.int .i64 (x8))) rfl) (aD rfl rfl (fun q => Cn (dx q) rfl) (ae (fT rfl rfl lQ) (dA (vs := [(.int .i64 (1)), (.int .i64 (x8))]) h 3 [(.int .i64 (1)), (.int .i64 (x8))] rfl bT rfl rfl rfl rfl rfl (ax rfl (ax rfl bu)) fun w h => ae (aj (v := (.bool ((decide ((-1000000000 : Int) ≤ x8) && decide ((x8 : Int) ≤ 1000000000))))) rfl) (ah (aa (aI (jO (vs := [(.int .i64 (1)), (.int .i64 (x8))]) (v2 := (.bool ((decide ((-1000000000 : Int) ≤ x8) && decide ((x8 : Int) ≤ 1000000000))))) Tryz.results87 rfl rfl h 3 rfl bT rfl ?_))))))))))))))
 obtain rfl := Option.some.inj hs
 exact ⟨h.grown, rfl⟩
 refine ai (ag (ae (au (v := (.int .i64 (a))) rfl) (ah (aa (aT (ai (ag (ae (bH rfl rfl) (ae (aj (v := (.bool (decide ((a : Int) = 1)))) rfl) (ah (aa (aK hs rfl (fun c9 hs => ?_) (fun c9 hs => ?_)))))))))))))
 refine ag (ae (ak ik rfl) (ae (aF h 1 rfl bz rfl rfl) (ae (ak ik rfl) (ae (aF h 2 rfl bz rfl rfl) ?_))))
 obtain ⟨a10, hs⟩ := bI hs
 refine ae (dC rfl rfl a10) (ae (aj (v := (.int .i64 ((b.n + c.n)))) rfl) (ah (aA (az ?_))))
 exact bS (b.n + c.n) ⟨h.cn _, hs⟩
 refine ai (ag (ae (bH rfl rfl) (ae (aj (v := (.bool (decide ((a : Int) = 2)))) rfl) (ah (aa (aK hs rfl (fun c11 hs => ?_) (fun c11 hs => ?_)))))))
 refine ag (ae (ak ik rfl) (ae (aF h 1 rfl bz rfl rfl) (ae (ak ik rfl) (ae (aF h 2 rfl bz rfl rfl) ?_))))
 obtain ⟨a12, hs⟩ := bI hs
 refine ae (nW rfl rfl a12) (ae (aj (v := (.int .i64 ((b.n - c.n)))) rfl) (ah (aA (az ?_))))
 exact bS (b.n - c.n) ⟨h.cn _, hs⟩
 refine ai (ag (ae (bH rfl rfl) (ae (aj (v := (.bool (decide ((a : Int) = 3)))) rfl) (ah (aa (aK hs rfl (fun c13 hs => ?_) (fun c13 hs => ?_)))))))
 refine ag (ae (ak ik rfl) (ae (aF h 1 rfl bz rfl rfl) (ae (ak ik rfl) (ae (aF h 2 rfl bz rfl rfl) ?_))))
 obtain ⟨a14, hs⟩ := bI hs
 refine ae (Yt rfl rfl a14) (ae (aj (v := (.int .i64 ((b.n * c.n)))) rfl) (ah (aA (az ?_))))
 exact bS (b.n * c.n) ⟨h.cn _, hs⟩
 refine ai (ag (ae (bH rfl rfl) (ae (aj (v := (.bool (decide ((a : Int) = 4)))) rfl) (ah (aa (aK hs rfl (fun c15 hs => ?_) (fun c15 hs => ?_)))))))
 refine ai (ag (ae (au (v := (.func (.func 117) #[] #[])) rfl) (ae (ak ik rfl) (ae (aF h 1 rfl bz rfl rfl) (ae (ak ik rfl) (ae (aF h 2 rfl bz rfl rfl) (ae (dS rfl rfl) (jl (args := [(.bool (decide ((b.n : Int) < c.n)))]) NF rfl rfl (aQ (args := [(.bool (decide ((b.n : Int) < c.n)))]) Tryz.func117 rfl Tryz.ntmps117 (Nat.le_of_ble_eq_true rfl) (ai (ag (bW h 5 bT fun w b16 h => ae (aj (v := (.bool (false))) rfl) (ah (aa (ai (ai (ag (ae (au (v := (.bool (decide ((b.n : Int) < c.n)))) rfl) (ah (aa (aK hs rfl (fun c17 hs => ?_) (fun c17 hs => ?_))))))))))))))))))))))
 refine ai (ag (ae (dO (pv := [(0, (.int .i64 (1))), (1, (.int .i64 (1)))]) (out := [(.int .i64 (1)), (.int .i64 (1))]) uq rfl ⟨0, 1, [(.int .i64 (1))], rfl, rfl, rfl, Nat.le_of_ble_eq_true rfl, ⟨1, 1, [(.int .i64 (1))], rfl, rfl, rfl, Nat.le_of_ble_eq_true rfl, rfl⟩⟩) (dA (vs := [(.int .i64 (1)), (.int .i64 (1))]) h 5 [(.int .i64 (1)), (.int .i64 (1))] rfl bT rfl rfl rfl rfl rfl (ax rfl (ax rfl bu)) fun w h => ae (aj (v := (.bool (true))) rfl) (ah (aa (aI (aC (jO (vs := [(.int .i64 (1)), (.int .i64 (1))]) (v2 := (.bool (true))) Tryz.results117 rfl rfl h 5 rfl bT rfl (⟨_, rfl, ?_⟩)))))))))
 refine ae (bB rfl rfl) (ae (bB rfl rfl) (dA (vs := [(.int .i64 (1)), (.int .i64 (1))]) h 3 [(.int .i64 (1)), (.int .i64 (1))] rfl bT rfl rfl rfl rfl rfl (ax rfl (ax rfl bu)) fun w h => ae (aj (v := (.bool (true))) rfl) (ah (aa (aI (aH (aC (jO (vs := [(.int .i64 (1)), (.int .i64 (1))]) (v2 := (.bool (true))) Tryz.results87 rfl rfl h 3 rfl bT rfl ?_))))))))
 obtain rfl := Option.some.inj hs
 exact ⟨h.grown, rfl⟩
 refine aG (aa (ai (ag (ae (dO (pv := [(0, (.int .i64 (1)))]) (out := [(.int .i64 (1)), (.int .i64 (0))]) uq rfl ⟨0, 1, [(.int .i64 (1))], rfl, rfl, rfl, Nat.le_of_ble_eq_true rfl, rfl⟩) (dA (vs := [(.int .i64 (1)), (.int .i64 (0))]) h 5 [(.int .i64 (1)), (.int .i64 (0))] rfl bT rfl rfl rfl rfl rfl (ax rfl (ax rfl bu)) fun w h => ae (aj (v := (.bool (true))) rfl) (ah (aa (aI (jO (vs := [(.int .i64 (1)), (.int .i64 (0))]) (v2 := (.bool (true))) Tryz.results117 rfl rfl h 5 rfl bT rfl (⟨_, rfl, ?_⟩))))))))))
 refine ae (bB rfl rfl) (ae (bB rfl rfl) (dA (vs := [(.int .i64 (1)), (.int .i64 (0))]) h 3 [(.int .i64 (1)), (.int .i64 (0))] rfl bT rfl rfl rfl rfl rfl (ax rfl (ax rfl bu)) fun w h => ae (aj (v := (.bool (true))) rfl) (ah (aa (aI (aH (aC (jO (vs := [(.int .i64 (1)), (.int .i64 (0))]) (v2 := (.bool (true))) Tryz.results87 rfl rfl h 3 rfl bT rfl ?_))))))))
 obtain rfl := Option.some.inj hs
 exact ⟨h.grown, rfl⟩
 refine aG (aA (az ?_))
 exact bS 0 ⟨h.cn _, hs⟩
def uL (sx : LX.State) (a : Ins) (x5 : Val) (xb : LX.Frame) (kb : Int) (XT : Bool) : Option (Bool × LX.State) :=
  bif XT then some (false, sx) else bif decide ((a.op : Int) = 6) then (idx sx.cells x5.n).bind fun xS => (idx xb.regs a.b).bind fun x27 => (idx xS a.c).bind fun xy => some (true, (⟨sx.frames, (sx.cells.set (x5.n).toNat (xS.set (a.c).toNat x27)), sx.status, sx.aV⟩ : LX.State)) else (idx sx.cells x5.n).bind fun x41 => (idx x41 a.c).bind fun Tj => (idx xb.regs a.a).bind fun x59 => some (true, (⟨(sx.frames.set (kb).toNat ({ xb with regs := (xb.regs.set (a.a).toNat Tj) })), sx.cells, sx.status, sx.aV⟩ : LX.State))
def uM (xb : LX.Frame) (sx : LX.State) (a : Ins) (kb : Int) (x4 : Int) : Option (Bool × LX.State) :=
  (idx xb.regs x4).bind fun x5 => bif decide ((x5.kind : Int) ≠ 2) then uL sx a x5 xb kb true else (idx sx.cells x5.n).bind fun x66 => uL sx a x5 xb kb (decide (((x66.length : Int) : Int) ≤ a.c))
def CV (sx : LX.State) (a : Ins) (kb : Int) (xb : LX.Frame) : Option (Bool × LX.State) :=
  bif decide ((a.op : Int) = 6) then uM xb sx a kb a.a else uM xb sx a kb a.b
theorem Gd (w0 : World) (M : BS) (hM : ∀ b, M b → b < w0.heap.size) (sb : Nat) (sx : LX.State) (eU vs1 : Value) (fq eQ : List Value) (hC : Chunk.holds w0 M (Chunk.own' (.two (.two (.two (.two (.blk sb [eU, vs1, (.int .i64 (sx.status)), (.int .i64 (sx.aV))]) (.own aB.raw 49 eU (List.zip sx.frames fq))) (.bL (aR aL 51 hn fq (List.map aB.sub sx.frames)))) (.own (aU Val).raw 47 vs1 (List.zip sx.cells eQ))) (.bL (aR aL 51 hn eQ (List.map (aU Val).sub sx.cells))) : Chunk)) (.two (.two (.two (.two (.blk sb [eU, vs1, (.int .i64 (sx.status)), (.int .i64 (sx.aV))]) (.own aB.raw 49 eU (List.zip sx.frames fq))) (.bL (aR aL 51 hn fq (List.map aB.sub sx.frames)))) (.own (aU Val).raw 47 vs1 (List.zip sx.cells eQ))) (.bL (aR aL 51 hn eQ (List.map (aU Val).sub sx.cells))) : Chunk)) (hap : ∀ b, Chunk.own' (.two (.two (.two (.two (.blk sb [eU, vs1, (.int .i64 (sx.status)), (.int .i64 (sx.aV))]) (.own aB.raw 49 eU (List.zip sx.frames fq))) (.bL (aR aL 51 hn fq (List.map aB.sub sx.frames)))) (.own (aU Val).raw 47 vs1 (List.zip sx.cells eQ))) (.bL (aR aL 51 hn eQ (List.map (aU Val).sub sx.cells))) : Chunk) b → ¬ M b) (a : Ins) (BM : Value) (Y8 : fo fH w0 (fun b => M b ∨ (.two (.two (.two (.two (.blk sb [eU, vs1, (.int .i64 (sx.status)), (.int .i64 (sx.aV))]) (.own aB.raw 49 eU (List.zip sx.frames fq))) (.bL (aR aL 51 hn fq (List.map aB.sub sx.frames)))) (.own (aU Val).raw 47 vs1 (List.zip sx.cells eQ))) (.bL (aR aL 51 hn eQ (List.map (aU Val).sub sx.cells))) : Chunk).own' b) BM a.args) (kb : Int) (xb : LX.Frame) (gb : 0 ≤ kb) (eb : sx.frames[kb.toNat]? = some xb) (vb : Value) (hb : fq[kb.toNat]? = some vb) (r : Bool × LX.State) (hs : CV sx a kb xb = some r) :
    Calls Tryz.prog 88 #[(.pointer (some ⟨sb, 0, none⟩)), (.agg #[(.int .i64 (a.op)), (.int .i64 (a.a)), (.int .i64 (a.b)), (.int .i64 (a.c)), BM]), vb] w0 (fun e w' => aS (Chunk.own' (.two (.two (.two (.two (.blk sb [eU, vs1, (.int .i64 (sx.status)), (.int .i64 (sx.aV))]) (.own aB.raw 49 eU (List.zip sx.frames fq))) (.bL (aR aL 51 hn fq (List.map aB.sub sx.frames)))) (.own (aU Val).raw 47 vs1 (List.zip sx.cells eQ))) (.bL (aR aL 51 hn eQ (List.map (aU Val).sub sx.cells))) : Chunk)) w0 w' ∧ ∃ AZ, ∃ A7, ∃ A8, ∃ A9, e = .returned (.bool r.1) ∧ Chunk.holds w' M (Chunk.own' (.two (.two (.two (.two (.blk sb [AZ, A7, .int .i64 r.2.status, .int .i64 r.2.aV]) (.own aB.raw 49 AZ (List.zip r.2.frames A8))) (.bL (aR aL 51 hn A8 (List.map aB.sub r.2.frames)))) (.own (aU Val).raw 47 A7 (List.zip r.2.cells A9))) (.bL (aR aL 51 hn A9 (List.map (aU Val).sub r.2.cells))) : Chunk)) (.two (.two (.two (.two (.blk sb [AZ, A7, .int .i64 r.2.status, .int .i64 r.2.aV]) (.own aB.raw 49 AZ (List.zip r.2.frames A8))) (.bL (aR aL 51 hn A8 (List.map aB.sub r.2.frames)))) (.own (aU Val).raw 47 A7 (List.zip r.2.cells A9))) (.bL (aR aL 51 hn A9 (List.map (aU Val).sub r.2.cells))) : Chunk) ∧ (∀ b, Chunk.own' (.two (.two (.two (.two (.blk sb [AZ, A7, .int .i64 r.2.status, .int .i64 r.2.aV]) (.own aB.raw 49 AZ (List.zip r.2.frames A8))) (.bL (aR aL 51 hn A8 (List.map aB.sub r.2.frames)))) (.own (aU Val).raw 47 A7 (List.zip r.2.cells A9))) (.bL (aR aL 51 hn A9 (List.map (aU Val).sub r.2.cells))) : Chunk) b → b < w0.heap.size → Chunk.own' (.two (.two (.two (.two (.blk sb [eU, vs1, (.int .i64 (sx.status)), (.int .i64 (sx.aV))]) (.own aB.raw 49 eU (List.zip sx.frames fq))) (.bL (aR aL 51 hn fq (List.map aB.sub sx.frames)))) (.own (aU Val).raw 47 vs1 (List.zip sx.cells eQ))) (.bL (aR aL 51 hn eQ (List.map (aU Val).sub sx.cells))) : Chunk) b)) := by
 refine aQ (args := [(.pointer (some ⟨sb, 0, none⟩)), (.agg #[(.int .i64 (a.op)), (.int .i64 (a.a)), (.int .i64 (a.b)), (.int .i64 (a.c)), BM]), vb]) Tryz.func88 rfl Tryz.ntmps88 (Nat.le_of_ble_eq_true rfl) ?_
 have h := SH.ED hM hC hap
 replace h := h.Bw 6 Y8 zw
 generalize zy : (.two (.two (.two (.two (.blk sb [eU, vs1, (.int .i64 (sx.status)), (.int .i64 (sx.aV))]) (.own aB.raw 49 eU (List.zip sx.frames fq))) (.bL (aR aL 51 hn fq (List.map aB.sub sx.frames)))) (.own (aU Val).raw 47 vs1 (List.zip sx.cells eQ))) (.bL (aR aL 51 hn eQ (List.map (aU Val).sub sx.cells))) : Chunk).own' = K0 at h
 replace h := h.bX 1 5 (by decide) rfl rfl
 replace h := h.bX 1 4 (by decide) rfl rfl
 replace h := h.bX 1 3 (by decide) rfl rfl
 replace h := h.bX 1 2 (by decide) rfl rfl
 obtain ⟨u1, e2, h⟩ := h.qL 3 7 xb.regs rfl rfl (by decide) eb rfl
 obtain rfl : vb = u1 := Option.some.inj (hb.symm.trans e2)
 refine ai (ag (nX (cs := [(.int .i64 (a.op)), (.int .i64 (a.a)), (.int .i64 (a.b)), (.int .i64 (a.c)), BM]) h 8 rfl rfl fun w b3 h => ae (aj (v := (.bool (false))) rfl) (ah (aa (ai (ag (ae (ak iF rfl) (ae (aF h 8 rfl bz rfl rfl) (ae (aj (v := (.int .i64 (a.b))) rfl) (ah (aa (bY (σ := Int) (inl [7, 11, 12, 13, 14, 15]) (fun x4 => [(7, (.int .i64 (x4)))]) (fun x4 w => SH w0 M K0 w (hset [(1, .blk sb [eU, vs1, (.int .i64 (sx.status)), (.int .i64 (sx.aV))]), (2, .own aB.raw 49 eU (List.zip sx.frames fq)), (3, .bL (aR aL 51 (hat (kb).toNat) fq (List.map aB.sub sx.frames))), (4, .own (aU Val).raw 47 vs1 (List.zip sx.cells eQ)), (5, .bL (aR aL 51 hn eQ (List.map (aU Val).sub sx.cells))), (6, .rd fH BM a.args), (7, .own aL 51 vb xb.regs), (8, .blk b3 [(.int .i64 (a.op)), (.int .i64 (a.a)), (.int .i64 (a.b)), (.int .i64 (a.c)), BM])]) ∧ uM xb sx a kb x4 = some r) ?_ ?_))))))))))))
 rintro x4 w dD ⟨h, hs⟩
 refine ai (ag (ae (au (v := vb) rfl) (ae (au (v := (.int .i64 (x4))) rfl) ?_)))
 obtain ⟨x5, e6, hs⟩ := aP hs
 obtain ⟨b8, q9, i7⟩ := h.vN 7 rfl bR rfl (aJ e6).1 (aJ e6).2
 refine ae (i7 _ _ _ _ _ _ _ _ _ rfl rfl) ?_
 obtain ⟨cs10, m11, YE⟩ := h.yx 7 rfl q9 (aJ e6).2
 obtain rfl := YE
 refine ae (ou (k := 0) (vs := [(.int .i64 (x5.kind)), (.int .i64 (x5.n))]) m11 bT rfl rfl rfl (Nat.le_of_ble_eq_true rfl)) (bW h 9 bT fun w b13 h => dA (vs := [(.int .i64 (x5.kind)), (.int .i64 (x5.n))]) h 9 [(.int .i64 (x5.kind)), (.int .i64 (x5.n))] rfl bT rfl rfl rfl rfl rfl (ax rfl (ax rfl bu)) fun w h => ah (aa (ai (bY (σ := Bool) (inl [20, 21, 22, 23, 24, 25, 26, 27, 28, 29, 30, 31, 32, 33, 34, 35, 36]) (fun XT => [(36, (.bool (XT)))]) (fun XT w => SH w0 M K0 w (hset [(1, .blk sb [eU, vs1, (.int .i64 (sx.status)), (.int .i64 (sx.aV))]), (2, .own aB.raw 49 eU (List.zip sx.frames fq)), (3, .bL (aR aL 51 (hat (kb).toNat) fq (List.map aB.sub sx.frames))), (4, .own (aU Val).raw 47 vs1 (List.zip sx.cells eQ)), (5, .bL (aR aL 51 hn eQ (List.map (aU Val).sub sx.cells))), (6, .rd fH BM a.args), (7, .own aL 51 vb xb.regs), (8, .blk b3 [(.int .i64 (a.op)), (.int .i64 (a.a)), (.int .i64 (a.b)), (.int .i64 (a.c)), BM]), (9, .blk b13 [(.int .i64 (x5.kind)), (.int .i64 (x5.n))])]) ∧ uL sx a x5 xb kb XT = some r) ?_ ?_))))
 rintro XT w dD ⟨h, hs⟩
 refine aK hs rfl (fun c15 hs => ?_) (fun c15 hs => ?_)
 refine ai (ag (ae (aj (v := (.bool (false))) rfl) (ah (aa (aI (aC (bV (v := (.bool (false))) Tryz.results88 rfl ?_)))))))
 replace h := h.iL 3 7 rfl rfl (by decide) eb hb rfl
 replace h := h.pair 1 2 (by decide)
 replace h := h.pair 1 3 (by decide)
 replace h := h.pair 1 4 (by decide)
 replace h := h.pair 1 5 (by decide)
 obtain rfl := Option.some.inj hs
 subst zy
 obtain ⟨o1, o2, o3⟩ := h.qp 1 (C := (.two (.two (.two (.two (.blk sb [eU, vs1, (.int .i64 (sx.status)), (.int .i64 (sx.aV))]) (.own aB.raw 49 eU (List.zip sx.frames fq))) (.bL (aR aL 51 hn fq (List.map aB.sub sx.frames)))) (.own (aU Val).raw 47 vs1 (List.zip sx.cells eQ))) (.bL (aR aL 51 hn eQ (List.map (aU Val).sub sx.cells))) : Chunk)) rfl ⟨⟨⟨⟨trivial, trivial⟩, trivial⟩, trivial⟩, trivial⟩
 exact ⟨o2, eU, vs1, fq, eQ, rfl, o1, o3⟩
 refine aG (aa (ai (ai (ag (ae (ak oN rfl) (ae (aF h 8 rfl bz rfl rfl) (ae (bH rfl rfl) (ah (aa (aK hs rfl (fun c16 hs => ?_) (fun c16 hs => ?_)))))))))))
 refine qI 16 mixed (by kernel_rfl) h fun w h => aN (au (v := (.pointer (some ⟨sb, 0, none⟩))) rfl) (aN (bQ rfl) (aN (ak jy rfl) (aN (aF h 1 rfl og rfl rfl) (aN (ak ik rfl) (aN (aF h 9 rfl bz rfl rfl) ?_)))))
 obtain ⟨xS, e18, hs⟩ := aP hs
 obtain ⟨u22, e23, h⟩ := h.qL 5 10 xS rfl rfl (by decide) (aJ e18).2 rfl
 obtain ⟨b20, q21, i19⟩ := h.vN 4 rfl eY rfl (aJ e18).1 (fB (aJ e18).2 e23)
 refine aN (i19 _ _ _ _ _ _ _ _ _ rfl rfl) ?_
 obtain ⟨cs24, m25, r26⟩ := h.yx 4 rfl q21 (fB (aJ e18).2 e23)
 obtain ⟨rfl, -⟩ := r26
 refine aN (oJ (k := 0) m25 mr rfl rfl) (aN (ak qa rfl) (aN (aF h 8 rfl bz rfl rfl) (aN (au (v := vb) rfl) (aN (ak iF rfl) (aN (aF h 8 rfl bz rfl rfl) ?_)))))
 obtain ⟨x27, e28, hs⟩ := aP hs
 obtain ⟨b30, q31, i29⟩ := h.vN 7 rfl bR rfl (aJ e28).1 (aJ e28).2
 refine aN (i29 _ _ _ _ _ _ _ _ _ rfl rfl) ?_
 obtain ⟨cs32, m33, r34⟩ := h.yx 7 rfl q31 (aJ e28).2
 obtain rfl := r34
 refine aN (ou (k := 0) (vs := [(.int .i64 (x27.kind)), (.int .i64 (x27.n))]) m33 bT rfl rfl rfl (Nat.le_of_ble_eq_true rfl)) ?_
 obtain ⟨xy, e36, hs⟩ := aP hs
 obtain ⟨b38, q39, i37⟩ := h.vN 10 rfl bR rfl (aJ e36).1 (aJ e36).2
 refine aN (i37 _ _ _ _ _ _ _ _ _ rfl rfl) (zm (w9 (a' := x27) (vs := [(.int .i64 (x27.kind)), (.int .i64 (x27.n))]) h 10 rfl q39 rfl (aJ e36).2 bT rfl rfl rfl rfl rfl fun w h k40 => ah (aa (ai (ag (ae (aj (v := (.bool (true))) rfl) (ah (aa (aI (bV (v := (.bool (true))) Tryz.results88 rfl ?_))))))))))
 replace h := h.iL 3 7 rfl rfl (by decide) eb hb rfl
 replace h := h.qJ 4 5 10 (xS.set (a.c).toNat x27) rfl rfl rfl (by decide) (by decide) (by decide) (aJ e18).2 e23 rfl
 replace h := h.pair 1 2 (by decide)
 replace h := h.pair 1 3 (by decide)
 replace h := h.pair 1 4 (by decide)
 replace h := h.pair 1 5 (by decide)
 obtain rfl := Option.some.inj hs
 subst zy
 obtain ⟨o1, o2, o3⟩ := h.qp 1 (C := (.two (.two (.two (.two (.blk sb [eU, vs1, (.int .i64 (sx.status)), (.int .i64 (sx.aV))]) (.own aB.raw 49 eU (List.zip sx.frames fq))) (.bL (aR aL 51 hn fq (List.map aB.sub sx.frames)))) (.own (aU Val).raw 47 vs1 (List.zip (sx.cells.set (x5.n).toNat (xS.set (a.c).toNat x27)) eQ))) (.bL (aR aL 51 hn eQ (List.map (aU Val).sub (sx.cells.set (x5.n).toNat (xS.set (a.c).toNat x27))))) : Chunk)) rfl ⟨⟨⟨⟨trivial, trivial⟩, trivial⟩, trivial⟩, trivial⟩
 exact ⟨o2, eU, vs1, fq, eQ, rfl, o1, o3⟩
 refine qI 16 mixed (by kernel_rfl) h fun w h => aN (au (v := vb) rfl) (aN (ak jV rfl) (aN (aF h 8 rfl bz rfl rfl) (aN (au (v := (.pointer (some ⟨sb, 0, none⟩))) rfl) (aN (bQ rfl) (aN (ak jy rfl) (aN (aF h 1 rfl og rfl rfl) (aN (ak ik rfl) (aN (aF h 9 rfl bz rfl rfl) ?_))))))))
 obtain ⟨x41, e42, hs⟩ := aP hs
 obtain ⟨u46, e47, h⟩ := h.qL 5 11 x41 rfl rfl (by decide) (aJ e42).2 rfl
 obtain ⟨O8, Zo, i43⟩ := h.vN 4 rfl eY rfl (aJ e42).1 (fB (aJ e42).2 e47)
 refine aN (i43 _ _ _ _ _ _ _ _ _ rfl rfl) ?_
 obtain ⟨cs48, m49, r50⟩ := h.yx 4 rfl Zo (fB (aJ e42).2 e47)
 obtain ⟨rfl, -⟩ := r50
 refine aN (oJ (k := 0) m49 mr rfl rfl) (aN (ak qa rfl) (aN (aF h 8 rfl bz rfl rfl) ?_))
 obtain ⟨Tj, e52, hs⟩ := aP hs
 obtain ⟨b54, q55, i53⟩ := h.vN 11 rfl bR rfl (aJ e52).1 (aJ e52).2
 refine aN (i53 _ _ _ _ _ _ _ _ _ rfl rfl) ?_
 obtain ⟨cs56, m57, r58⟩ := h.yx 11 rfl q55 (aJ e52).2
 obtain rfl := r58
 refine aN (ou (k := 0) (vs := [(.int .i64 (Tj.kind)), (.int .i64 (Tj.n))]) m57 bT rfl rfl rfl (Nat.le_of_ble_eq_true rfl)) ?_
 obtain ⟨x59, e60, hs⟩ := aP hs
 obtain ⟨b62, q63, i61⟩ := h.vN 7 rfl bR rfl (aJ e60).1 (aJ e60).2
 refine aN (i61 _ _ _ _ _ _ _ _ _ rfl rfl) (zm (w9 (a' := Tj) (vs := [(.int .i64 (Tj.kind)), (.int .i64 (Tj.n))]) h 7 rfl q63 rfl (aJ e60).2 bT rfl rfl rfl rfl rfl fun w h k64 => ah (aa (ai (ag (ae (aj (v := (.bool (true))) rfl) (ah (aa (aI (bV (v := (.bool (true))) Tryz.results88 rfl ?_))))))))))
 replace h := h.qJ 2 3 7 ({ xb with regs := (xb.regs.set (a.a).toNat Tj) }) rfl rfl rfl (by decide) (by decide) (by decide) eb hb rfl
 replace h := h.iL 5 11 rfl rfl (by decide) (aJ e42).2 e47 rfl
 replace h := h.pair 1 2 (by decide)
 replace h := h.pair 1 3 (by decide)
 replace h := h.pair 1 4 (by decide)
 replace h := h.pair 1 5 (by decide)
 obtain rfl := Option.some.inj hs
 subst zy
 obtain ⟨o1, o2, o3⟩ := h.qp 1 (C := (.two (.two (.two (.two (.blk sb [eU, vs1, (.int .i64 (sx.status)), (.int .i64 (sx.aV))]) (.own aB.raw 49 eU (List.zip (sx.frames.set (kb).toNat ({ xb with regs := (xb.regs.set (a.a).toNat Tj) })) fq))) (.bL (aR aL 51 hn fq (List.map aB.sub (sx.frames.set (kb).toNat ({ xb with regs := (xb.regs.set (a.a).toNat Tj) })))))) (.own (aU Val).raw 47 vs1 (List.zip sx.cells eQ))) (.bL (aR aL 51 hn eQ (List.map (aU Val).sub sx.cells))) : Chunk)) rfl ⟨⟨⟨⟨trivial, trivial⟩, trivial⟩, trivial⟩, trivial⟩
 exact ⟨o2, eU, vs1, fq, eQ, rfl, o1, o3⟩
 refine zK mixed (by kernel_rfl) h fun w h => aN (ak rR rfl) (aN (aF h 9 rfl bz rfl rfl) (aN (iA rfl rfl) (aN (au (v := (.bool (decide ((x5.kind : Int) ≠ 2)))) rfl) (jH (b := decide ((x5.kind : Int) ≠ 2)) hs (fun Bi hs => ?_) (fun Bi hs => ?_)))))
 refine fU (b' := true) rfl (congrArg Value.bool Bi) rfl (fU (b' := true) rfl (congrArg Value.bool Bi) rfl (fU (b' := true) rfl (congrArg Value.bool Bi) rfl (fU (b' := true) rfl (congrArg Value.bool Bi) rfl (fU (b' := true) rfl (congrArg Value.bool Bi) rfl (fU (b' := true) rfl (congrArg Value.bool Bi) rfl (fU (b' := true) rfl (congrArg Value.bool Bi) rfl (fU (b' := true) rfl (congrArg Value.bool Bi) rfl (fU (b' := true) rfl (congrArg Value.bool Bi) rfl (fU (b' := true) rfl (congrArg Value.bool Bi) rfl (fU (b' := true) rfl (congrArg Value.bool Bi) rfl (fU (b' := true) rfl (congrArg Value.bool Bi) rfl (aN (dL (b := true) (v := (.bool (true))) (congrArg Value.bool Bi) rfl) (yH (az ?_))))))))))))))
 exact bS true ⟨h.cn _, hs⟩
 refine iK rfl (congrArg Value.bool Bi) (aN (ak qa rfl) (iK rfl (congrArg Value.bool Bi) (aN (aF h 8 rfl bz rfl rfl) (iK rfl (congrArg Value.bool Bi) (aN (au (v := (.pointer (some ⟨sb, 0, none⟩))) rfl) (iK rfl (congrArg Value.bool Bi) (aN (bQ rfl) (iK rfl (congrArg Value.bool Bi) (aN (ak jy rfl) (iK rfl (congrArg Value.bool Bi) (aN (aF h 1 rfl og rfl rfl) (iK rfl (congrArg Value.bool Bi) (aN (ak ik rfl) (iK rfl (congrArg Value.bool Bi) (aN (aF h 9 rfl bz rfl rfl) (iK rfl (congrArg Value.bool Bi) ?_))))))))))))))))
 obtain ⟨x66, WV, hs⟩ := aP hs
 obtain ⟨u71, e72, h⟩ := h.qL 5 12 x66 rfl rfl (by decide) (aJ WV).2 rfl
 obtain ⟨b69, q70, i68⟩ := h.vN 4 rfl eY rfl (aJ WV).1 (fB (aJ WV).2 e72)
 refine aN (i68 _ _ _ _ _ _ _ _ _ rfl rfl) (iK rfl (congrArg Value.bool Bi) ?_)
 obtain ⟨cs73, WW, r75⟩ := h.yx 4 rfl q70 (fB (aJ WV).2 e72)
 obtain ⟨rfl, -⟩ := r75
 refine aN (oJ (k := 0) WW mr rfl rfl) (iK rfl (congrArg Value.bool Bi) (aN (bU bR rfl (h.ed 12 rfl)) (iK rfl (congrArg Value.bool Bi) (aN (oI rfl rfl) (aN (dL (b := false) (v := (.bool (decide (((x66.length : Int) : Int) ≤ a.c)))) (congrArg Value.bool Bi) rfl) (yH ?_))))))
 replace h := h.iL 5 12 rfl rfl (by decide) (aJ WV).2 e72 rfl
 refine az ?_
 exact bS (decide (((x66.length : Int) : Int) ≤ a.c)) ⟨h.cn _, hs⟩
 refine ai (ag (ae (ak oN rfl) (ae (aF h 8 rfl bz rfl rfl) (ae (bH rfl rfl) (ah (aa (aK hs rfl (fun c76 hs => ?_) (fun c76 hs => ?_))))))))
 refine ag (ae (ak jV rfl) (ae (aF h 8 rfl bz rfl rfl) (ae (aj (v := (.int .i64 (a.a))) rfl) (ah (az ?_)))))
 exact bS a.a ⟨h.cn _, hs⟩
 refine aG (az ?_)
 exact bS a.b ⟨h.cn _, hs⟩
def sI (JM : (List Int × List (Int × Bool)) → Option (List Int × Int)) (vY : List Int) (yT : List (Int × Bool)) : Option (List Int × Int) :=
  JM (vY, yT)
def sJ (Iq : (List Int × List (Int × Bool)) → Option (List Int × Int)) (MM : List Int) (DV : List (Int × Bool)) : Option (List Int × Int) :=
  Iq (MM, DV)
def mI (tC : Val) (s : List Int × List (Int × Bool)) (Iq : List Int × List (Int × Bool) → Option (List Int × Int)) : Option (List Int × Int) :=
  match s with | (gq, om) => bif (decide ((tC.kind : Int) = 2) && (!((lk tC.n om).getD false))) then gQ (Room 8 gq [tC.n]) (sJ Iq (gq ++ [tC.n]) (yN tC.n true om)) else sJ Iq gq om
def mJ (Gf : Int) (KY : (Int × List Int × List (Int × Bool)) → Option (List Int × Int)) (s : List Int × List (Int × Bool)) : Option (List Int × Int) :=
  match s with | (gq, om) => gQ (jB (Gf + 1)) (KY ((Gf + 1), gq, om))
def kW (a : List (List Val)) (s : Int × List Int × List (Int × Bool)) (KY : Int × List Int × List (Int × Bool) → Option (List Int × Int)) : Option (List Int × Int) :=
  match s with | (Gf, AQ, wH) => bif decide ((Gf : Int) < (AQ.length : Int)) then (idx AQ Gf).bind fun x79 => (idx a x79).bind fun x87 => each mI (mJ Gf KY) x87 (AQ, wH) else some (AQ, 0)
def pJ (rV : Val) (s : List Int × List (Int × Bool)) (JM : List Int × List (Int × Bool) → Option (List Int × Int)) : Option (List Int × Int) :=
  match s with | (y32, LC) => bif (decide ((rV.kind : Int) = 2) && (!((lk rV.n LC).getD false))) then gQ (Room 8 y32 [rV.n]) (sI JM (y32 ++ [rV.n]) (yN rV.n true LC)) else sI JM y32 LC
def sK (N : Nat) (a : List (List Val)) (s : List Int × List (Int × Bool)) : Option (List Int × Int) :=
  match s with | (y32, LC) => again (kW a) N (0, y32, LC)
def pK (a : List (List Val)) (x6 : Val) (s : Unit) (nx8 : Unit → Option (List Int × Int)) : Option (List Int × Int) :=
  bif decide (((cK x6 (a.length : Int)) : Int) ≠ 0) then some ([], (cK x6 (a.length : Int))) else nx8 ()
def mK (N : Nat) (a : List (List Val)) (b : List Val) (s : Unit) : Option (List Int × Int) :=
  each pJ (sK N a) b ([], ([] : List (Int × Bool)))
def zg (N : Nat) (a : List (List Val)) (b : List Val) : Option (List Int × Int) :=
  bif decide (((dE a) : Int) ≠ 0) then some ([], (dE a)) else bif decide ((400 : Int) < (b.length : Int)) then some ([], 2) else each (pK a) (mK N a b) b ()
theorem JQ (N : Nat) (w0 : World) (M : BS) (hM : ∀ b, M b → b < w0.heap.size) (va : Value) (a : List (List Val)) (ha : gp (qV aL) w0 BE M va a) (vb : Value) (b : List Val) (hb : gp aL w0 BE M vb b) (r : List Int × Int) (hs : zg N a b = some r) :
    Calls Tryz.prog 48 #[va, vb] w0 (fun e w' => Grow w0 w' ∧ ∃ u0, e = .returned (.tuple #[u0, .int .i64 r.2]) ∧ dU fH 3 w' M u0 r.1 ∧ (∀ b, ob u0 b → w0.heap.size ≤ b)) := by
 refine aQ (args := [va, vb]) Tryz.func48 rfl Tryz.ntmps48 (Nat.le_of_ble_eq_true rfl) ?_
 have h := SH.init hM
 replace h := h.fC 1 ha bJ
 replace h := h.fC 2 hb (di bJ)
 have uu := ha.bZ
 have JA := hb.bZ
 refine ai (ag (ae (aj (v := (.slice none 0 0)) rfl) (ae (aj (v := (.int .i64 (0))) rfl) (ah (aa (ai (ai (ag (ae (au (v := va) rfl) (bA QR rfl rfl (zu _ _ h.lt va a (h.iw 1 rfl) _ rfl) ?_))))))))))
 rintro _ w ⟨k1, rfl⟩
 refine ⟨_, rfl, ?_⟩
 replace h := h.grow k1
 refine ae (aj (v := (.int .i64 ((dE a)))) rfl) (ah (aa (ai (ag (ae (au (v := (.int .i64 ((dE a)))) rfl) (ae (iA rfl rfl) (ah (aa (aK hs rfl (fun c2 hs => ?_) (fun c2 hs => ?_))))))))))
 refine ai (ag (ae (au (v := (.int .i64 ((dE a)))) rfl) (ae (aj (v := (.slice none 0 0)) rfl) (ae (aj (v := (.int .i64 ((dE a)))) rfl) (ah (aa (aI (aC (Dm (v1 := (.slice none 0 0)) (v2 := (.int .i64 ((dE a)))) Tryz.results48 rfl rfl ?_)))))))))
 obtain rfl := Option.some.inj hs
 exact ⟨h.grown, _, rfl, dU.nil, lM⟩
 refine aG (aa (ai (ai (ag (ae (au (v := vb) rfl) (ae (bU bR rfl (h.iw 2 rfl)) (ae (jA rfl rfl) (ah (aa (aK hs rfl (fun c3 hs => ?_) (fun c3 hs => ?_)))))))))))
 refine ai (ag (ae (aj (v := (.slice none 0 0)) rfl) (ae (aj (v := (.int .i64 (2))) rfl) (ah (aa (aI (aC (Dm (v1 := (.slice none 0 0)) (v2 := (.int .i64 (2))) Tryz.results48 rfl rfl ?_))))))))
 obtain rfl := Option.some.inj hs
 exact ⟨h.grown, _, rfl, dU.nil, lM⟩
 refine aG (aa (ai (ai (ag (ae (au (v := vb) rfl) (ae (bU bR rfl (h.iw 2 rfl)) (ae (au (v := (.int .i64 (0))) rfl) (ah (aa (aT (gL (σ := Nat × Int) (inl [4, 5, 8, 9, 28, 29, 30, 31, 32, 33, 34, 35, 36, 37, 38, 39]) (fun ⟨k4, i5⟩ => [(28, (.int .i64 (i5)))]) (fun ⟨k4, i5⟩ w => SH w0 M BE w (hset [(1, .sr (qV aL) va a), (2, .sr aL vb b)]) ∧ i5 = (k4 : Int) ∧ each (pK a) (mK N a b) (b.drop k4) () = some r) (fun ⟨k4, i5⟩ => b.length - k4) ⟨0, 0⟩ ⟨rfl, trivial⟩ ?_ ?_)))))))))))
 exact ⟨h.cn _, rfl, hs⟩
 rintro ⟨k4, i5⟩ w dD ⟨h, hik, hs⟩
 refine ai (ag ?_)
 refine ae (dS rfl rfl) (ah (aa ?_))
 refine ai (iy rfl (fun e9 => ?_) (fun e9 => ?_))
 refine aG (aa ?_)
 obtain ⟨x6, e10a, e10b⟩ := gy (hik ▸ e9)
 rw [e10b, dP] at hs
 generalize hnx8 : each (pK a) (mK N a b) (b.drop (k4 + 1)) = nx8 at hs
 have e10r := gD ((h.iw 2 rfl)).bZ hik e9
 refine ai (aT (ai (ag ?_)))
 obtain ⟨b12, o13, Zp, h, WX, i11⟩ := h.yE 2 3 rfl bR rfl (iQ hik) (gB hik e10a)
 obtain rfl := WX
 refine ae (i11 _ _ _ _ _ _ _ _ _ rfl rfl) (ae (ji (k := 0) (vs := [(.int .i64 (x6.kind)), (.int .i64 (x6.n))]) h 3 rfl bT rfl rfl rfl (Nat.le_of_ble_eq_true rfl)) (bW h 4 bT fun w b16 h => dA (vs := [(.int .i64 (x6.kind)), (.int .i64 (x6.n))]) h 4 [(.int .i64 (x6.kind)), (.int .i64 (x6.n))] rfl bT rfl rfl rfl rfl rfl (ax rfl (ax rfl bu)) fun w h => ah (aa (ai (ag (ae (dz (vs := [(.int .i64 (x6.kind)), (.int .i64 (x6.n))]) h 4 rfl bT rfl rfl rfl) (ae (au (v := va) rfl) (ae (bU eY rfl (h.iw 1 rfl)) (bA L8 rfl rfl (yZ _ _ h.lt x6 (a.length : Int) _ rfl) ?_)))))))))
 rintro _ w ⟨k17, rfl⟩
 refine ⟨_, rfl, ?_⟩
 replace h := h.grow k17
 refine ae (aj (v := (.int .i64 ((cK x6 (a.length : Int))))) rfl) (ah (aa (ai (ag (ae (au (v := (.int .i64 ((cK x6 (a.length : Int))))) rfl) (ae (iA rfl rfl) (ah (aa (aK hs rfl (fun c18 hs => ?_) (fun c18 hs => ?_))))))))))
 refine ai (ag (ae (au (v := (.int .i64 ((cK x6 (a.length : Int))))) rfl) (ae (aj (v := (.slice none 0 0)) rfl) (ae (aj (v := (.int .i64 ((cK x6 (a.length : Int))))) rfl) (ah (aa (aI (aH (aC (aC (aH (aC (Dm (v1 := (.slice none 0 0)) (v2 := (.int .i64 ((cK x6 (a.length : Int))))) Tryz.results48 rfl rfl ?_)))))))))))))
 obtain rfl := Option.some.inj hs
 exact ⟨h.grown, _, rfl, dU.nil, lM⟩
 refine aG (aA (aa (ag (ae (dC rfl rfl e10r) (ae (au (v := (.int .i64 ((i5 + 1)))) rfl) (ah (az ?_)))))))
 subst hnx8
 exact jN ⟨k4 + 1, i5 + 1⟩ ⟨h.cn _, by omega, hs⟩ (by have := of_decide_eq_true e9; dsimp only; omega)
 rw [gz (hik ▸ e9), gU] at hs
 refine df (aO (aO (bF (aa (ai (ag (Av h 5 fun w b19 h => oQ h 6 Dy fun w b20 h => fw h 6 [(.map (some b19))] rfl Dy rfl rfl rfl rfl rfl fun w h => ah (aa (ai (ag (oQ h 7 uo fun w He h => ah (aa (ai (ag (ae (qN (c1 := []) (c2 := [(.pointer (some ⟨b20, 0, none⟩)), (.pointer (some ⟨He, 0, none⟩))]) rfl rfl) (ae (aj (v := (.func (.func 82) #[] #[(.pointer (some ⟨b20, 0, none⟩)), (.pointer (some ⟨He, 0, none⟩))])) rfl) (ah (aa (ai ?_)))))))))))))))))))
 refine ai (ag (ae (au (v := vb) rfl) (ae (bU bR rfl (h.iw 2 rfl)) (ae (au (v := (.int .i64 (0))) rfl) (ah (aa (aT ?_)))))))
 replace h := h.yF (R := fH) (E := 3) 11
 refine gL (σ := Nat × Int × Value × List Int × List (Int × Bool)) (inl [14, 44, 45, 46, 47, 48, 49, 50, 51]) (fun ⟨KS, i35, v31, y32, LC⟩ => [(44, (.int .i64 (i35)))]) (fun ⟨KS, i35, v31, y32, LC⟩ w => SH w0 M BE w (hset [(1, .sr (qV aL) va a), (2, .sr aL vb b), (5, .mp b19 (List.map (fun p => (p.1, (fun x => Value.bool x) p.2)) LC)), (6, .blk b20 [(.map (some b19))]), (7, .blk He [v31]), (11, .own fH 3 v31 y32)]) ∧ i35 = (KS : Int) ∧ each pJ (sK N a) (b.drop KS) (y32, LC) = some r) (fun ⟨KS, i35, v31, y32, LC⟩ => b.length - KS) ⟨0, 0, (.slice none 0 0), [], ([] : List (Int × Bool))⟩ ⟨rfl, trivial⟩ ?_ ?_
 exact ⟨h.cn _, rfl, hs⟩
 rintro ⟨KS, i35, v31, y32, LC⟩ w dD ⟨h, hik, hs⟩
 refine ai (ag ?_)
 refine ae (dS rfl rfl) (ah (aa ?_))
 refine ai (iy rfl (fun e39 => ?_) (fun e39 => ?_))
 refine aG (aa ?_)
 obtain ⟨rV, WS, WT⟩ := gy (hik ▸ e39)
 rw [WT, dP] at hs
 generalize RI : each pJ (sK N a) (b.drop (KS + 1)) = JM at hs
 have WU := gD ((h.iw 2 rfl)).bZ hik e39
 refine bY (σ := Value × List Int × List (Int × Bool)) (inl [14, 46, 47, 48, 49, 50]) (fun ⟨v41, vY, yT⟩ => []) (fun ⟨v41, vY, yT⟩ w => SH w0 M BE w (hset [(1, .sr (qV aL) va a), (2, .sr aL vb b), (5, .mp b19 (List.map (fun p => (p.1, (fun x => Value.bool x) p.2)) yT)), (6, .blk b20 [(.map (some b19))]), (7, .blk He [v41]), (11, .own fH 3 v41 vY)]) ∧ sI JM vY yT = some r) ?_ ?_
 rintro ⟨v41, vY, yT⟩ w dD ⟨h, hs⟩
 refine ag (ae (dC rfl rfl WU) (ae (au (v := (.int .i64 ((i35 + 1)))) rfl) (ah (az ?_))))
 subst RI
 exact jN ⟨KS + 1, i35 + 1, v41, vY, yT⟩ ⟨h.cn _, by omega, hs⟩ (by have := of_decide_eq_true e39; dsimp only; omega)
 refine aT (ai (ag ?_))
 obtain ⟨Tk, o46, cs47, h, r48, i44⟩ := h.yE 2 12 rfl bR rfl (iQ hik) (gB hik WS)
 obtain rfl := r48
 refine ae (i44 _ _ _ _ _ _ _ _ _ rfl rfl) (ae (ji (k := 0) (vs := [(.int .i64 (rV.kind)), (.int .i64 (rV.n))]) h 12 rfl bT rfl rfl rfl (Nat.le_of_ble_eq_true rfl)) (bW h 13 bT fun w b49 h => dA (vs := [(.int .i64 (rV.kind)), (.int .i64 (rV.n))]) h 13 [(.int .i64 (rV.kind)), (.int .i64 (rV.n))] rfl bT rfl rfl rfl rfl rfl (ax rfl (ax rfl bu)) fun w h => ah (aa (ag (ae (au (v := (.func (.func 82) #[] #[(.pointer (some ⟨b20, 0, none⟩)), (.pointer (some ⟨He, 0, none⟩))])) rfl) (ae (dz (vs := [(.int .i64 (rV.kind)), (.int .i64 (rV.n))]) h 13 rfl bT rfl rfl rfl) (jl (args := [(.agg #[(.int .i64 (rV.kind)), (.int .i64 (rV.n))]), (.pointer (some ⟨b20, 0, none⟩)), (.pointer (some ⟨He, 0, none⟩))]) QS rfl rfl (aQ (args := [(.agg #[(.int .i64 (rV.kind)), (.int .i64 (rV.n))]), (.pointer (some ⟨b20, 0, none⟩)), (.pointer (some ⟨He, 0, none⟩))]) Tryz.func82 rfl Tryz.ntmps82 (Nat.le_of_ble_eq_true rfl) (ai (ag (nX (cs := [(.int .i64 (rV.kind)), (.int .i64 (rV.n))]) h 14 rfl rfl fun w b50 h => ah (aa (ai (ag (ae (ak rR rfl) (ae (aF h 14 rfl bz rfl rfl) (ae (bH rfl rfl) (ae (au (v := (.bool (decide ((rV.kind : Int) = 2)))) rfl) (aD rfl rfl (fun q => aF h 6 rfl Dy rfl rfl) (aD rfl rfl (fun q => ak ik rfl) ?_))))))))))))))))))))
 refine aD rfl rfl (fun q => aF h 14 rfl bz (dx q) rfl) (aD rfl rfl (fun q => UX (f := (fun x => Value.bool x)) (zz := false) LC h 5 rfl CF (dx q) (dx q) rfl rfl) (aD rfl rfl (fun q => gP (dx q)) (ae (fT rfl rfl lQ) (ah (aa (aK hs rfl (fun c51 hs => ?_) (fun c51 hs => ?_)))))))
 refine ai (ag (ae (aF h 6 rfl Dy rfl rfl) (ae (ak ik rfl) (ae (aF h 14 rfl bz rfl rfl) (zL (oK := (List.map (fun p => (p.1, (fun x => Value.bool x) p.2)) (yN rV.n true LC))) h 5 rfl CF rfl rfl rfl (AB (f := (fun x => Value.bool x)) _) fun w h => ah (aa (ag (ae (aF h 7 rfl uo rfl rfl) (ae (ak ik rfl) (ae (aF h 14 rfl bz rfl rfl) (sZ (R := fH) (vs := [(.int .i64 (rV.n))]) (xs := [rV.n]) h 15 kg rfl rfl rfl ⟨rfl, trivial⟩ rfl fun w U6 h => ?_)))))))))))
 obtain ⟨a53, hs⟩ := bI hs
 refine mf (R := fH) (m := [rV.n]) h 11 rfl (h.ed 15 rfl) kg rfl rfl rfl a53.1 a53.2 fun w RA h => fw h 7 [RA] rfl uo rfl rfl rfl rfl (h.dG 11 rfl).one fun w h => ah (HV Tryz.results82 (⟨_, rfl, ?_⟩))
 refine ah (aA (az ?_))
 exact bS (RA, (y32 ++ [rV.n]), (yN rV.n true LC)) ⟨h.cn _, hs⟩
 refine aG (HV Tryz.results82 (⟨_, rfl, ?_⟩))
 refine ah (aA (az ?_))
 exact bS (v31, y32, LC) ⟨h.cn _, hs⟩
 rw [gz (hik ▸ e39), gU] at hs
 refine df (aO (aO (bF (aa (ai (ai (ag (ae (aj (v := (.int .i64 (0))) rfl) (ah (aa (aT (gL (σ := Nat × Int × Value × List Int × List (Int × Bool)) (inl [15, 17, 52, 53, 54, 55, 56, 57, 58, 59, 60, 61, 62, 63, 64, 65, 66, 67, 68, 69, 70, 71, 72, 73]) (fun ⟨WW, Gf, v68, AQ, wH⟩ => [(15, (.int .i64 (Gf)))]) (fun ⟨WW, Gf, v68, AQ, wH⟩ w => SH w0 M BE w (hset [(1, .sr (qV aL) va a), (5, .mp b19 (List.map (fun p => (p.1, (fun x => Value.bool x) p.2)) wH)), (6, .blk b20 [(.map (some b19))]), (7, .blk He [v68]), (11, .own fH 3 v68 AQ)]) ∧ again (kW a) WW (Gf, AQ, wH) = some r) (fun ⟨WW, Gf, v68, AQ, wH⟩ => WW) ⟨N, 0, v31, y32, LC⟩ ⟨rfl, trivial⟩ ?_ ?_))))))))))))
 exact ⟨h.cn _, hs⟩
 rintro ⟨WW, Gf, v68, AQ, wH⟩ w dD ⟨h, hs⟩
 obtain ⟨Zq, m74e, m74h⟩ := qW hs
 subst m74e
 replace hs := m74h
 generalize Zr : again (kW a) Zq = KY at hs
 refine ai (ai (ag (ae (au (v := (.int .i64 (Gf))) rfl) (ae (aF h 7 rfl uo rfl rfl) (ae (bU dh rfl (h.ed 11 rfl)) (ae (dS rfl rfl) (ah (aa (aK hs rfl (fun c78 hs => ?_) (fun c78 hs => ?_))))))))))
 refine aG (aa (ai (aT (ai (ag (ae (au (v := va) rfl) (ae (aF h 7 rfl uo rfl rfl) (ae (au (v := (.int .i64 (Gf))) rfl) ?_))))))))
 obtain ⟨x79, WY, hs⟩ := aP hs
 obtain ⟨b82, q83, i81⟩ := h.vN 11 rfl dh rfl (aJ WY).1 (aJ WY).2
 refine ae (i81 _ _ _ _ _ _ _ _ _ rfl rfl) ?_
 obtain ⟨cs84, m85, r86⟩ := h.yx 11 rfl q83 (aJ WY).2
 obtain rfl := r86
 refine ae (oJ (k := 0) m85 bz rfl rfl) ?_
 obtain ⟨x87, WZ, hs⟩ := aP hs
 obtain ⟨b90, o91, cs92, h, r93, i89⟩ := h.yE 1 16 rfl eY rfl (aJ WZ).1 (aJ WZ).2
 obtain ⟨u94, rfl, g95⟩ := r93
 replace h := h.cO 17 g95.up
 refine ae (i89 _ _ _ _ _ _ _ _ _ rfl rfl) (ae (ek (k := 0) h 16 rfl mr rfl rfl) (ae (bU bR rfl (h.lY 17 rfl)) (ae (au (v := (.int .i64 (0))) rfl) (ah (aa (aT (gL (σ := Nat × Int × Value × List Int × List (Int × Bool)) (inl [17, 66, 67, 68, 69, 70, 71, 72, 73]) (fun ⟨Hg, i109, v105, gq, om⟩ => [(66, (.int .i64 (i109)))]) (fun ⟨Hg, i109, v105, gq, om⟩ w => SH w0 M BE w (hset [(1, .sr (qV aL) va a), (5, .mp b19 (List.map (fun p => (p.1, (fun x => Value.bool x) p.2)) om)), (6, .blk b20 [(.map (some b19))]), (7, .blk He [v105]), (11, .own fH 3 v105 gq), (17, .rd aL u94 x87)]) ∧ i109 = (Hg : Int) ∧ each mI (mJ Gf KY) (x87.drop Hg) (gq, om) = some r) (fun ⟨Hg, i109, v105, gq, om⟩ => x87.length - Hg) ⟨0, 0, v68, AQ, wH⟩ ⟨rfl, trivial⟩ ?_ ?_)))))))
 exact ⟨h.cn _, rfl, hs⟩
 rintro ⟨Hg, i109, v105, gq, om⟩ w dD ⟨h, hik, hs⟩
 refine ai (ag ?_)
 refine ae (dS rfl rfl) (ah (aa ?_))
 refine ai (iy rfl (fun RY => ?_) (fun RY => ?_))
 refine aG (aa ?_)
 obtain ⟨tC, Zt, Zu⟩ := gy (hik ▸ RY)
 rw [Zu, dP] at hs
 generalize W9 : each mI (mJ Gf KY) (x87.drop (Hg + 1)) = Iq at hs
 have Zv := gD ((h.lY 17 rfl)).bZ hik RY
 refine bY (σ := Value × List Int × List (Int × Bool)) (inl [17, 68, 69, 70, 71, 72]) (fun ⟨RZ, MM, DV⟩ => []) (fun ⟨RZ, MM, DV⟩ w => SH w0 M BE w (hset [(1, .sr (qV aL) va a), (5, .mp b19 (List.map (fun p => (p.1, (fun x => Value.bool x) p.2)) DV)), (6, .blk b20 [(.map (some b19))]), (7, .blk He [RZ]), (11, .own fH 3 RZ MM), (17, .rd aL u94 x87)]) ∧ sJ Iq MM DV = some r) ?_ ?_
 rintro ⟨RZ, MM, DV⟩ w dD ⟨h, hs⟩
 refine ag (ae (dC rfl rfl Zv) (ae (au (v := (.int .i64 ((i109 + 1)))) rfl) (ah (az ?_))))
 subst W9
 exact jN ⟨Hg + 1, i109 + 1, RZ, MM, DV⟩ ⟨h.cn _, by omega, hs⟩ (by have := of_decide_eq_true RY; dsimp only; omega)
 refine aT (ai (ag ?_))
 obtain ⟨b119, o120, cs121, h, r122, i118⟩ := h.Dl 17 18 rfl bR rfl (iQ hik) (gB hik Zt)
 obtain rfl := r122
 refine ae (i118 _ _ _ _ _ _ _ _ _ rfl rfl) (ae (ji (k := 0) (vs := [(.int .i64 (tC.kind)), (.int .i64 (tC.n))]) h 18 rfl bT rfl rfl rfl (Nat.le_of_ble_eq_true rfl)) (bW h 19 bT fun w b123 h => dA (vs := [(.int .i64 (tC.kind)), (.int .i64 (tC.n))]) h 19 [(.int .i64 (tC.kind)), (.int .i64 (tC.n))] rfl bT rfl rfl rfl rfl rfl (ax rfl (ax rfl bu)) fun w h => ah (aa (ag (ae (au (v := (.func (.func 82) #[] #[(.pointer (some ⟨b20, 0, none⟩)), (.pointer (some ⟨He, 0, none⟩))])) rfl) (ae (dz (vs := [(.int .i64 (tC.kind)), (.int .i64 (tC.n))]) h 19 rfl bT rfl rfl rfl) (jl (args := [(.agg #[(.int .i64 (tC.kind)), (.int .i64 (tC.n))]), (.pointer (some ⟨b20, 0, none⟩)), (.pointer (some ⟨He, 0, none⟩))]) QS rfl rfl (aQ (args := [(.agg #[(.int .i64 (tC.kind)), (.int .i64 (tC.n))]), (.pointer (some ⟨b20, 0, none⟩)), (.pointer (some ⟨He, 0, none⟩))]) Tryz.func82 rfl Tryz.ntmps82 (Nat.le_of_ble_eq_true rfl) (ai (ag (nX (cs := [(.int .i64 (tC.kind)), (.int .i64 (tC.n))]) h 20 rfl rfl fun w b124 h => ah (aa (ai (ag (ae (ak rR rfl) (ae (aF h 20 rfl bz rfl rfl) (ae (bH rfl rfl) (ae (au (v := (.bool (decide ((tC.kind : Int) = 2)))) rfl) (aD rfl rfl (fun q => aF h 6 rfl Dy rfl rfl) (aD rfl rfl (fun q => ak ik rfl) ?_))))))))))))))))))))
 refine aD rfl rfl (fun q => aF h 20 rfl bz (dx q) rfl) (aD rfl rfl (fun q => UX (f := (fun x => Value.bool x)) (zz := false) om h 5 rfl CF (dx q) (dx q) rfl rfl) (aD rfl rfl (fun q => gP (dx q)) (ae (fT rfl rfl lQ) (ah (aa (aK hs rfl (fun qQ hs => ?_) (fun qQ hs => ?_)))))))
 refine ai (ag (ae (aF h 6 rfl Dy rfl rfl) (ae (ak ik rfl) (ae (aF h 20 rfl bz rfl rfl) (zL (oK := (List.map (fun p => (p.1, (fun x => Value.bool x) p.2)) (yN tC.n true om))) h 5 rfl CF rfl rfl rfl (AB (f := (fun x => Value.bool x)) _) fun w h => ah (aa (ag (ae (aF h 7 rfl uo rfl rfl) (ae (ak ik rfl) (ae (aF h 20 rfl bz rfl rfl) (sZ (R := fH) (vs := [(.int .i64 (tC.n))]) (xs := [tC.n]) h 21 kg rfl rfl rfl ⟨rfl, trivial⟩ rfl fun w u126 h => ?_)))))))))))
 obtain ⟨a127, hs⟩ := bI hs
 refine mf (R := fH) (m := [tC.n]) h 11 rfl (h.ed 21 rfl) kg rfl rfl rfl a127.1 a127.2 fun w Zw h => fw h 7 [Zw] rfl uo rfl rfl rfl rfl (h.dG 11 rfl).one fun w h => ah (HV Tryz.results82 (⟨_, rfl, ?_⟩))
 refine ah (aA (az ?_))
 exact bS (Zw, (gq ++ [tC.n]), (yN tC.n true om)) ⟨h.cn _, hs⟩
 refine aG (HV Tryz.results82 (⟨_, rfl, ?_⟩))
 refine ah (aA (az ?_))
 exact bS (v105, gq, om) ⟨h.cn _, hs⟩
 rw [gz (hik ▸ RY), gU] at hs
 refine df (aO (aO (bF (aA (aa (ag (ae (au (v := (.int .i64 (Gf))) rfl) ?_)))))))
 obtain ⟨a129, hs⟩ := bI hs
 refine ae (dC rfl rfl a129) (ae (aj (v := (.int .i64 ((Gf + 1)))) rfl) (ah (az ?_)))
 subst Zr
 exact jN ⟨Zq, (Gf + 1), v105, gq, om⟩ ⟨h.cn _, hs⟩
 refine df (aO (aO (bF (aa (ai (ag (ae (aF h 7 rfl uo rfl rfl) (ae (aj (v := v68) rfl) (ae (aj (v := (.int .i64 (0))) rfl) (ah (aa (aI (Dm (v1 := v68) (v2 := (.int .i64 (0))) Tryz.results48 rfl rfl ?_)))))))))))))
 obtain rfl := Option.some.inj hs
 exact ⟨h.grown, _, rfl, (h.mg 11 rfl).1, (h.mg 11 rfl).2⟩
def Ba (Fp : List Val → Option (List Val)) (vX : List Val) : Option (List Val) :=
  Fp vX
def Bb (mL : List (Int × Int)) (i6 : Int) (x4 : List Val) (Fp : List Val → Option (List Val)) : Option (List Val) :=
  (idx x4 i6).bind fun CW => bif decide ((CW.kind : Int) = 2) then Ba Fp (x4.set (i6).toNat { CW with n := ((lk CW.n mL).getD (0 : Int)) }) else Ba Fp x4
def DW (x4 : List Val) : Option (List Val) :=
  some x4
def Gg (sx : List Val) (mL : List (Int × Int)) : Option (List Val) :=
  upto (Bb mL) DW 0 ((sx.length : Int)).toNat sx
theorem KZ (w0 : World) (M : BS) (hM : ∀ b, M b → b < w0.heap.size) (bq bm : Nat) (sv : Value) (sx : List Val) (hC : Chunk.holds w0 M (Chunk.own' (.own aL 51 sv sx : Chunk)) (.own aL 51 sv sx : Chunk)) (hap : ∀ b, Chunk.own' (.own aL 51 sv sx : Chunk) b → ¬ M b) (mL : List (Int × Int)) (hbm : vk w0 bm (List.map (fun p => (p.1, (fun x => Value.int .i64 x) p.2)) mL)) (nbm : ¬ Chunk.own' (.own aL 51 sv sx : Chunk) bm) (hbq : ∃ E, w0.heap[bq]? = some (.cells #[(.map (some bm))] E (0, 0))) (nbq : ¬ Chunk.own' (.own aL 51 sv sx : Chunk) bq) (r : List Val) (hs : Gg sx mL = some r) :
    Calls Tryz.prog 50 #[sv, (.pointer (some ⟨bq, 0, none⟩))] w0 (fun e w' => aS (Chunk.own' (.own aL 51 sv sx : Chunk)) w0 w' ∧ e = .returned (.tuple #[]) ∧ Chunk.holds w' M (Chunk.own' (.own aL 51 sv r : Chunk)) (.own aL 51 sv r : Chunk) ∧ (∀ b, Chunk.own' (.own aL 51 sv r : Chunk) b → b < w0.heap.size → Chunk.own' (.own aL 51 sv sx : Chunk) b)) := by
 refine aQ (args := [sv, (.pointer (some ⟨bq, 0, none⟩))]) Tryz.func50 rfl Tryz.ntmps50 (Nat.le_of_ble_eq_true rfl) ?_
 have h := SH.ED hM hC hap
 replace h := h.yM 3 (cs := [(.map (some bm))]) hbq nbq zw
 have nbqK := nbq
 have Zx := nbm
 generalize zy : (.own aL 51 sv sx : Chunk).own' = K0 at h nbqK Zx
 refine ai (ag (ae (au (v := sv) rfl) (ae (bU bR rfl (h.ed 1 rfl)) (ae (au (v := (.int .i64 (0))) rfl) (ah (aa (aT ?_)))))))
 have hli6 := (h.ed 1 rfl).bZ
 refine gL (σ := Nat × Int × List Val) (inl [3, 4, 7, 8, 9, 10, 11, 12, 13, 14, 15, 16, 17, 18, 19, 20, 21, 22, 23]) (fun ⟨k5, i6, x4⟩ => [(7, (.int .i64 (i6)))]) (fun ⟨k5, i6, x4⟩ w => SH w0 M K0 w (hset [(1, .own aL 51 sv x4), (2, .no), (3, .pt bq 0 [(.map (some bm))])]) ∧ i6 = (k5 : Int) ∧ upto (Bb mL) DW i6 (((sx.length : Int)).toNat - k5) x4 = some r) (fun ⟨k5, i6, x4⟩ => ((sx.length : Int)).toNat - k5) ⟨0, 0, sx⟩ ⟨rfl, trivial⟩ ?_ ?_
 exact ⟨h.cn _, rfl, hs⟩
 rintro ⟨k5, i6, x4⟩ w dD ⟨h, hik, hs⟩
 refine ai (ag ?_)
 refine ae (dS rfl rfl) (ah (aa ?_))
 refine ai (iy rfl (fun e10 => ?_) (fun e10 => ?_))
 refine aG (aa ?_)
 rw [tO (by have := of_decide_eq_true e10; omega)] at hs
 generalize Q7 : upto (Bb mL) DW (i6 + 1) (((sx.length : Int)).toNat - (k5 + 1)) = Fp at hs
 have Q8 : jB (i6 + 1) := (by have := of_decide_eq_true e10; have := hli6; exact jB.mk (by omega) (by omega))
 refine bY (σ := List Val) (inl [3, 4, 9, 10, 11, 12, 13, 14, 15, 16, 17, 18, 19, 20, 21, 22]) (fun vX => []) (fun vX w => SH w0 M K0 w (hset [(1, .own aL 51 sv vX), (2, .no), (3, .pt bq 0 [(.map (some bm))])]) ∧ Ba Fp vX = some r) ?_ ?_
 rintro vX w dD ⟨h, hs⟩
 refine ag (ae (dC rfl rfl Q8) (ae (au (v := (.int .i64 ((i6 + 1)))) rfl) (ah (az ?_))))
 subst Q7
 exact jN ⟨k5 + 1, i6 + 1, vX⟩ ⟨h.cn _, by omega, hs⟩ (by have := of_decide_eq_true e10; dsimp only; omega)
 refine aT (ai (ag (ae (au (v := (.int .i64 (i6))) rfl) ?_)))
 obtain ⟨CW, e14, hs⟩ := aP hs
 obtain ⟨b16, q17, i15⟩ := h.vN 1 rfl bR rfl (aJ e14).1 (aJ e14).2
 refine ae (i15 _ _ _ _ _ _ _ _ _ rfl rfl) ?_
 obtain ⟨cs18, m19, Rm⟩ := h.yx 1 rfl q17 (aJ e14).2
 obtain rfl := Rm
 refine ae (ou (k := 0) (vs := [(.int .i64 (CW.kind)), (.int .i64 (CW.n))]) m19 bT rfl rfl rfl (Nat.le_of_ble_eq_true rfl)) (bW h 4 bT fun w He h => ae (aj (v := (.int .i64 (i6))) rfl) (dA (vs := [(.int .i64 (CW.kind)), (.int .i64 (CW.n))]) h 4 [(.int .i64 (CW.kind)), (.int .i64 (CW.n))] rfl bT rfl rfl rfl rfl rfl (ax rfl (ax rfl bu)) fun w h => ah (aa (ai (ag (ae (ak rR rfl) (ae (aF h 4 rfl bz rfl rfl) (ae (bH rfl rfl) (ah (aa (aK hs rfl (fun Zf hs => ?_) (fun Zf hs => ?_))))))))))))
 refine ag (ae (au (v := sv) rfl) (ae (au (v := (.int .i64 (i6))) rfl) (ae (ek (k := 0) h 3 rfl NK rfl rfl) (ae (ak ik rfl) (ae (aF h 4 rfl bz rfl rfl) (ae (VO (f := (fun x => Value.int .i64 x)) (zz := (0 : Int)) mL ((hbm).keep h.keep Zx) NJ rfl rfl rfl) ?_))))))
 obtain ⟨XO, q25, i23⟩ := h.vN 1 rfl bR rfl (aJ e14).1 (aJ e14).2
 refine ae (i23 _ _ _ _ _ _ _ _ _ rfl rfl) (ae (ak ik rfl) (HZ (a' := { CW with n := ((lk CW.n mL).getD (0 : Int)) }) h 1 rfl q25 rfl (aJ e14).2 bz rfl rfl rfl rfl (by rintro _ rfl; rfl) fun w h => ah (aA (az ?_))))
 exact bS (x4.set (i6).toNat { CW with n := ((lk CW.n mL).getD (0 : Int)) }) ⟨h.cn _, hs⟩
 refine aG (aA (az ?_))
 exact bS x4 ⟨h.cn _, hs⟩
 rw [tQ (by have := of_decide_eq_false e10; omega)] at hs
 refine df (aO (aO (bF (HV Tryz.results50 ?_))))
 obtain rfl := Option.some.inj hs
 subst zy
 obtain ⟨o1, o2, o3⟩ := h.qp 1 (C := (.own aL 51 sv x4 : Chunk)) rfl trivial
 exact ⟨o2, rfl, o1, o3⟩
def uN (yB : List (Int × Int)) (i127 : Int) (CX : List (List Val)) (Vb : List (List Val) → Option LX.State) : Option LX.State :=
  (idx CX i127).bind fun BD => (Gg BD yB).bind fun R3 => Vb (CX.set (i127).toNat R3)
def vI (DC : List LX.Frame) (sU : LX.State) (CX : List (List Val)) : Option LX.State :=
  some (⟨DC, CX, sU.status, sU.aV⟩ : LX.State)
def sM (yB : List (Int × Int)) (i99 : Int) (DC : List LX.Frame) (Vd : List LX.Frame → Option LX.State) : Option LX.State :=
  (idx DC i99).bind fun x105 => (Gg x105.regs yB).bind fun DV => Vd (DC.set (i99).toNat ({ x105 with regs := DV }))
def vJ (yB : List (Int × Int)) (sU : LX.State) (pz : List (List Val)) (DC : List LX.Frame) : Option LX.State :=
  upto (uN yB) (vI DC sU) 0 ((pz.length : Int)).toNat pz
def nQ (sU : LX.State) (i67 : Int) (R4 : Int) (s : List (List Val) × List Int × List (Int × Int)) (Zy : List (List Val) × List Int × List (Int × Int) → Option LX.State) : Option LX.State :=
  match s with | (pz, G7, yB) => (idx sU.cells R4).bind fun Ve => gQ (R4 ∉ G7) (gQ (Room 24 pz [Ve]) (Zy ((pz ++ [Ve]), (G7 ++ [R4]), (yN R4 i67 yB))))
def qg (sU : LX.State) (s : List (List Val) × List Int × List (Int × Int)) : Option LX.State :=
  match s with | (pz, G7, yB) => upto (sM yB) (vJ yB sU pz) 0 ((sU.frames.length : Int)).toNat sU.frames
def qh (CW : LX.Frame) (zB : List Val) (Zz : List Val → Option LX.State) : Option LX.State :=
  gQ (Room 16 zB CW.regs) (Zz (zB ++ CW.regs))
def vK (N : Nat) (a : LX.State) (zB : List Val) : Option LX.State :=
  (zg N a.cells zB).bind fun y28 => bif decide ((y28.2 : Int) ≠ 0) then none else (zf a).bind fun sU => eO (nQ sU) (qg sU) 0 y28.1 ([], ([] : List Int), ([] : List (Int × Int)))
def CY (N : Nat) (a : LX.State) : Option LX.State :=
  each qh (vK N a) a.frames []
theorem MN (N : Nat) (w0 : World) (M : BS) (hM : ∀ b, M b → b < w0.heap.size) (a : LX.State) (Ck CS : Value) (ha0 : gp gu w0 BE M Ck a.frames) (ha1 : gp (qV aL) w0 BE M CS a.cells) (r : LX.State) (hs : CY N a = some r) :
    Calls Tryz.prog 20 #[(.agg #[Ck, CS, (.int .i64 (a.status)), (.int .i64 (a.aV))])] w0 (fun e w' => Grow w0 w' ∧ ∃ wm, ∃ zC, ∃ xX, ∃ DT, e = .returned (.agg #[wm, zC, .int .i64 r.status, .int .i64 r.aV]) ∧ Chunk.holds w' M (Chunk.own' ((.two (.two (.two (.own aB.raw 49 wm (List.zip r.frames xX)) (.bL (aR aL 51 hn xX (List.map aB.sub r.frames)))) (.own (aU Val).raw 47 zC (List.zip r.cells DT))) (.bL (aR aL 51 hn DT (List.map (aU Val).sub r.cells)))) : Chunk)) ((.two (.two (.two (.own aB.raw 49 wm (List.zip r.frames xX)) (.bL (aR aL 51 hn xX (List.map aB.sub r.frames)))) (.own (aU Val).raw 47 zC (List.zip r.cells DT))) (.bL (aR aL 51 hn DT (List.map (aU Val).sub r.cells)))) : Chunk) ∧ (∀ b, Chunk.own' ((.two (.two (.two (.own aB.raw 49 wm (List.zip r.frames xX)) (.bL (aR aL 51 hn xX (List.map aB.sub r.frames)))) (.own (aU Val).raw 47 zC (List.zip r.cells DT))) (.bL (aR aL 51 hn DT (List.map (aU Val).sub r.cells)))) : Chunk) b → w0.heap.size ≤ b)) := by
 refine aQ (args := [(.agg #[Ck, CS, (.int .i64 (a.status)), (.int .i64 (a.aV))])]) Tryz.func20 rfl Tryz.ntmps20 (Nat.le_of_ble_eq_true rfl) ?_
 have h := SH.init hM
 replace h := h.fC 1 ha0 bJ
 replace h := h.fC 2 ha1 (di bJ)
 refine ai (ag (nX (cs := [Ck, CS, (.int .i64 (a.status)), (.int .i64 (a.aV))]) h 3 rfl rfl fun w b1 h => bW h 4 cZ fun w b2 h => ah (aa (ai (ag (ae (aj (v := (.slice none 0 0)) rfl) (ah (aa (ai (ai (ag (ae (ak eH rfl) (ae (aF h 3 rfl iR rfl rfl) (ae (bU dw rfl (h.iw 1 rfl)) (ae (au (v := (.int .i64 (0))) rfl) (ah (aa (aT ?_))))))))))))))))))
 replace h := h.yF (R := aL) (E := 51) 8
 refine gL (σ := Nat × Int × Value × List Val) (inl [3, 5, 20, 21, 22, 23, 24, 25, 26, 27, 28]) (fun ⟨k11, i12, v9, zB⟩ => [(3, v9), (20, (.int .i64 (i12)))]) (fun ⟨k11, i12, v9, zB⟩ w => SH w0 M BE w (hset [(1, .sr gu Ck a.frames), (2, .sr (qV aL) CS a.cells), (3, .blk b1 [Ck, CS, (.int .i64 (a.status)), (.int .i64 (a.aV))]), (4, .blk b2 [(.slice none 0 0), (.slice none 0 0), (.int .i64 (0)), (.int .i64 (0))]), (8, .own aL 51 v9 zB)]) ∧ i12 = (k11 : Int) ∧ each qh (vK N a) (a.frames.drop k11) zB = some r) (fun ⟨k11, i12, v9, zB⟩ => a.frames.length - k11) ⟨0, 0, (.slice none 0 0), []⟩ ⟨rfl, rfl, trivial⟩ ?_ ?_
 exact ⟨h.cn _, rfl, hs⟩
 rintro ⟨k11, i12, v9, zB⟩ w dD ⟨h, hik, hs⟩
 refine ai (ag ?_)
 refine ae (dS rfl rfl) (ah (aa ?_))
 refine ai (iy rfl (fun e16 => ?_) (fun e16 => ?_))
 refine aG (aa ?_)
 obtain ⟨CW, e17a, e17b⟩ := gy (hik ▸ e16)
 rw [e17b, dP] at hs
 generalize ZA : each qh (vK N a) (a.frames.drop (k11 + 1)) = Zz at hs
 have e17r := gD ((h.iw 1 rfl)).bZ hik e16
 refine ai (aT (ai (ag ?_)))
 obtain ⟨b19, o20, Xa, h, Xb, i18⟩ := h.yE 1 9 rfl dw rfl (iQ hik) (gB hik e17a)
 obtain ⟨u23, rfl, g24⟩ := ui Xb
 replace h := h.cO 10 g24.up
 refine ae (i18 _ _ _ _ _ _ _ _ _ rfl rfl) (ae (ji (k := 0) (vs := [(.int .i64 (CW.proc)), (.int .i64 (CW.at_)), u23, (.int .i64 (CW.l6))]) h 9 rfl iU rfl rfl rfl (Nat.le_of_ble_eq_true rfl)) (bW h 11 iU fun w b25 h => dA (vs := [(.int .i64 (CW.proc)), (.int .i64 (CW.at_)), u23, (.int .i64 (CW.l6))]) h 11 [(.int .i64 (CW.proc)), (.int .i64 (CW.at_)), u23, (.int .i64 (CW.l6))] rfl iU rfl rfl rfl rfl rfl (ax rfl (ax rfl (ax (h.gF 10 rfl).one (ax rfl bu)))) fun w h => ah (aa (ag (ae (au (v := v9) rfl) (ae (ak l8 rfl) (ae (aF h 11 rfl mr rfl rfl) ?_)))))))
 obtain ⟨a26, hs⟩ := bI hs
 refine mf (R := aL) (m := CW.regs) h 8 rfl (h.lY 10 rfl) uj rfl rfl rfl a26.1 a26.2 fun w u27 h => ae (aj (v := u27) rfl) (ah (aA (aa (ag (ae (dC rfl rfl e17r) (ae (au (v := (.int .i64 ((i12 + 1)))) rfl) (ah (az ?_))))))))
 subst ZA
 exact jN ⟨k11 + 1, i12 + 1, u27, (zB ++ CW.regs)⟩ ⟨h.cn _, by omega, hs⟩ (by have := of_decide_eq_true e16; dsimp only; omega)
 rw [gz (hik ▸ e16), gU] at hs
 refine df (aO (aO (bF (aa (ai (ag (ae (ak jy rfl) (ae (aF h 3 rfl og rfl rfl) (ae (au (v := v9) rfl) ?_)))))))))
 obtain ⟨y28, e29, hs⟩ := aP hs
 refine bA VY rfl rfl (JQ N _ _ h.lt CS a.cells (h.iw 2 rfl) v9 zB (h.ed 8 rfl) _ e29) ?_
 rintro _ w ⟨Te, u30, rfl, Zg, Zd⟩
 refine ⟨_, rfl, ?_⟩
 replace h := h.jM 12 Te Zg Zd
 refine ae (au (v := (.tuple #[u30, (.int .i64 (y28.2))])) rfl) (ae (bB rfl rfl) (ae (bB rfl rfl) (ae (aj (v := u30) rfl) (ae (aj (v := (.int .i64 (y28.2))) rfl) (ah (aa (ai (ai (ag (ae (au (v := (.int .i64 (y28.2))) rfl) (ae (iA rfl rfl) (ah (aa (aK hs rfl (fun c34 hs => ?_) (fun c34 hs => ?_)))))))))))))))
 refine ai (ag (ae (dz (vs := [Ck, CS, (.int .i64 (a.status)), (.int .i64 (a.aV))]) h 3 rfl cZ rfl rfl rfl) (dA (vs := [Ck, CS, (.int .i64 (a.status)), (.int .i64 (a.aV))]) h 4 [Ck, CS, (.int .i64 (a.status)), (.int .i64 (a.aV))] rfl cZ rfl rfl rfl rfl rfl (ax (h.Oh 1 rfl).one (ax (h.Oh 2 rfl).one (ax rfl (ax rfl bu)))) fun w h => ah (aa (aI (aC ?_))))))
 cases hs
 refine aG (aa (ai (ag (ae (dz (vs := [Ck, CS, (.int .i64 (a.status)), (.int .i64 (a.aV))]) h 3 rfl cZ rfl rfl rfl) ?_))))
 obtain ⟨sU, e36, hs⟩ := aP hs
 refine bA Jw rfl rfl (AY _ _ h.lt a Ck CS (h.iw 1 rfl) (h.iw 2 rfl) _ e36) ?_
 rintro _ w ⟨k43, u37, Ul, Gh, K3, rfl, h41, h42⟩
 refine ⟨_, rfl, ?_⟩
 replace h := h.LY 13 (C := (.two (.two (.two (.own aB.raw 49 u37 (List.zip sU.frames Gh)) (.bL (aR aL 51 hn Gh (List.map aB.sub sU.frames)))) (.own (aU Val).raw 47 Ul (List.zip sU.cells K3))) (.bL (aR aL 51 hn K3 (List.map (aU Val).sub sU.cells))) : Chunk)) k43 ⟨⟨⟨trivial, trivial⟩, trivial⟩, trivial⟩ h41 h42
 replace h := h.bX 13 16 (by decide) rfl rfl
 replace h := h.bX 13 15 (by decide) rfl rfl
 replace h := h.bX 13 14 (by decide) rfl rfl
 refine dA (vs := [u37, Ul, (.int .i64 (sU.status)), (.int .i64 (sU.aV))]) h 3 [u37, Ul, (.int .i64 (sU.status)), (.int .i64 (sU.aV))] rfl cZ rfl rfl rfl rfl rfl (ax (h.dG 13 rfl).one (ax (h.dG 15 rfl).one (ax rfl (ax rfl bu)))) fun w h => ah (aa (ai (ag (Av h 17 fun w O8 h => oQ h 18 NK fun w Tk h => fw h 18 [(.map (some O8))] rfl NK rfl rfl rfl rfl rfl fun w h => ah (aa (ai (ag (ae (aj (v := (.slice none 0 0)) rfl) (ah (aa (ai (ai (ag (ae (au (v := u30) rfl) (ae (bU dh rfl (h.ed 12 rfl)) (ae (au (v := (.int .i64 (0))) rfl) (ah (aa (aT ?_)))))))))))))))))))
 replace h := h.freeze 12 rfl
 replace h := h.VL 16 rfl
 replace h := h.yF (R := (aU Val).raw) (E := 47) 25
 replace h := h.VI (R := aL) (Es := 51) 26
 refine gL (σ := Nat × Int × Value × List Value × List (List Val) × List Int × List (Int × Int)) (inl [9, 10, 11, 44, 45, 46, 47, 48, 49, 50, 51, 52, 53, 54, 55, 56, 57, 58, 59, 60]) (fun ⟨Vf, i67, v61, DX, pz, G7, yB⟩ => [(9, v61), (44, (.int .i64 (i67)))]) (fun ⟨Vf, i67, v61, DX, pz, G7, yB⟩ w => SH w0 M BE w (hset [(3, .blk b1 [u37, Ul, (.int .i64 (sU.status)), (.int .i64 (sU.aV))]), (4, .blk b2 [(.slice none 0 0), (.slice none 0 0), (.int .i64 (0)), (.int .i64 (0))]), (12, .rd fH u30 y28.1), (13, .own aB.raw 49 u37 (List.zip sU.frames Gh)), (14, .bL (aR aL 51 hn Gh (List.map aB.sub sU.frames))), (15, .own (aU Val).raw 47 Ul (List.zip sU.cells K3)), (16, .bL (aR aL 51 (hmv G7) K3 (List.map (aU Val).sub sU.cells))), (17, .mp O8 (List.map (fun p => (p.1, (fun x => Value.int .i64 x) p.2)) yB)), (18, .blk Tk [(.map (some O8))]), (25, .own (aU Val).raw 47 v61 (List.zip pz DX)), (26, .bL (aR aL 51 hn DX (List.map (aU Val).sub pz)))]) ∧ i67 = (Vf : Int) ∧ eO (nQ sU) (qg sU) i67 (y28.1.drop Vf) (pz, G7, yB) = some r) (fun ⟨Vf, i67, v61, DX, pz, G7, yB⟩ => y28.1.length - Vf) ⟨0, 0, (.slice none 0 0), ([] : List Value), [], ([] : List Int), ([] : List (Int × Int))⟩ ⟨rfl, rfl, trivial⟩ ?_ ?_
 exact ⟨h.cn _, rfl, hs⟩
 rintro ⟨Vf, i67, v61, DX, pz, G7, yB⟩ w dD ⟨h, hik, hs⟩
 refine ai (ag ?_)
 refine ae (dS rfl rfl) (ah (aa ?_))
 refine ai (iy rfl (fun RB => ?_) (fun RB => ?_))
 refine aG (aa ?_)
 obtain ⟨R4, e72a, e72b⟩ := gy (hik ▸ RB)
 rw [e72b, iG] at hs
 generalize ZB : eO (nQ sU) (qg sU) (i67 + 1) (y28.1.drop (Vf + 1)) = Zy at hs
 have e72r := gD ((h.lY 12 rfl)).bZ hik RB
 refine ai (aT (ai (ag (ae (au (v := (.int .i64 (i67))) rfl) ?_))))
 obtain ⟨b74, o75, cs76, h, r77, i73⟩ := h.Dl 12 27 rfl dh rfl (iQ hik) (gB hik e72a)
 obtain rfl := r77
 refine ae (i73 _ _ _ _ _ _ _ _ _ rfl rfl) (ae (ek (k := 0) h 27 rfl bz rfl rfl) (ae (aj (v := (.int .i64 (i67))) rfl) (ae (aj (v := (.int .i64 (R4))) rfl) (ah (aa (ai (ag (ae (aF h 18 rfl NK rfl rfl) (ae (au (v := (.int .i64 (R4))) rfl) (ae (au (v := (.int .i64 (i67))) rfl) (zL (oK := (List.map (fun p => (p.1, (fun x => Value.int .i64 x) p.2)) (yN R4 i67 yB))) h 17 rfl NJ rfl rfl rfl (AB (f := (fun x => Value.int .i64 x)) _) fun w h => ah (aa (ag (ae (au (v := v61) rfl) (ae (ak jy rfl) (ae (aF h 3 rfl og rfl rfl) (ae (au (v := (.int .i64 (R4))) rfl) ?_)))))))))))))))))
 obtain ⟨Ve, ZC, hs⟩ := aP hs
 obtain ⟨a83, hs⟩ := bI hs
 obtain ⟨ZE, XU, h⟩ := h.TJ 16 28 Ve rfl rfl (by decide) (aJ ZC).1 (aJ ZC).2 a83 rfl
 obtain ⟨b81, q82, i80⟩ := h.vN 15 rfl eY rfl (aJ ZC).1 (fB (aJ ZC).2 XU)
 refine ae (i80 _ _ _ _ _ _ _ _ _ rfl rfl) ?_
 obtain ⟨cs86, m87, r88⟩ := h.yx 15 rfl q82 (fB (aJ ZC).2 XU)
 obtain ⟨rfl, -⟩ := r88
 refine ae (oJ (k := 0) m87 mr rfl rfl) ?_
 have ZF : (Value.oneCell' ZE) = true := (h.dG 28 rfl).one
 refine sZ (R := (aU Val).raw) (vs := [ZE]) (xs := List.zip [Ve] [ZE]) h 29 qC rfl rfl rfl ⟨⟨iT ZF, ZF⟩, trivial⟩ rfl fun w u89 h => ?_
 replace h := h.wN (N := (aU Val)) 28 Ve rfl rfl
 obtain ⟨a90, hs⟩ := bI hs
 have z92 := h.iB 26 rfl
 have ZG := h.iB 28 rfl
 refine mf (R := (aU Val).raw) (m := List.zip [Ve] [ZE]) h 25 rfl (h.ed 29 rfl) qC rfl rfl rfl (by rw [dQ z92, dQ ZG]; exact a90.1) (by rw [dQ z92, dQ ZG]; exact a90.2) fun w Wv h => ?_
 replace h := (h.wL 26 28 rfl rfl (by decide)).fA 29
 rw [wM z92, ← List.map_append] at h
 obtain ⟨us93, ZH⟩ : ∃ z, z = DX ++ [ZE] := ⟨_, rfl⟩
 rw [← ZH] at h
 refine ae (aj (v := Wv) rfl) (ah (aA (aa (ag (ae (dC rfl rfl e72r) (ae (au (v := (.int .i64 ((i67 + 1)))) rfl) (ah (az ?_))))))))
 subst ZB
 exact jN ⟨Vf + 1, i67 + 1, Wv, us93, (pz ++ [Ve]), (G7 ++ [R4]), (yN R4 i67 yB)⟩ ⟨h.cn _, by omega, hs⟩ (by have := of_decide_eq_true RB; dsimp only; omega)
 rw [gz (hik ▸ RB), mh] at hs
 refine df (aO (aO (bF (aa (ai (ag (ae (qN (c1 := []) (c2 := [(.pointer (some ⟨Tk, 0, none⟩))]) rfl rfl) (ae (aj (v := (.func (.func 50) #[] #[(.pointer (some ⟨Tk, 0, none⟩))])) rfl) (ah (aa (ai (ai (ag (ae (ak eH rfl) (ae (aF h 3 rfl iR rfl rfl) (ae (qo (N := aB) dw rfl (h.ed 13 rfl) (h.iB 14 rfl)) (ae (au (v := (.int .i64 (0))) rfl) (ah (aa (aT ?_))))))))))))))))))))
 have ZI := LZ (h.ed 13 rfl) (h.iB 14 rfl)
 refine gL (σ := Nat × Int × List LX.Frame) (inl [14, 65, 66, 67, 68, 69, 70, 71, 72, 73]) (fun ⟨Vg, i99, DC⟩ => [(65, (.int .i64 (i99)))]) (fun ⟨Vg, i99, DC⟩ w => SH w0 M BE w (hset [(3, .blk b1 [u37, Ul, (.int .i64 (sU.status)), (.int .i64 (sU.aV))]), (4, .blk b2 [(.slice none 0 0), (.slice none 0 0), (.int .i64 (0)), (.int .i64 (0))]), (13, .own aB.raw 49 u37 (List.zip DC Gh)), (14, .bL (aR aL 51 hn Gh (List.map aB.sub DC))), (15, .own (aU Val).raw 47 Ul (List.zip sU.cells K3)), (16, .bL (aR aL 51 (hmv G7) K3 (List.map (aU Val).sub sU.cells))), (17, .mp O8 (List.map (fun p => (p.1, (fun x => Value.int .i64 x) p.2)) yB)), (18, .blk Tk [(.map (some O8))]), (25, .own (aU Val).raw 47 v61 (List.zip pz DX)), (26, .bL (aR aL 51 hn DX (List.map (aU Val).sub pz)))]) ∧ i99 = (Vg : Int) ∧ upto (sM yB) (vJ yB sU pz) i99 (((sU.frames.length : Int)).toNat - Vg) DC = some r) (fun ⟨Vg, i99, DC⟩ => ((sU.frames.length : Int)).toNat - Vg) ⟨0, 0, sU.frames⟩ ⟨rfl, trivial⟩ ?_ ?_
 exact ⟨h.cn _, rfl, hs⟩
 rintro ⟨Vg, i99, DC⟩ w dD ⟨h, hik, hs⟩
 refine ai (ag ?_)
 refine ae (dS rfl rfl) (ah (aa ?_))
 refine ai (iy rfl (fun R5 => ?_) (fun R5 => ?_))
 refine aG (aa ?_)
 rw [tO (by have := of_decide_eq_true R5; omega)] at hs
 generalize Xc : upto (sM yB) (vJ yB sU pz) (i99 + 1) (((sU.frames.length : Int)).toNat - (Vg + 1)) = Vd at hs
 have ZJ : jB (i99 + 1) := (by have := of_decide_eq_true R5; have := ZI; exact jB.mk (by omega) (by omega))
 refine ai (aT (ai (ag ?_)))
 obtain ⟨x105, R6, hs⟩ := aP hs
 obtain ⟨Ad, Xd, h⟩ := h.qL 14 30 x105.regs rfl rfl (by decide) (aJ R6).2 rfl
 obtain ⟨b108, q109, i107⟩ := h.vN 13 rfl dw rfl (aJ R6).1 (fB (aJ R6).2 Xd)
 refine ae (i107 _ _ _ _ _ _ _ _ _ rfl rfl) ?_
 obtain ⟨cs112, m113, r114⟩ := h.yx 13 rfl q109 (fB (aJ R6).2 Xd)
 obtain ⟨rfl, -⟩ := r114
 refine ae (ou (k := 0) (vs := [(.int .i64 (x105.proc)), (.int .i64 (x105.at_)), Ad, (.int .i64 (x105.l6))]) m113 iU rfl rfl rfl (Nat.le_of_ble_eq_true rfl)) (bW h 31 iU fun w ZK h => dA (vs := [(.int .i64 (x105.proc)), (.int .i64 (x105.at_)), Ad, (.int .i64 (x105.l6))]) h 31 [(.int .i64 (x105.proc)), (.int .i64 (x105.at_)), Ad, (.int .i64 (x105.l6))] rfl iU rfl rfl rfl rfl rfl (ax rfl (ax rfl (ax (h.dG 30 rfl).one (ax rfl bu)))) fun w h => ah (aa (ag (ae (au (v := (.func (.func 50) #[] #[(.pointer (some ⟨Tk, 0, none⟩))])) rfl) (ae (ak l8 rfl) (ae (aF h 31 rfl mr rfl rfl) ?_))))))
 obtain ⟨l116a, l116b, ZL⟩ := h.vT 30 (C := (.own aL 51 Ad x105.regs : Chunk)) rfl trivial
 obtain ⟨DV, e118, hs⟩ := aP hs
 refine bA QP rfl rfl (KZ _ _ ZL Tk O8 Ad x105.regs l116a l116b yB (h.LG 17 rfl) (fun hb => h.apart 30 17 (by decide) _ hb rfl) (h.ql 18 rfl) (fun hb => h.apart 30 18 (by decide) _ hb rfl) _ e118) ?_
 rintro _ w ⟨k119, rfl, h120, h121⟩
 refine ⟨_, rfl, ?_⟩
 replace h := h.back 30 (C := (.own aL 51 Ad x105.regs : Chunk)) (C' := (.own aL 51 Ad DV : Chunk)) rfl trivial h120 k119 h121
 refine ah (aA (aa (ag (ae (dC rfl rfl ZJ) (ae (au (v := (.int .i64 ((i99 + 1)))) rfl) (ah ?_))))))
 replace h := h.qJ 13 14 30 ({ x105 with regs := DV }) rfl rfl rfl (by decide) (by decide) (by decide) (aJ R6).2 Xd rfl
 refine az ?_
 subst Xc
 exact jN ⟨Vg + 1, i99 + 1, (DC.set (i99).toNat ({ x105 with regs := DV }))⟩ ⟨h.cn _, by omega, hs⟩ (by have := of_decide_eq_true R5; dsimp only; omega)
 rw [tQ (by have := of_decide_eq_false R5; omega)] at hs
 refine df (aO (aO (bF (aa (ai (ai (ag (ae (au (v := v61) rfl) (ae (qo (N := (aU Val)) eY rfl (h.ed 25 rfl) (h.iB 26 rfl)) (ae (au (v := (.int .i64 (0))) rfl) (ah (aa (aT ?_)))))))))))))
 have Xe := LZ (h.ed 25 rfl) (h.iB 26 rfl)
 refine gL (σ := Nat × Int × List (List Val)) (inl [16, 76, 77, 78, 79, 80, 81, 82, 83]) (fun ⟨K4, i127, CX⟩ => [(76, (.int .i64 (i127)))]) (fun ⟨K4, i127, CX⟩ w => SH w0 M BE w (hset [(3, .blk b1 [u37, Ul, (.int .i64 (sU.status)), (.int .i64 (sU.aV))]), (4, .blk b2 [(.slice none 0 0), (.slice none 0 0), (.int .i64 (0)), (.int .i64 (0))]), (13, .own aB.raw 49 u37 (List.zip DC Gh)), (14, .bL (aR aL 51 hn Gh (List.map aB.sub DC))), (15, .own (aU Val).raw 47 Ul (List.zip sU.cells K3)), (16, .bL (aR aL 51 (hmv G7) K3 (List.map (aU Val).sub sU.cells))), (17, .mp O8 (List.map (fun p => (p.1, (fun x => Value.int .i64 x) p.2)) yB)), (18, .blk Tk [(.map (some O8))]), (25, .own (aU Val).raw 47 v61 (List.zip CX DX)), (26, .bL (aR aL 51 hn DX (List.map (aU Val).sub CX)))]) ∧ i127 = (K4 : Int) ∧ upto (uN yB) (vI DC sU) i127 (((pz.length : Int)).toNat - K4) CX = some r) (fun ⟨K4, i127, CX⟩ => ((pz.length : Int)).toNat - K4) ⟨0, 0, pz⟩ ⟨rfl, trivial⟩ ?_ ?_
 exact ⟨h.cn _, rfl, hs⟩
 rintro ⟨K4, i127, CX⟩ w dD ⟨h, hik, hs⟩
 refine ai (ag ?_)
 refine ae (dS rfl rfl) (ah (aa ?_))
 refine ai (iy rfl (fun R7 => ?_) (fun R7 => ?_))
 refine aG (aa ?_)
 rw [tO (by have := of_decide_eq_true R7; omega)] at hs
 generalize Xf : upto (uN yB) (vI DC sU) (i127 + 1) (((pz.length : Int)).toNat - (K4 + 1)) = Vb at hs
 have ZM : jB (i127 + 1) := (by have := of_decide_eq_true R7; have := Xe; exact jB.mk (by omega) (by omega))
 refine ai (aT (ai (ag ?_)))
 obtain ⟨BD, R8, hs⟩ := aP hs
 obtain ⟨u138, O3, h⟩ := h.qL 26 32 BD rfl rfl (by decide) (aJ R8).2 rfl
 obtain ⟨b136, q137, i135⟩ := h.vN 25 rfl eY rfl (aJ R8).1 (fB (aJ R8).2 O3)
 refine ae (i135 _ _ _ _ _ _ _ _ _ rfl rfl) ?_
 obtain ⟨ZN, m141, r142⟩ := h.yx 25 rfl q137 (fB (aJ R8).2 O3)
 obtain ⟨rfl, -⟩ := r142
 refine ae (oJ (k := 0) m141 mr rfl rfl) (ae (aj (v := u138) rfl) (ah (aa (ag (ae (au (v := (.func (.func 50) #[] #[(.pointer (some ⟨Tk, 0, none⟩))])) rfl) (ae (au (v := u138) rfl) ?_))))))
 obtain ⟨ZO, ZP, ZQ⟩ := h.vT 32 (C := (.own aL 51 u138 BD : Chunk)) rfl trivial
 obtain ⟨R3, e145, hs⟩ := aP hs
 refine bA QP rfl rfl (KZ _ _ ZQ Tk O8 u138 BD ZO ZP yB (h.LG 17 rfl) (fun hb => h.apart 32 17 (by decide) _ hb rfl) (h.ql 18 rfl) (fun hb => h.apart 32 18 (by decide) _ hb rfl) _ e145) ?_
 rintro _ w ⟨k146, rfl, h147, h148⟩
 refine ⟨_, rfl, ?_⟩
 replace h := h.back 32 (C := (.own aL 51 u138 BD : Chunk)) (C' := (.own aL 51 u138 R3 : Chunk)) rfl trivial h147 k146 h148
 refine ah (aA (aa (ag (ae (dC rfl rfl ZM) (ae (au (v := (.int .i64 ((i127 + 1)))) rfl) (ah ?_))))))
 replace h := h.qJ 25 26 32 R3 rfl rfl rfl (by decide) (by decide) (by decide) (aJ R8).2 O3 rfl
 refine az ?_
 subst Xf
 exact jN ⟨K4 + 1, i127 + 1, (CX.set (i127).toNat R3)⟩ ⟨h.cn _, by omega, hs⟩ (by have := of_decide_eq_true R7; dsimp only; omega)
 rw [tQ (by have := of_decide_eq_false R7; omega)] at hs
 refine df (aO (aO (bF (aa (ai (ag (ae (au (v := v61) rfl) (ae (ak jy rfl) (fw h 3 [u37, v61, (.int .i64 (sU.status)), (.int .i64 (sU.aV))] rfl og rfl rfl rfl rfl (h.dG 25 rfl).one fun w h => ah (aa (ai (ag (ae (dz (vs := [u37, v61, (.int .i64 (sU.status)), (.int .i64 (sU.aV))]) h 3 rfl cZ rfl rfl rfl) (dA (vs := [u37, v61, (.int .i64 (sU.status)), (.int .i64 (sU.aV))]) h 4 [u37, v61, (.int .i64 (sU.status)), (.int .i64 (sU.aV))] rfl cZ rfl rfl rfl rfl rfl (ax (h.dG 13 rfl).one (ax (h.dG 25 rfl).one (ax rfl (ax rfl bu)))) fun w h => ah (aa (aI (U1 (vs := [u37, v61, (.int .i64 (sU.status)), (.int .i64 (sU.aV))]) Tryz.results20 rfl h 4 rfl cZ rfl ?_)))))))))))))))))
 replace h := h.pair 13 14 (by decide)
 replace h := h.pair 13 25 (by decide)
 replace h := h.pair 13 26 (by decide)
 obtain rfl := Option.some.inj hs
 obtain ⟨o1, o2, o3⟩ := h.qp 13 (C := (.two (.two (.two (.own aB.raw 49 u37 (List.zip DC Gh)) (.bL (aR aL 51 hn Gh (List.map aB.sub DC)))) (.own (aU Val).raw 47 v61 (List.zip CX DX))) (.bL (aR aL 51 hn DX (List.map (aU Val).sub CX))) : Chunk)) rfl ⟨⟨⟨trivial, trivial⟩, trivial⟩, trivial⟩
 exact ⟨o2, u37, v61, Gh, DX, rfl, o1, Jl o3⟩
def pM (a : Ins) (y4 : List LX.Frame) (y7 : List (List Val)) (y8 : Int) (y9 : Int) : Option (Bool × LX.State) :=
  bif decide (((y7.length : Int) : Int) = 24) then some (false, (⟨y4, y7, y8, y9⟩ : LX.State)) else gQ (jB ((y4.length : Int) - 1)) ((idx y4 ((y4.length : Int) - 1)).bind fun vX => (idx vX.regs a.a).bind fun x22 => gQ (0 ≤ a.b ∧ a.b * 16 ≤ 140737488355328) (gQ (Room 24 y7 [(List.replicate a.b.toNat (⟨0, 0⟩ : Val))]) (some (true, (⟨(y4.set (((y4.length : Int) - 1)).toNat ({ vX with regs := (vX.regs.set (a.a).toNat (⟨2, (y7.length : Int)⟩ : Val)) })), (y7 ++ [(List.replicate a.b.toNat (⟨0, 0⟩ : Val))]), y8, y9⟩ : LX.State)))))
def Gi (N : Nat) (sx : LX.State) (a : Ins) : Option (Bool × LX.State) :=
  bif decide (((sx.cells.length : Int) : Int) = 24) then (CY N sx).bind fun y39 => pM a y39.frames y39.cells y39.status y39.aV else pM a sx.frames sx.cells sx.status sx.aV
theorem Gj (N : Nat) (w0 : World) (M : BS) (hM : ∀ b, M b → b < w0.heap.size) (sb : Nat) (sx : LX.State) (eU vs1 : Value) (fq eQ : List Value) (hC : Chunk.holds w0 M (Chunk.own' (.two (.two (.two (.two (.blk sb [eU, vs1, (.int .i64 (sx.status)), (.int .i64 (sx.aV))]) (.own aB.raw 49 eU (List.zip sx.frames fq))) (.bL (aR aL 51 hn fq (List.map aB.sub sx.frames)))) (.own (aU Val).raw 47 vs1 (List.zip sx.cells eQ))) (.bL (aR aL 51 hn eQ (List.map (aU Val).sub sx.cells))) : Chunk)) (.two (.two (.two (.two (.blk sb [eU, vs1, (.int .i64 (sx.status)), (.int .i64 (sx.aV))]) (.own aB.raw 49 eU (List.zip sx.frames fq))) (.bL (aR aL 51 hn fq (List.map aB.sub sx.frames)))) (.own (aU Val).raw 47 vs1 (List.zip sx.cells eQ))) (.bL (aR aL 51 hn eQ (List.map (aU Val).sub sx.cells))) : Chunk)) (hap : ∀ b, Chunk.own' (.two (.two (.two (.two (.blk sb [eU, vs1, (.int .i64 (sx.status)), (.int .i64 (sx.aV))]) (.own aB.raw 49 eU (List.zip sx.frames fq))) (.bL (aR aL 51 hn fq (List.map aB.sub sx.frames)))) (.own (aU Val).raw 47 vs1 (List.zip sx.cells eQ))) (.bL (aR aL 51 hn eQ (List.map (aU Val).sub sx.cells))) : Chunk) b → ¬ M b) (a : Ins) (BM : Value) (Y8 : fo fH w0 (fun b => M b ∨ (.two (.two (.two (.two (.blk sb [eU, vs1, (.int .i64 (sx.status)), (.int .i64 (sx.aV))]) (.own aB.raw 49 eU (List.zip sx.frames fq))) (.bL (aR aL 51 hn fq (List.map aB.sub sx.frames)))) (.own (aU Val).raw 47 vs1 (List.zip sx.cells eQ))) (.bL (aR aL 51 hn eQ (List.map (aU Val).sub sx.cells))) : Chunk).own' b) BM a.args) (r : Bool × LX.State) (hs : Gi N sx a = some r) :
    Calls Tryz.prog 89 #[(.pointer (some ⟨sb, 0, none⟩)), (.agg #[(.int .i64 (a.op)), (.int .i64 (a.a)), (.int .i64 (a.b)), (.int .i64 (a.c)), BM])] w0 (fun e w' => aS (Chunk.own' (.two (.two (.two (.two (.blk sb [eU, vs1, (.int .i64 (sx.status)), (.int .i64 (sx.aV))]) (.own aB.raw 49 eU (List.zip sx.frames fq))) (.bL (aR aL 51 hn fq (List.map aB.sub sx.frames)))) (.own (aU Val).raw 47 vs1 (List.zip sx.cells eQ))) (.bL (aR aL 51 hn eQ (List.map (aU Val).sub sx.cells))) : Chunk)) w0 w' ∧ ∃ AZ, ∃ A7, ∃ A8, ∃ A9, e = .returned (.bool r.1) ∧ Chunk.holds w' M (Chunk.own' (.two (.two (.two (.two (.blk sb [AZ, A7, .int .i64 r.2.status, .int .i64 r.2.aV]) (.own aB.raw 49 AZ (List.zip r.2.frames A8))) (.bL (aR aL 51 hn A8 (List.map aB.sub r.2.frames)))) (.own (aU Val).raw 47 A7 (List.zip r.2.cells A9))) (.bL (aR aL 51 hn A9 (List.map (aU Val).sub r.2.cells))) : Chunk)) (.two (.two (.two (.two (.blk sb [AZ, A7, .int .i64 r.2.status, .int .i64 r.2.aV]) (.own aB.raw 49 AZ (List.zip r.2.frames A8))) (.bL (aR aL 51 hn A8 (List.map aB.sub r.2.frames)))) (.own (aU Val).raw 47 A7 (List.zip r.2.cells A9))) (.bL (aR aL 51 hn A9 (List.map (aU Val).sub r.2.cells))) : Chunk) ∧ (∀ b, Chunk.own' (.two (.two (.two (.two (.blk sb [AZ, A7, .int .i64 r.2.status, .int .i64 r.2.aV]) (.own aB.raw 49 AZ (List.zip r.2.frames A8))) (.bL (aR aL 51 hn A8 (List.map aB.sub r.2.frames)))) (.own (aU Val).raw 47 A7 (List.zip r.2.cells A9))) (.bL (aR aL 51 hn A9 (List.map (aU Val).sub r.2.cells))) : Chunk) b → b < w0.heap.size → Chunk.own' (.two (.two (.two (.two (.blk sb [eU, vs1, (.int .i64 (sx.status)), (.int .i64 (sx.aV))]) (.own aB.raw 49 eU (List.zip sx.frames fq))) (.bL (aR aL 51 hn fq (List.map aB.sub sx.frames)))) (.own (aU Val).raw 47 vs1 (List.zip sx.cells eQ))) (.bL (aR aL 51 hn eQ (List.map (aU Val).sub sx.cells))) : Chunk) b)) := by
 refine aQ (args := [(.pointer (some ⟨sb, 0, none⟩)), (.agg #[(.int .i64 (a.op)), (.int .i64 (a.a)), (.int .i64 (a.b)), (.int .i64 (a.c)), BM])]) Tryz.func89 rfl Tryz.ntmps89 (Nat.le_of_ble_eq_true rfl) ?_
 have h := SH.ED hM hC hap
 replace h := h.Bw 6 Y8 zw
 generalize zy : (.two (.two (.two (.two (.blk sb [eU, vs1, (.int .i64 (sx.status)), (.int .i64 (sx.aV))]) (.own aB.raw 49 eU (List.zip sx.frames fq))) (.bL (aR aL 51 hn fq (List.map aB.sub sx.frames)))) (.own (aU Val).raw 47 vs1 (List.zip sx.cells eQ))) (.bL (aR aL 51 hn eQ (List.map (aU Val).sub sx.cells))) : Chunk).own' = K0 at h
 replace h := h.bX 1 5 (by decide) rfl rfl
 replace h := h.bX 1 4 (by decide) rfl rfl
 replace h := h.bX 1 3 (by decide) rfl rfl
 replace h := h.bX 1 2 (by decide) rfl rfl
 refine ai (ag (nX (cs := [(.int .i64 (a.op)), (.int .i64 (a.a)), (.int .i64 (a.b)), (.int .i64 (a.c)), BM]) h 7 rfl rfl fun w b1 h => ae (aj (v := (.bool (false))) rfl) (ah (aa (bY (σ := Value × List Value × List LX.Frame × Value × List Value × List (List Val) × Int × Int) (inl [5, 6, 7, 8, 9, 10, 11, 12, 13, 14, 15, 16]) (fun ⟨v2, LD, y4, v5, Io, y7, y8, y9⟩ => []) (fun ⟨v2, LD, y4, v5, Io, y7, y8, y9⟩ w => SH w0 M K0 w (hset [(1, .blk sb [v2, v5, (.int .i64 (y8)), (.int .i64 (y9))]), (6, .rd fH BM a.args), (7, .blk b1 [(.int .i64 (a.op)), (.int .i64 (a.a)), (.int .i64 (a.b)), (.int .i64 (a.c)), BM]), (8, .own aB.raw 49 v2 (List.zip y4 LD)), (9, .bL (aR aL 51 hn LD (List.map aB.sub y4))), (10, .own (aU Val).raw 47 v5 (List.zip y7 Io)), (11, .bL (aR aL 51 hn Io (List.map (aU Val).sub y7)))]) ∧ pM a y4 y7 y8 y9 = some r) ?_ ?_)))))
 rintro ⟨v2, LD, y4, v5, Io, y7, y8, y9⟩ w dD ⟨h, hs⟩
 refine ai (ai (ag (ae (au (v := (.pointer (some ⟨sb, 0, none⟩))) rfl) (ae (bQ rfl) (ae (ak jy rfl) (ae (aF h 1 rfl og rfl rfl) (ae (qo (N := (aU Val)) eY rfl (h.ed 10 rfl) (h.iB 11 rfl)) (ae (bH rfl rfl) (ah (aa (aK hs rfl (fun c10 hs => ?_) (fun c10 hs => ?_))))))))))))
 refine ai (ag (ae (aj (v := (.bool (false))) rfl) (ah (aa (aI (aC (bV (v := (.bool (false))) Tryz.results89 rfl ?_)))))))
 replace h := h.pair 1 8 (by decide)
 replace h := h.pair 1 9 (by decide)
 replace h := h.pair 1 10 (by decide)
 replace h := h.pair 1 11 (by decide)
 obtain rfl := Option.some.inj hs
 subst zy
 obtain ⟨o1, o2, o3⟩ := h.qp 1 (C := (.two (.two (.two (.two (.blk sb [v2, v5, (.int .i64 (y8)), (.int .i64 (y9))]) (.own aB.raw 49 v2 (List.zip y4 LD))) (.bL (aR aL 51 hn LD (List.map aB.sub y4)))) (.own (aU Val).raw 47 v5 (List.zip y7 Io))) (.bL (aR aL 51 hn Io (List.map (aU Val).sub y7))) : Chunk)) rfl ⟨⟨⟨⟨trivial, trivial⟩, trivial⟩, trivial⟩, trivial⟩
 exact ⟨o2, v2, v5, LD, Io, rfl, o1, o3⟩
 refine aG (aa (ai (qI 22 mixed (by kernel_rfl) h fun w h => aN (au (v := (.pointer (some ⟨sb, 0, none⟩))) rfl) (aN (bQ rfl) (aN (ak eH rfl) (aN (aF h 1 rfl iR rfl rfl) (aN (au (v := (.pointer (some ⟨sb, 0, none⟩))) rfl) (aN (bQ rfl) (aN (ak eH rfl) (aN (aF h 1 rfl iR rfl rfl) (aN (qo (N := aB) dw rfl (h.ed 8 rfl) (h.iB 9 rfl)) ?_)))))))))))
 obtain ⟨a11, hs⟩ := bI hs
 refine aN (nW rfl rfl a11) ?_
 obtain ⟨vX, e13, hs⟩ := aP hs
 obtain ⟨Fj, e18, h⟩ := h.qL 9 12 vX.regs rfl rfl (by decide) (aJ e13).2 rfl
 obtain ⟨b15, q16, i14⟩ := h.vN 8 rfl dw rfl (aJ e13).1 (fB (aJ e13).2 e18)
 refine aN (i14 _ _ _ _ _ _ _ _ _ rfl rfl) (aN (ak l8 rfl) ?_)
 obtain ⟨Uc, m20, r21⟩ := h.yx 8 rfl q16 (fB (aJ e13).2 e18)
 obtain ⟨rfl, -⟩ := r21
 refine aN (oJ (k := 2) m20 mr rfl rfl) (aN (ak jV rfl) (aN (aF h 7 rfl bz rfl rfl) (aN (au (v := (.pointer (some ⟨sb, 0, none⟩))) rfl) (aN (bQ rfl) (aN (ak jy rfl) (aN (aF h 1 rfl og rfl rfl) (aN (qo (N := (aU Val)) eY rfl (h.ed 10 rfl) (h.iB 11 rfl)) (aN (dO (pv := [(0, (.int .i64 (2))), (1, (.int .i64 ((y7.length : Int))))]) (out := [(.int .i64 (2)), (.int .i64 ((y7.length : Int)))]) uq rfl ⟨0, 1, [(.int .i64 (2))], rfl, rfl, rfl, Nat.le_of_ble_eq_true rfl, ⟨1, 1, [(.int .i64 ((y7.length : Int)))], rfl, rfl, rfl, Nat.le_of_ble_eq_true rfl, rfl⟩⟩) ?_))))))))
 obtain ⟨x22, e23, hs⟩ := aP hs
 obtain ⟨b25, q26, i24⟩ := h.vN 12 rfl bR rfl (aJ e23).1 (aJ e23).2
 refine aN (i24 _ _ _ _ _ _ _ _ _ rfl rfl) (zm (w9 (a' := (⟨2, (y7.length : Int)⟩ : Val)) (vs := [(.int .i64 (2)), (.int .i64 ((y7.length : Int)))]) h 12 rfl q26 rfl (aJ e23).2 bT rfl rfl rfl rfl rfl fun w h k27 => ah (aa (ai (lS (L := (fun b => ob v5 b ∨ b = sb)) mixed h fun w h => aZ 0 (aS.refl _ _) rfl ay (by kernel_rfl) (by kernel_rfl) (by kernel_rfl) (fun w hk => au (v := (.pointer (some ⟨sb, 0, none⟩))) rfl) (aZ 1 (aS.refl _ _) rfl ay (by kernel_rfl) (by kernel_rfl) (by kernel_rfl) (fun w hk => au (v := (.pointer (some ⟨sb, 0, none⟩))) rfl) (aZ 2 (aS.refl _ _) rfl ay (by kernel_rfl) (by kernel_rfl) (by kernel_rfl) (fun w hk => bQ rfl) (aZ 3 (aS.refl _ _) rfl ay (by kernel_rfl) (by kernel_rfl) (by kernel_rfl) (fun w hk => ak jy rfl) (aZ 5 (aS.refl _ _) rfl ay (by kernel_rfl) (by kernel_rfl) (by kernel_rfl) (fun w hk => ak iF rfl) (aZ 6 (aS.refl _ _) rfl ay (by kernel_rfl) (by kernel_rfl) (by kernel_rfl) (fun w hk => have h := h.Dr 10 1 (by decide) rfl rfl hk; aF h 7 rfl bz rfl rfl) ?_))))))))))
 obtain ⟨K5, hs⟩ := bI hs
 obtain ⟨yf, hs⟩ := bI hs
 obtain ⟨JR, Vh⟩ : ∃ x, x = w := ⟨_, rfl⟩
 have jE : aS (fun b => ob v5 b ∨ b = sb) JR w := Vh ▸ aS.refl (fun b => ob v5 b ∨ b = sb) w
 refine rP Vh.symm (nY 4 7 (by kernel_rfl) rfl ay rfl ay ?_ ?_)
 refine ae (aF h 1 rfl og rfl rfl) (ah (aX jE (bP 7 (by kernel_rfl) rfl ay (xC (R := aL) (zs := [(.int .i64 (0)), (.int .i64 (0))]) (a := (⟨0, 0⟩ : Val)) h 97 uj bT rfl (by decide) rfl rfl K5 rfl (fun _ _ => rfl) fun w jo h DY DZ => ?_))))
 have Pb : ∀ b, ob jo b → JR.heap.size ≤ b := fun b hb => Nat.le_trans jE.size (DZ b hb)
 replace jE := jE.grow DY
 refine ah (aX jE (bP 8 (by kernel_rfl) rfl ay ?_))
 have ru : (Value.oneCell' jo) = true := (h.dG 97 rfl).one
 refine zn (R := (aU Val).raw) (vs := [jo]) (xs := List.zip [(List.replicate a.b.toNat (⟨0, 0⟩ : Val))] [jo]) h 109 qC rfl rfl rfl ⟨⟨iT ru, ru⟩, trivial⟩ rfl fun w Ae h yg yh => ?_
 have Ir : ∀ b, ob Ae b → JR.heap.size ≤ b := fun b hb => Nat.le_trans jE.size (yh b hb)
 replace jE := jE.grow yg
 replace h := h.wN (N := (aU Val)) 97 (List.replicate a.b.toNat (⟨0, 0⟩ : Val)) rfl rfl
 refine ah (aX jE (bP 9 (by kernel_rfl) rfl ay ?_))
 have pO := h.iB 11 rfl
 have ry := h.iB 97 rfl
 have Iu := jE.size
 refine oL (R := (aU Val).raw) (m := List.zip [(List.replicate a.b.toNat (⟨0, 0⟩ : Val))] [jo]) h 10 rfl (h.ed 109 rfl) qC rfl rfl rfl (by rw [dQ pO, dQ ry]; exact yf.1) (by rw [dQ pO, dQ ry]; exact yf.2) fun w jF h yj yl => ?_
 have Iw : ∀ b, ob jF b → b < JR.heap.size → ob v5 b := fun b hb hl => yl b hb (Nat.lt_of_lt_of_le hl (jE).size)
 replace jE := aS.step jE yj (fun _ hx _ => .inl (hx))
 replace h := (h.wL 11 97 rfl rfl (by decide)).fA 109
 rw [wM pO, ← List.map_append] at h
 obtain ⟨mM, wy⟩ : ∃ z, z = Io ++ [jo] := ⟨_, rfl⟩
 rw [← wy] at h
 refine ah (aX jE (aZ 10 jE rfl ay (by kernel_rfl) (by kernel_rfl) (by kernel_rfl) (fun w hk => bQ rfl) (aZ 11 jE rfl ay (by kernel_rfl) (by kernel_rfl) (by kernel_rfl) (fun w hk => ak jy rfl) (bP 12 (by kernel_rfl) rfl ay (qO h 1 [v2, jF, (.int .i64 (y8)), (.int .i64 (y9))] rfl og rfl rfl rfl rfl (h.dG 10 rfl).one fun w h ym => ?_)))))
 replace jE := aS.step jE ym (fun _ hx _ => .inr (hx))
 refine ah (aX jE (fZ (by kernel_rfl) (aa (ai (ag (ae (aj (v := (.bool (true))) rfl) (ah (aa (aI (bV (v := (.bool (true))) Tryz.results89 rfl ?_))))))))))
 replace h := h.qJ 8 9 12 ({ vX with regs := (vX.regs.set (a.a).toNat (⟨2, (y7.length : Int)⟩ : Val)) }) rfl rfl rfl (by decide) (by decide) (by decide) (aJ e13).2 e18 rfl
 replace h := h.pair 1 8 (by decide)
 replace h := h.pair 1 9 (by decide)
 replace h := h.pair 1 10 (by decide)
 replace h := h.pair 1 11 (by decide)
 obtain rfl := Option.some.inj hs
 subst zy
 obtain ⟨o1, o2, o3⟩ := h.qp 1 (C := (.two (.two (.two (.two (.blk sb [v2, jF, (.int .i64 (y8)), (.int .i64 (y9))]) (.own aB.raw 49 v2 (List.zip (y4.set (((y4.length : Int) - 1)).toNat ({ vX with regs := (vX.regs.set (a.a).toNat (⟨2, (y7.length : Int)⟩ : Val)) })) LD))) (.bL (aR aL 51 hn LD (List.map aB.sub (y4.set (((y4.length : Int) - 1)).toNat ({ vX with regs := (vX.regs.set (a.a).toNat (⟨2, (y7.length : Int)⟩ : Val)) })))))) (.own (aU Val).raw 47 jF (List.zip (y7 ++ [(List.replicate a.b.toNat (⟨0, 0⟩ : Val))]) mM))) (.bL (aR aL 51 hn mM (List.map (aU Val).sub (y7 ++ [(List.replicate a.b.toNat (⟨0, 0⟩ : Val))])))) : Chunk)) rfl ⟨⟨⟨⟨trivial, trivial⟩, trivial⟩, trivial⟩, trivial⟩
 exact ⟨o2, v2, jF, LD, mM, rfl, o1, o3⟩
 refine xC (R := aL) (zs := [(.int .i64 (0)), (.int .i64 (0))]) (a := (⟨0, 0⟩ : Val)) h 97 uj bT rfl (by decide) rfl rfl K5 rfl (fun _ _ => rfl) fun w jo h DY DZ => ?_
 have Pb : ∀ b, ob jo b → JR.heap.size ≤ b := fun b hb => Nat.le_trans jE.size (DZ b hb)
 replace jE := jE.grow DY
 refine ah (aX jE (nY 4 8 (by kernel_rfl) rfl ay rfl ay ?_ ?_))
 refine ae (aF h 1 rfl og rfl rfl) (ah (aX jE (bP 8 (by kernel_rfl) rfl ay ?_)))
 have ru : (Value.oneCell' jo) = true := (h.dG 97 rfl).one
 refine zn (R := (aU Val).raw) (vs := [jo]) (xs := List.zip [(List.replicate a.b.toNat (⟨0, 0⟩ : Val))] [jo]) h 109 qC rfl rfl rfl ⟨⟨iT ru, ru⟩, trivial⟩ rfl fun w Ae h yg yh => ?_
 have Ir : ∀ b, ob Ae b → JR.heap.size ≤ b := fun b hb => Nat.le_trans jE.size (yh b hb)
 replace jE := jE.grow yg
 replace h := h.wN (N := (aU Val)) 97 (List.replicate a.b.toNat (⟨0, 0⟩ : Val)) rfl rfl
 refine ah (aX jE (bP 9 (by kernel_rfl) rfl ay ?_))
 have pO := h.iB 11 rfl
 have ry := h.iB 97 rfl
 have Iu := jE.size
 refine oL (R := (aU Val).raw) (m := List.zip [(List.replicate a.b.toNat (⟨0, 0⟩ : Val))] [jo]) h 10 rfl (h.ed 109 rfl) qC rfl rfl rfl (by rw [dQ pO, dQ ry]; exact yf.1) (by rw [dQ pO, dQ ry]; exact yf.2) fun w jF h yj yl => ?_
 have Iw : ∀ b, ob jF b → b < JR.heap.size → ob v5 b := fun b hb hl => yl b hb (Nat.lt_of_lt_of_le hl (jE).size)
 replace jE := aS.step jE yj (fun _ hx _ => .inl (hx))
 replace h := (h.wL 11 97 rfl rfl (by decide)).fA 109
 rw [wM pO, ← List.map_append] at h
 obtain ⟨mM, wy⟩ : ∃ z, z = Io ++ [jo] := ⟨_, rfl⟩
 rw [← wy] at h
 refine ah (aX jE (aZ 10 jE rfl ay (by kernel_rfl) (by kernel_rfl) (by kernel_rfl) (fun w hk => bQ rfl) (aZ 11 jE rfl ay (by kernel_rfl) (by kernel_rfl) (by kernel_rfl) (fun w hk => ak jy rfl) (bP 12 (by kernel_rfl) rfl ay (qO h 1 [v2, jF, (.int .i64 (y8)), (.int .i64 (y9))] rfl og rfl rfl rfl rfl (h.dG 10 rfl).one fun w h ym => ?_)))))
 replace jE := aS.step jE ym (fun _ hx _ => .inr (hx))
 refine ah (aX jE (fZ (by kernel_rfl) (aa (ai (ag (ae (aj (v := (.bool (true))) rfl) (ah (aa (aI (bV (v := (.bool (true))) Tryz.results89 rfl ?_))))))))))
 replace h := h.qJ 8 9 12 ({ vX with regs := (vX.regs.set (a.a).toNat (⟨2, (y7.length : Int)⟩ : Val)) }) rfl rfl rfl (by decide) (by decide) (by decide) (aJ e13).2 e18 rfl
 replace h := h.pair 1 8 (by decide)
 replace h := h.pair 1 9 (by decide)
 replace h := h.pair 1 10 (by decide)
 replace h := h.pair 1 11 (by decide)
 obtain rfl := Option.some.inj hs
 subst zy
 obtain ⟨o1, o2, o3⟩ := h.qp 1 (C := (.two (.two (.two (.two (.blk sb [v2, jF, (.int .i64 (y8)), (.int .i64 (y9))]) (.own aB.raw 49 v2 (List.zip (y4.set (((y4.length : Int) - 1)).toNat ({ vX with regs := (vX.regs.set (a.a).toNat (⟨2, (y7.length : Int)⟩ : Val)) })) LD))) (.bL (aR aL 51 hn LD (List.map aB.sub (y4.set (((y4.length : Int) - 1)).toNat ({ vX with regs := (vX.regs.set (a.a).toNat (⟨2, (y7.length : Int)⟩ : Val)) })))))) (.own (aU Val).raw 47 jF (List.zip (y7 ++ [(List.replicate a.b.toNat (⟨0, 0⟩ : Val))]) mM))) (.bL (aR aL 51 hn mM (List.map (aU Val).sub (y7 ++ [(List.replicate a.b.toNat (⟨0, 0⟩ : Val))])))) : Chunk)) rfl ⟨⟨⟨⟨trivial, trivial⟩, trivial⟩, trivial⟩, trivial⟩
 exact ⟨o2, v2, jF, LD, mM, rfl, o1, o3⟩
 have ru : (Value.oneCell' jo) = true := (h.dG 97 rfl).one
 refine zn (R := (aU Val).raw) (vs := [jo]) (xs := List.zip [(List.replicate a.b.toNat (⟨0, 0⟩ : Val))] [jo]) h 109 qC rfl rfl rfl ⟨⟨iT ru, ru⟩, trivial⟩ rfl fun w Ae h yg yh => ?_
 have Ir : ∀ b, ob Ae b → JR.heap.size ≤ b := fun b hb => Nat.le_trans jE.size (yh b hb)
 replace jE := jE.grow yg
 replace h := h.wN (N := (aU Val)) 97 (List.replicate a.b.toNat (⟨0, 0⟩ : Val)) rfl rfl
 refine ah (aX jE (bP 4 (by kernel_rfl) rfl ay (ae (aF h 1 rfl og rfl rfl) (ah (aX jE (bP 9 (by kernel_rfl) rfl ay ?_))))))
 have pO := h.iB 11 rfl
 have ry := h.iB 97 rfl
 have Iu := jE.size
 refine oL (R := (aU Val).raw) (m := List.zip [(List.replicate a.b.toNat (⟨0, 0⟩ : Val))] [jo]) h 10 rfl (h.ed 109 rfl) qC rfl rfl rfl (by rw [dQ pO, dQ ry]; exact yf.1) (by rw [dQ pO, dQ ry]; exact yf.2) fun w jF h yj yl => ?_
 have Iw : ∀ b, ob jF b → b < JR.heap.size → ob v5 b := fun b hb hl => yl b hb (Nat.lt_of_lt_of_le hl (jE).size)
 replace jE := aS.step jE yj (fun _ hx _ => .inl (hx))
 replace h := (h.wL 11 97 rfl rfl (by decide)).fA 109
 rw [wM pO, ← List.map_append] at h
 obtain ⟨mM, wy⟩ : ∃ z, z = Io ++ [jo] := ⟨_, rfl⟩
 rw [← wy] at h
 refine ah (aX jE (aZ 10 jE rfl ay (by kernel_rfl) (by kernel_rfl) (by kernel_rfl) (fun w hk => bQ rfl) (aZ 11 jE rfl ay (by kernel_rfl) (by kernel_rfl) (by kernel_rfl) (fun w hk => ak jy rfl) (bP 12 (by kernel_rfl) rfl ay (qO h 1 [v2, jF, (.int .i64 (y8)), (.int .i64 (y9))] rfl og rfl rfl rfl rfl (h.dG 10 rfl).one fun w h ym => ?_)))))
 replace jE := aS.step jE ym (fun _ hx _ => .inr (hx))
 refine ah (aX jE (fZ (by kernel_rfl) (aa (ai (ag (ae (aj (v := (.bool (true))) rfl) (ah (aa (aI (bV (v := (.bool (true))) Tryz.results89 rfl ?_))))))))))
 replace h := h.qJ 8 9 12 ({ vX with regs := (vX.regs.set (a.a).toNat (⟨2, (y7.length : Int)⟩ : Val)) }) rfl rfl rfl (by decide) (by decide) (by decide) (aJ e13).2 e18 rfl
 replace h := h.pair 1 8 (by decide)
 replace h := h.pair 1 9 (by decide)
 replace h := h.pair 1 10 (by decide)
 replace h := h.pair 1 11 (by decide)
 obtain rfl := Option.some.inj hs
 subst zy
 obtain ⟨o1, o2, o3⟩ := h.qp 1 (C := (.two (.two (.two (.two (.blk sb [v2, jF, (.int .i64 (y8)), (.int .i64 (y9))]) (.own aB.raw 49 v2 (List.zip (y4.set (((y4.length : Int) - 1)).toNat ({ vX with regs := (vX.regs.set (a.a).toNat (⟨2, (y7.length : Int)⟩ : Val)) })) LD))) (.bL (aR aL 51 hn LD (List.map aB.sub (y4.set (((y4.length : Int) - 1)).toNat ({ vX with regs := (vX.regs.set (a.a).toNat (⟨2, (y7.length : Int)⟩ : Val)) })))))) (.own (aU Val).raw 47 jF (List.zip (y7 ++ [(List.replicate a.b.toNat (⟨0, 0⟩ : Val))]) mM))) (.bL (aR aL 51 hn mM (List.map (aU Val).sub (y7 ++ [(List.replicate a.b.toNat (⟨0, 0⟩ : Val))])))) : Chunk)) rfl ⟨⟨⟨⟨trivial, trivial⟩, trivial⟩, trivial⟩, trivial⟩
 exact ⟨o2, v2, jF, LD, mM, rfl, o1, o3⟩
 refine ai (ag (ae (au (v := (.pointer (some ⟨sb, 0, none⟩))) rfl) (ae (bQ rfl) (ae (ak jy rfl) (ae (aF h 1 rfl og rfl rfl) (ae (qo (N := (aU Val)) eY rfl (h.ed 4 rfl) (h.iB 5 rfl)) (ae (bH rfl rfl) (ah (aa (aK hs rfl (fun CJ hs => ?_) (fun CJ hs => ?_)))))))))))
 refine ag (ae (au (v := (.pointer (some ⟨sb, 0, none⟩))) rfl) (ae (au (v := (.pointer (some ⟨sb, 0, none⟩))) rfl) (ae (bQ rfl) (ae (dz (vs := [eU, vs1, (.int .i64 (sx.status)), (.int .i64 (sx.aV))]) h 1 rfl cZ rfl rfl rfl) ?_))))
 obtain ⟨y39, e40, hs⟩ := aP hs
 refine bA VQ rfl rfl (MN N _ BE (fun _ h => h.elim) sx eU vs1 (h.Jm (N := aB) (R' := gu) 2 3 rfl rfl (by decide) rfl AA) (h.Jm (N := (aU Val)) (R' := (qV aL)) 4 5 rfl rfl (by decide) rfl Fe) _ e40) ?_
 rintro _ w ⟨k47, WI, u43, RN, Xg, rfl, h45, h46⟩
 refine ⟨_, rfl, ?_⟩
 replace h := h.U3 181 (C := (.two (.two (.two (.own aB.raw 49 WI (List.zip y39.frames RN)) (.bL (aR aL 51 hn RN (List.map aB.sub y39.frames)))) (.own (aU Val).raw 47 u43 (List.zip y39.cells Xg))) (.bL (aR aL 51 hn Xg (List.map (aU Val).sub y39.cells))) : Chunk)) k47 ⟨⟨⟨trivial, trivial⟩, trivial⟩, trivial⟩ ⟨⟨⟨(fun _ _ _ _ _ h => h), (AJ (fun _ _ _ _ _ h => h))⟩, (fun _ _ _ _ _ h => h)⟩, (AJ (fun _ _ _ _ _ h => h))⟩ h45 h46
 replace h := h.bX 181 184 (by decide) rfl rfl
 replace h := h.bX 181 183 (by decide) rfl rfl
 replace h := h.bX 181 182 (by decide) rfl rfl
 refine ae (bQ rfl) (dA (vs := [WI, u43, (.int .i64 (y39.status)), (.int .i64 (y39.aV))]) h 1 [WI, u43, (.int .i64 (y39.status)), (.int .i64 (y39.aV))] rfl cZ rfl rfl rfl rfl rfl (ax (h.dG 181 rfl).one (ax (h.dG 183 rfl).one (ax rfl (ax rfl bu)))) fun w h => ah (az ?_))
 replace h := (h.fA 8).moveC 181 8 rfl rfl (by decide)
 replace h := (h.fA 9).moveC 182 9 rfl rfl (by decide)
 replace h := (h.fA 10).moveC 183 10 rfl rfl (by decide)
 replace h := (h.fA 11).moveC 184 11 rfl rfl (by decide)
 exact bS (WI, RN, y39.frames, u43, Xg, y39.cells, y39.status, y39.aV) ⟨h.cn _, hs⟩
 refine aG (az ?_)
 replace h := (h.fA 8).moveC 2 8 rfl rfl (by decide)
 replace h := (h.fA 9).moveC 3 9 rfl rfl (by decide)
 replace h := (h.fA 10).moveC 4 10 rfl rfl (by decide)
 replace h := (h.fA 11).moveC 5 11 rfl rfl (by decide)
 exact bS (eU, fq, sx.frames, vs1, eQ, sx.cells, sx.status, sx.aV) ⟨h.cn _, hs⟩
def tF (sx : LX.State) (i11 : Int) (vX : Int) (y9 : List Val) (ZR : List Val → Option (Bool × LX.State)) : Option (Bool × LX.State) :=
  gQ (jB ((sx.frames.length : Int) - 1)) ((idx sx.frames ((sx.frames.length : Int) - 1)).bind fun wT => (idx wT.regs vX).bind fun xN => (idx y9 i11).bind fun x41 => ZR (y9.set (i11).toNat xN))
def tH (sx : LX.State) (b : Ins) (a : List cz) (y9 : List Val) : Option (Bool × LX.State) :=
  gQ (Room 48 sx.frames [(⟨b.b, 0, y9, b.a⟩ : LX.Frame)]) (some (true, (⟨(sx.frames ++ [(⟨b.b, 0, y9, b.a⟩ : LX.Frame)]), sx.cells, sx.status, sx.aV⟩ : LX.State)))
def Gl (sx : LX.State) (i62 : Int) (pz : Int) (sS : List Val) (JB : List Val → Option (Bool × LX.State)) : Option (Bool × LX.State) :=
  gQ (jB ((sx.frames.length : Int) - 1)) ((idx sx.frames ((sx.frames.length : Int) - 1)).bind fun x74 => (idx x74.regs pz).bind fun x84 => (idx sS i62).bind fun x92 => JB (sS.set (i62).toNat x84))
def Gm (sx : LX.State) (b : Ins) (a : List cz) (sS : List Val) : Option (Bool × LX.State) :=
  gQ (Room 48 sx.frames [(⟨b.b, 0, sS, b.a⟩ : LX.Frame)]) (some (true, (⟨(sx.frames ++ [(⟨b.b, 0, sS, b.a⟩ : LX.Frame)]), sx.cells, sx.status, sx.aV⟩ : LX.State)))
def JS (sx : LX.State) (a : List cz) (b : Ins) : Option (Bool × LX.State) :=
  bif decide (((sx.frames.length : Int) : Int) = 10) then some (false, sx) else (idx a b.b).bind fun Bc => gQ (0 ≤ Bc.regs ∧ Bc.regs * 16 ≤ 140737488355328) (eO (tF sx) (tH sx b a) 0 b.args (List.replicate Bc.regs.toNat (⟨0, 0⟩ : Val)))
theorem Iy (w0 : World) (M : BS) (hM : ∀ b, M b → b < w0.heap.size) (sb : Nat) (sx : LX.State) (eU vs1 : Value) (fq eQ : List Value) (hC : Chunk.holds w0 M (Chunk.own' (.two (.two (.two (.two (.blk sb [eU, vs1, (.int .i64 (sx.status)), (.int .i64 (sx.aV))]) (.own aB.raw 49 eU (List.zip sx.frames fq))) (.bL (aR aL 51 hn fq (List.map aB.sub sx.frames)))) (.own (aU Val).raw 47 vs1 (List.zip sx.cells eQ))) (.bL (aR aL 51 hn eQ (List.map (aU Val).sub sx.cells))) : Chunk)) (.two (.two (.two (.two (.blk sb [eU, vs1, (.int .i64 (sx.status)), (.int .i64 (sx.aV))]) (.own aB.raw 49 eU (List.zip sx.frames fq))) (.bL (aR aL 51 hn fq (List.map aB.sub sx.frames)))) (.own (aU Val).raw 47 vs1 (List.zip sx.cells eQ))) (.bL (aR aL 51 hn eQ (List.map (aU Val).sub sx.cells))) : Chunk)) (hap : ∀ b, Chunk.own' (.two (.two (.two (.two (.blk sb [eU, vs1, (.int .i64 (sx.status)), (.int .i64 (sx.aV))]) (.own aB.raw 49 eU (List.zip sx.frames fq))) (.bL (aR aL 51 hn fq (List.map aB.sub sx.frames)))) (.own (aU Val).raw 47 vs1 (List.zip sx.cells eQ))) (.bL (aR aL 51 hn eQ (List.map (aU Val).sub sx.cells))) : Chunk) b → ¬ M b) (va : Value) (a : List cz) (ha : fo j4 w0 (fun b => M b ∨ (.two (.two (.two (.two (.blk sb [eU, vs1, (.int .i64 (sx.status)), (.int .i64 (sx.aV))]) (.own aB.raw 49 eU (List.zip sx.frames fq))) (.bL (aR aL 51 hn fq (List.map aB.sub sx.frames)))) (.own (aU Val).raw 47 vs1 (List.zip sx.cells eQ))) (.bL (aR aL 51 hn eQ (List.map (aU Val).sub sx.cells))) : Chunk).own' b) va a) (b : Ins) (XV : Value) (hb4 : fo fH w0 (fun b => M b ∨ (.two (.two (.two (.two (.blk sb [eU, vs1, (.int .i64 (sx.status)), (.int .i64 (sx.aV))]) (.own aB.raw 49 eU (List.zip sx.frames fq))) (.bL (aR aL 51 hn fq (List.map aB.sub sx.frames)))) (.own (aU Val).raw 47 vs1 (List.zip sx.cells eQ))) (.bL (aR aL 51 hn eQ (List.map (aU Val).sub sx.cells))) : Chunk).own' b) XV b.args) (r : Bool × LX.State) (hs : JS sx a b = some r) :
    Calls Tryz.prog 90 #[va, (.pointer (some ⟨sb, 0, none⟩)), (.agg #[(.int .i64 (b.op)), (.int .i64 (b.a)), (.int .i64 (b.b)), (.int .i64 (b.c)), XV])] w0 (fun e w' => aS (Chunk.own' (.two (.two (.two (.two (.blk sb [eU, vs1, (.int .i64 (sx.status)), (.int .i64 (sx.aV))]) (.own aB.raw 49 eU (List.zip sx.frames fq))) (.bL (aR aL 51 hn fq (List.map aB.sub sx.frames)))) (.own (aU Val).raw 47 vs1 (List.zip sx.cells eQ))) (.bL (aR aL 51 hn eQ (List.map (aU Val).sub sx.cells))) : Chunk)) w0 w' ∧ ∃ AZ, ∃ A7, ∃ A8, ∃ A9, e = .returned (.bool r.1) ∧ Chunk.holds w' M (Chunk.own' (.two (.two (.two (.two (.blk sb [AZ, A7, .int .i64 r.2.status, .int .i64 r.2.aV]) (.own aB.raw 49 AZ (List.zip r.2.frames A8))) (.bL (aR aL 51 hn A8 (List.map aB.sub r.2.frames)))) (.own (aU Val).raw 47 A7 (List.zip r.2.cells A9))) (.bL (aR aL 51 hn A9 (List.map (aU Val).sub r.2.cells))) : Chunk)) (.two (.two (.two (.two (.blk sb [AZ, A7, .int .i64 r.2.status, .int .i64 r.2.aV]) (.own aB.raw 49 AZ (List.zip r.2.frames A8))) (.bL (aR aL 51 hn A8 (List.map aB.sub r.2.frames)))) (.own (aU Val).raw 47 A7 (List.zip r.2.cells A9))) (.bL (aR aL 51 hn A9 (List.map (aU Val).sub r.2.cells))) : Chunk) ∧ (∀ b, Chunk.own' (.two (.two (.two (.two (.blk sb [AZ, A7, .int .i64 r.2.status, .int .i64 r.2.aV]) (.own aB.raw 49 AZ (List.zip r.2.frames A8))) (.bL (aR aL 51 hn A8 (List.map aB.sub r.2.frames)))) (.own (aU Val).raw 47 A7 (List.zip r.2.cells A9))) (.bL (aR aL 51 hn A9 (List.map (aU Val).sub r.2.cells))) : Chunk) b → b < w0.heap.size → Chunk.own' (.two (.two (.two (.two (.blk sb [eU, vs1, (.int .i64 (sx.status)), (.int .i64 (sx.aV))]) (.own aB.raw 49 eU (List.zip sx.frames fq))) (.bL (aR aL 51 hn fq (List.map aB.sub sx.frames)))) (.own (aU Val).raw 47 vs1 (List.zip sx.cells eQ))) (.bL (aR aL 51 hn eQ (List.map (aU Val).sub sx.cells))) : Chunk) b)) := by
 refine aQ (args := [va, (.pointer (some ⟨sb, 0, none⟩)), (.agg #[(.int .i64 (b.op)), (.int .i64 (b.a)), (.int .i64 (b.b)), (.int .i64 (b.c)), XV])]) Tryz.func90 rfl Tryz.ntmps90 (Nat.le_of_ble_eq_true rfl) ?_
 have h := SH.ED hM hC hap
 replace h := h.Bw 6 ha zw
 replace h := h.Bw 7 hb4 (rQ zw)
 generalize zy : (.two (.two (.two (.two (.blk sb [eU, vs1, (.int .i64 (sx.status)), (.int .i64 (sx.aV))]) (.own aB.raw 49 eU (List.zip sx.frames fq))) (.bL (aR aL 51 hn fq (List.map aB.sub sx.frames)))) (.own (aU Val).raw 47 vs1 (List.zip sx.cells eQ))) (.bL (aR aL 51 hn eQ (List.map (aU Val).sub sx.cells))) : Chunk).own' = K0 at h
 replace h := h.bX 1 5 (by decide) rfl rfl
 replace h := h.bX 1 4 (by decide) rfl rfl
 replace h := h.bX 1 3 (by decide) rfl rfl
 replace h := h.bX 1 2 (by decide) rfl rfl
 have uu := ha.bZ
 refine ai (ag (nX (cs := [(.int .i64 (b.op)), (.int .i64 (b.a)), (.int .i64 (b.b)), (.int .i64 (b.c)), XV]) h 8 rfl rfl fun w b1 h => ae (aj (v := (.bool (false))) rfl) (ah (aa (ai (ai (ag (ae (au (v := (.pointer (some ⟨sb, 0, none⟩))) rfl) (ae (bQ rfl) (ae (ak eH rfl) (ae (aF h 1 rfl iR rfl rfl) (ae (qo (N := aB) dw rfl (h.ed 2 rfl) (h.iB 3 rfl)) (ae (bH rfl rfl) (ah (aa (aK hs rfl (fun c2 hs => ?_) (fun c2 hs => ?_)))))))))))))))))
 refine ai (ag (ae (aj (v := (.bool (false))) rfl) (ah (aa (aI (aC (bV (v := (.bool (false))) Tryz.results90 rfl ?_)))))))
 replace h := h.pair 1 2 (by decide)
 replace h := h.pair 1 3 (by decide)
 replace h := h.pair 1 4 (by decide)
 replace h := h.pair 1 5 (by decide)
 obtain rfl := Option.some.inj hs
 subst zy
 obtain ⟨o1, o2, o3⟩ := h.qp 1 (C := (.two (.two (.two (.two (.blk sb [eU, vs1, (.int .i64 (sx.status)), (.int .i64 (sx.aV))]) (.own aB.raw 49 eU (List.zip sx.frames fq))) (.bL (aR aL 51 hn fq (List.map aB.sub sx.frames)))) (.own (aU Val).raw 47 vs1 (List.zip sx.cells eQ))) (.bL (aR aL 51 hn eQ (List.map (aU Val).sub sx.cells))) : Chunk)) rfl ⟨⟨⟨⟨trivial, trivial⟩, trivial⟩, trivial⟩, trivial⟩
 exact ⟨o2, eU, vs1, fq, eQ, rfl, o1, o3⟩
 refine aG (aa (ai (E9 mixed h fun w h => iD 0 (aS.refl BE _) rfl ay (by kernel_rfl) (by kernel_rfl) (by kernel_rfl) (fun w hk => ak iF rfl) (iD 1 (aS.refl BE _) rfl ay (by kernel_rfl) (by kernel_rfl) (by kernel_rfl) (fun w hk => have h := h.grow hk; aF h 8 rfl bz rfl rfl) (iD 2 (aS.refl BE _) rfl ay (by kernel_rfl) (by kernel_rfl) (by kernel_rfl) (fun w hk => au (v := va) rfl) (iD 3 (aS.refl BE _) rfl ay (by kernel_rfl) (by kernel_rfl) (by kernel_rfl) (fun w hk => ak iF rfl) (iD 4 (aS.refl BE _) rfl ay (by kernel_rfl) (by kernel_rfl) (by kernel_rfl) (fun w hk => have h := h.grow hk; aF h 8 rfl bz rfl rfl) ?_)))))))
 obtain ⟨Bc, NR, hs⟩ := aP hs
 obtain ⟨bq3x5_4, oq3x5_5, ZT, h, Um, Un⟩ := h.Dl 6 69 rfl jq rfl (aJ NR).1 (aJ NR).2
 obtain ⟨uq3x5_8, rfl, Uo⟩ := nz Um
 replace h := h.cO 70 Uo.up
 refine iD 5 (aS.refl BE _) rfl ay (by kernel_rfl) (by kernel_rfl) (by kernel_rfl) (fun w hk => Un _ _ _ _ _ _ _ _ _ rfl rfl) (iD 6 (aS.refl BE _) rfl ay (by kernel_rfl) (by kernel_rfl) (by kernel_rfl) (fun w hk => ak yP rfl) (iD 7 (aS.refl BE _) rfl ay (by kernel_rfl) (by kernel_rfl) (by kernel_rfl) (fun w hk => have h := h.grow hk; ek (k := 1) h 69 rfl bz rfl rfl) (iD 9 (aS.refl BE _) rfl ay (by kernel_rfl) (by kernel_rfl) (by kernel_rfl) (fun w hk => ak jV rfl) (iD 10 (aS.refl BE _) rfl ay (by kernel_rfl) (by kernel_rfl) (by kernel_rfl) (fun w hk => have h := h.grow hk; aF h 8 rfl bz rfl rfl) ?_))))
 obtain ⟨NS, hs⟩ := bI hs
 obtain ⟨ZU, ZV⟩ : ∃ x, x = w := ⟨_, rfl⟩
 have hg5 : Grow ZU w := ZV ▸ aS.refl BE w
 refine Ns ZV.symm (Tv 8 12 (by kernel_rfl) rfl ay rfl ay ?_ ?_)
 refine xC (R := aL) (zs := [(.int .i64 (0)), (.int .i64 (0))]) (a := (⟨0, 0⟩ : Val)) h 105 uj bT rfl (by decide) rfl rfl NS rfl (fun _ _ => rfl) fun w dX h Gn Gp => ?_
 have R9 : ∀ b, ob dX b → ZU.heap.size ≤ b := fun b hb => Nat.le_trans hg5.size (Gp b hb)
 replace hg5 := hg5.trans Gn
 refine ah (rO hg5 (iD 11 hg5 rfl ay (by kernel_rfl) (by kernel_rfl) (by kernel_rfl) (fun w hk => dO (pv := [(0, (.int .i64 (b.b))), (2, dX), (3, (.int .i64 (b.a)))]) (out := [(.int .i64 (b.b)), (.int .i64 (0)), dX, (.int .i64 (b.a))]) FV rfl ⟨0, 1, [(.int .i64 (b.b))], rfl, rfl, rfl, Nat.le_of_ble_eq_true rfl, ⟨2, 1, [dX], rfl, (iT (h.dG 105 rfl).one), rfl, Nat.le_of_ble_eq_true rfl, ⟨3, 1, [(.int .i64 (b.a))], rfl, rfl, rfl, Nat.le_of_ble_eq_true rfl, rfl⟩⟩⟩) (yJ 12 (by kernel_rfl) rfl ay (Dt h 153 iU fun w Af h D5 D6 => ?_))))
 have D7 : ZU.heap.size ≤ Af := Nat.le_trans hg5.size D6
 replace hg5 := hg5.trans D5
 refine ah (rO hg5 (yJ 13 (by kernel_rfl) rfl ay (wZ (vs := [(.int .i64 (b.b)), (.int .i64 (0)), dX, (.int .i64 (b.a))]) h 153 [(.int .i64 (b.b)), (.int .i64 (0)), dX, (.int .i64 (b.a))] rfl iU rfl rfl rfl rfl rfl (ax rfl (ax rfl (ax (h.dG 105 rfl).one (ax rfl bu)))) fun w h Gq => ?_)))
 replace hg5 := hg5.fresh Gq (fun x hx => hx ▸ D7)
 refine ah (rO hg5 (Cu (by kernel_rfl) (aa (ai (ai (ag (ae (ak vD rfl) (ae (aF h 8 rfl uo rfl rfl) (ae (bU dh rfl (h.lY 7 rfl)) (ae (au (v := (.int .i64 (0))) rfl) (ah (aa (aT (gL (σ := Nat × Int × List Val) (inl [8, 9, 31, 32, 33, 34, 35, 36, 37, 38, 39, 40, 41, 42, 43, 44, 45, 46, 47, 48, 49, 50, 51, 52, 53, 54, 55, 56]) (fun ⟨k10, i11, y9⟩ => [(31, (.int .i64 (i11)))]) (fun ⟨k10, i11, y9⟩ w => SH w0 M K0 w (hset [(1, .blk sb [eU, vs1, (.int .i64 (sx.status)), (.int .i64 (sx.aV))]), (2, .own aB.raw 49 eU (List.zip sx.frames fq)), (3, .bL (aR aL 51 hn fq (List.map aB.sub sx.frames))), (4, .own (aU Val).raw 47 vs1 (List.zip sx.cells eQ)), (5, .bL (aR aL 51 hn eQ (List.map (aU Val).sub sx.cells))), (7, .rd fH XV b.args), (105, .own aL 51 dX y9), (153, .blk Af [(.int .i64 (b.b)), (.int .i64 (0)), dX, (.int .i64 (b.a))])]) ∧ i11 = (k10 : Int) ∧ eO (tF sx) (tH sx b a) i11 (b.args.drop k10) y9 = some r) (fun ⟨k10, i11, y9⟩ => b.args.length - k10) ⟨0, 0, (List.replicate Bc.regs.toNat (⟨0, 0⟩ : Val))⟩ ⟨rfl, trivial⟩ ?_ ?_))))))))))))))
 exact ⟨h.cn _, rfl, hs⟩
 rintro ⟨k10, i11, y9⟩ w dD ⟨h, hik, hs⟩
 refine ai (ag ?_)
 refine ae (dS rfl rfl) (ah (aa ?_))
 refine ai (iy rfl (fun e15 => ?_) (fun e15 => ?_))
 refine aG (aa ?_)
 obtain ⟨vX, e16a, e16b⟩ := gy (hik ▸ e15)
 rw [e16b, iG] at hs
 generalize ZW : eO (tF sx) (tH sx b a) (i11 + 1) (b.args.drop (k10 + 1)) = ZR at hs
 have e16r := gD ((h.lY 7 rfl)).bZ hik e15
 refine ai (aT (ai (ag (ae (au (v := (.int .i64 (i11))) rfl) ?_))))
 obtain ⟨b18, o19, cs20, h, r21, i17⟩ := h.Dl 7 189 rfl dh rfl (iQ hik) (gB hik e16a)
 obtain rfl := r21
 refine ae (i17 _ _ _ _ _ _ _ _ _ rfl rfl) (ae (ek (k := 0) h 189 rfl bz rfl rfl) (ae (aj (v := (.int .i64 (i11))) rfl) (ae (aj (v := (.int .i64 (vX))) rfl) (ah (aa (qI 20 mixed (by kernel_rfl) h fun w h => aN (ak l8 rfl) (aN (aF h 153 rfl mr rfl rfl) (aN (au (v := (.int .i64 (i11))) rfl) (aN (au (v := (.pointer (some ⟨sb, 0, none⟩))) rfl) (aN (bQ rfl) (aN (ak eH rfl) (aN (aF h 1 rfl iR rfl rfl) (aN (au (v := (.pointer (some ⟨sb, 0, none⟩))) rfl) (aN (bQ rfl) (aN (ak eH rfl) (aN (aF h 1 rfl iR rfl rfl) (aN (qo (N := aB) dw rfl (h.ed 2 rfl) (h.iB 3 rfl)) ?_)))))))))))))))))
 obtain ⟨a22, hs⟩ := bI hs
 refine aN (nW rfl rfl a22) ?_
 obtain ⟨wT, e24, hs⟩ := aP hs
 obtain ⟨u28, e29, h⟩ := h.qL 3 190 wT.regs rfl rfl (by decide) (aJ e24).2 rfl
 obtain ⟨Wd, q27, i25⟩ := h.vN 2 rfl dw rfl (aJ e24).1 (fB (aJ e24).2 e29)
 refine aN (i25 _ _ _ _ _ _ _ _ _ rfl rfl) (aN (ak l8 rfl) ?_)
 obtain ⟨cs30, m31, r32⟩ := h.yx 2 rfl q27 (fB (aJ e24).2 e29)
 obtain ⟨rfl, -⟩ := r32
 refine aN (oJ (k := 2) m31 mr rfl rfl) (aN (au (v := (.int .i64 (vX))) rfl) ?_)
 obtain ⟨xN, e34, hs⟩ := aP hs
 obtain ⟨b36, q37, i35⟩ := h.vN 190 rfl bR rfl (aJ e34).1 (aJ e34).2
 refine aN (i35 _ _ _ _ _ _ _ _ _ rfl rfl) ?_
 obtain ⟨cs38, WO, r40⟩ := h.yx 190 rfl q37 (aJ e34).2
 obtain rfl := r40
 refine aN (ou (k := 0) (vs := [(.int .i64 (xN.kind)), (.int .i64 (xN.n))]) WO bT rfl rfl rfl (Nat.le_of_ble_eq_true rfl)) ?_
 obtain ⟨x41, e42, hs⟩ := aP hs
 obtain ⟨O8, Zo, i43⟩ := h.vN 105 rfl bR rfl (aJ e42).1 (aJ e42).2
 refine aN (i43 _ _ _ _ _ _ _ _ _ rfl rfl) (zm (w9 (a' := xN) (vs := [(.int .i64 (xN.kind)), (.int .i64 (xN.n))]) h 105 rfl Zo rfl (aJ e42).2 bT rfl rfl rfl rfl rfl fun w h k46 => ah (aA (aa (ag (ae (dC rfl rfl e16r) (ae (au (v := (.int .i64 ((i11 + 1)))) rfl) (ah ?_))))))))
 replace h := h.iL 3 190 rfl rfl (by decide) (aJ e24).2 e29 rfl
 refine az ?_
 subst ZW
 exact jN ⟨k10 + 1, i11 + 1, (y9.set (i11).toNat xN)⟩ ⟨h.cn _, by omega, hs⟩ (by have := of_decide_eq_true e15; dsimp only; omega)
 rw [gz (hik ▸ e15), mh] at hs
 refine df (aO (aO (bF (aa (ai (lS (L := (fun b => ob eU b ∨ b = sb)) mixed h fun w h => aZ 0 (aS.refl _ _) rfl ay (by kernel_rfl) (by kernel_rfl) (by kernel_rfl) (fun w hk => au (v := (.pointer (some ⟨sb, 0, none⟩))) rfl) (aZ 1 (aS.refl _ _) rfl ay (by kernel_rfl) (by kernel_rfl) (by kernel_rfl) (fun w hk => au (v := (.pointer (some ⟨sb, 0, none⟩))) rfl) (aZ 2 (aS.refl _ _) rfl ay (by kernel_rfl) (by kernel_rfl) (by kernel_rfl) (fun w hk => bQ rfl) (aZ 3 (aS.refl _ _) rfl ay (by kernel_rfl) (by kernel_rfl) (by kernel_rfl) (fun w hk => ak eH rfl) (aZ 5 (aS.refl _ _) rfl ay (by kernel_rfl) (by kernel_rfl) (by kernel_rfl) (fun w hk => have h := h.Dr 2 1 (by decide) rfl rfl hk; dz (vs := [(.int .i64 (b.b)), (.int .i64 (0)), dX, (.int .i64 (b.a))]) h 153 rfl iU rfl rfl rfl) ?_))))))))))
 obtain ⟨CZ, hs⟩ := bI hs
 obtain ⟨Sa, Vi⟩ : ∃ x, x = w := ⟨_, rfl⟩
 have rG : aS (fun b => ob eU b ∨ b = sb) Sa w := Vi ▸ aS.refl (fun b => ob eU b ∨ b = sb) w
 refine rP Vi.symm (nY 4 6 (by kernel_rfl) rfl ay rfl ay ?_ ?_)
 refine ae (aF h 1 rfl iR rfl rfl) (ah (aX rG (bP 6 (by kernel_rfl) rfl ay ?_)))
 have D8 : (Value.oneCell' dX) = true := (h.dG 105 rfl).one
 refine zn (R := aB.raw) (vs := [(.agg #[(.int .i64 (b.b)), (.int .i64 (0)), dX, (.int .i64 (b.a))])]) (xs := List.zip [(⟨b.b, 0, y9, b.a⟩ : LX.Frame)] [dX]) h 263 oV rfl rfl rfl ⟨⟨rfl, D8⟩, trivial⟩ rfl fun w Gr h D9 Ea => ?_
 have Pf : ∀ b, ob Gr b → Sa.heap.size ≤ b := fun b hb => Nat.le_trans rG.size (Ea b hb)
 replace rG := rG.grow D9
 replace h := h.wN (N := aB) 105 (⟨b.b, 0, y9, b.a⟩ : LX.Frame) rfl rfl
 refine ah (aX rG (bP 7 (by kernel_rfl) rfl ay ?_))
 have wz := h.iB 3 rfl
 have yn := h.iB 105 rfl
 have Pg := rG.size
 refine oL (R := aB.raw) (m := List.zip [(⟨b.b, 0, y9, b.a⟩ : LX.Frame)] [dX]) h 2 rfl (h.ed 263 rfl) oV rfl rfl rfl (by rw [dQ wz, dQ yn]; exact CZ.1) (by rw [dQ wz, dQ yn]; exact CZ.2) fun w pQ h Eb Ec => ?_
 have Ph : ∀ b, ob pQ b → b < Sa.heap.size → ob eU b := fun b hb hl => Ec b hb (Nat.lt_of_lt_of_le hl (rG).size)
 replace rG := aS.step rG Eb (fun _ hx _ => .inl (hx))
 replace h := (h.wL 3 105 rfl rfl (by decide)).fA 263
 rw [wM wz, ← List.map_append] at h
 obtain ⟨tJ, BP⟩ : ∃ z, z = fq ++ [dX] := ⟨_, rfl⟩
 rw [← BP] at h
 refine ah (aX rG (aZ 8 rG rfl ay (by kernel_rfl) (by kernel_rfl) (by kernel_rfl) (fun w hk => bQ rfl) (aZ 9 rG rfl ay (by kernel_rfl) (by kernel_rfl) (by kernel_rfl) (fun w hk => ak eH rfl) (bP 10 (by kernel_rfl) rfl ay (qO h 1 [pQ, vs1, (.int .i64 (sx.status)), (.int .i64 (sx.aV))] rfl iR rfl rfl rfl rfl (h.dG 2 rfl).one fun w h Ed => ?_)))))
 replace rG := aS.step rG Ed (fun _ hx _ => .inr (hx))
 refine ah (aX rG (fZ (by kernel_rfl) (aa (ai (ag (ae (aj (v := (.bool (true))) rfl) (ah (aa (aI (bV (v := (.bool (true))) Tryz.results90 rfl ?_))))))))))
 replace h := h.pair 1 2 (by decide)
 replace h := h.pair 1 3 (by decide)
 replace h := h.pair 1 4 (by decide)
 replace h := h.pair 1 5 (by decide)
 obtain rfl := Option.some.inj hs
 subst zy
 obtain ⟨o1, o2, o3⟩ := h.qp 1 (C := (.two (.two (.two (.two (.blk sb [pQ, vs1, (.int .i64 (sx.status)), (.int .i64 (sx.aV))]) (.own aB.raw 49 pQ (List.zip (sx.frames ++ [(⟨b.b, 0, y9, b.a⟩ : LX.Frame)]) tJ))) (.bL (aR aL 51 hn tJ (List.map aB.sub (sx.frames ++ [(⟨b.b, 0, y9, b.a⟩ : LX.Frame)]))))) (.own (aU Val).raw 47 vs1 (List.zip sx.cells eQ))) (.bL (aR aL 51 hn eQ (List.map (aU Val).sub sx.cells))) : Chunk)) rfl ⟨⟨⟨⟨trivial, trivial⟩, trivial⟩, trivial⟩, trivial⟩
 exact ⟨o2, pQ, vs1, tJ, eQ, rfl, o1, o3⟩
 have D8 : (Value.oneCell' dX) = true := (h.dG 105 rfl).one
 refine zn (R := aB.raw) (vs := [(.agg #[(.int .i64 (b.b)), (.int .i64 (0)), dX, (.int .i64 (b.a))])]) (xs := List.zip [(⟨b.b, 0, y9, b.a⟩ : LX.Frame)] [dX]) h 263 oV rfl rfl rfl ⟨⟨rfl, D8⟩, trivial⟩ rfl fun w Gr h D9 Ea => ?_
 have Pf : ∀ b, ob Gr b → Sa.heap.size ≤ b := fun b hb => Nat.le_trans rG.size (Ea b hb)
 replace rG := rG.grow D9
 replace h := h.wN (N := aB) 105 (⟨b.b, 0, y9, b.a⟩ : LX.Frame) rfl rfl
 refine ah (aX rG (bP 4 (by kernel_rfl) rfl ay (ae (aF h 1 rfl iR rfl rfl) (ah (aX rG (bP 7 (by kernel_rfl) rfl ay ?_))))))
 have wz := h.iB 3 rfl
 have yn := h.iB 105 rfl
 have Pg := rG.size
 refine oL (R := aB.raw) (m := List.zip [(⟨b.b, 0, y9, b.a⟩ : LX.Frame)] [dX]) h 2 rfl (h.ed 263 rfl) oV rfl rfl rfl (by rw [dQ wz, dQ yn]; exact CZ.1) (by rw [dQ wz, dQ yn]; exact CZ.2) fun w pQ h Eb Ec => ?_
 have Ph : ∀ b, ob pQ b → b < Sa.heap.size → ob eU b := fun b hb hl => Ec b hb (Nat.lt_of_lt_of_le hl (rG).size)
 replace rG := aS.step rG Eb (fun _ hx _ => .inl (hx))
 replace h := (h.wL 3 105 rfl rfl (by decide)).fA 263
 rw [wM wz, ← List.map_append] at h
 obtain ⟨tJ, BP⟩ : ∃ z, z = fq ++ [dX] := ⟨_, rfl⟩
 rw [← BP] at h
 refine ah (aX rG (aZ 8 rG rfl ay (by kernel_rfl) (by kernel_rfl) (by kernel_rfl) (fun w hk => bQ rfl) (aZ 9 rG rfl ay (by kernel_rfl) (by kernel_rfl) (by kernel_rfl) (fun w hk => ak eH rfl) (bP 10 (by kernel_rfl) rfl ay (qO h 1 [pQ, vs1, (.int .i64 (sx.status)), (.int .i64 (sx.aV))] rfl iR rfl rfl rfl rfl (h.dG 2 rfl).one fun w h Ed => ?_)))))
 replace rG := aS.step rG Ed (fun _ hx _ => .inr (hx))
 refine ah (aX rG (fZ (by kernel_rfl) (aa (ai (ag (ae (aj (v := (.bool (true))) rfl) (ah (aa (aI (bV (v := (.bool (true))) Tryz.results90 rfl ?_))))))))))
 replace h := h.pair 1 2 (by decide)
 replace h := h.pair 1 3 (by decide)
 replace h := h.pair 1 4 (by decide)
 replace h := h.pair 1 5 (by decide)
 obtain rfl := Option.some.inj hs
 subst zy
 obtain ⟨o1, o2, o3⟩ := h.qp 1 (C := (.two (.two (.two (.two (.blk sb [pQ, vs1, (.int .i64 (sx.status)), (.int .i64 (sx.aV))]) (.own aB.raw 49 pQ (List.zip (sx.frames ++ [(⟨b.b, 0, y9, b.a⟩ : LX.Frame)]) tJ))) (.bL (aR aL 51 hn tJ (List.map aB.sub (sx.frames ++ [(⟨b.b, 0, y9, b.a⟩ : LX.Frame)]))))) (.own (aU Val).raw 47 vs1 (List.zip sx.cells eQ))) (.bL (aR aL 51 hn eQ (List.map (aU Val).sub sx.cells))) : Chunk)) rfl ⟨⟨⟨⟨trivial, trivial⟩, trivial⟩, trivial⟩, trivial⟩
 exact ⟨o2, pQ, vs1, tJ, eQ, rfl, o1, o3⟩
 refine Dt h 153 iU fun w Af h D5 D6 => ?_
 have D7 : ZU.heap.size ≤ Af := Nat.le_trans hg5.size D6
 replace hg5 := hg5.trans D5
 refine ah (rO hg5 (yJ 8 (by kernel_rfl) rfl ay (xC (R := aL) (zs := [(.int .i64 (0)), (.int .i64 (0))]) (a := (⟨0, 0⟩ : Val)) h 105 uj bT rfl (by decide) rfl rfl NS rfl (fun _ _ => rfl) fun w dX h Gn Gp => ?_)))
 have R9 : ∀ b, ob dX b → ZU.heap.size ≤ b := fun b hb => Nat.le_trans hg5.size (Gp b hb)
 replace hg5 := hg5.trans Gn
 refine ah (rO hg5 (iD 11 hg5 rfl ay (by kernel_rfl) (by kernel_rfl) (by kernel_rfl) (fun w hk => dO (pv := [(0, (.int .i64 (b.b))), (2, dX), (3, (.int .i64 (b.a)))]) (out := [(.int .i64 (b.b)), (.int .i64 (0)), dX, (.int .i64 (b.a))]) FV rfl ⟨0, 1, [(.int .i64 (b.b))], rfl, rfl, rfl, Nat.le_of_ble_eq_true rfl, ⟨2, 1, [dX], rfl, (iT (h.dG 105 rfl).one), rfl, Nat.le_of_ble_eq_true rfl, ⟨3, 1, [(.int .i64 (b.a))], rfl, rfl, rfl, Nat.le_of_ble_eq_true rfl, rfl⟩⟩⟩) (yJ 13 (by kernel_rfl) rfl ay (wZ (vs := [(.int .i64 (b.b)), (.int .i64 (0)), dX, (.int .i64 (b.a))]) h 153 [(.int .i64 (b.b)), (.int .i64 (0)), dX, (.int .i64 (b.a))] rfl iU rfl rfl rfl rfl rfl (ax rfl (ax rfl (ax (h.dG 105 rfl).one (ax rfl bu)))) fun w h Gq => ?_))))
 replace hg5 := hg5.fresh Gq (fun x hx => hx ▸ D7)
 refine ah (rO hg5 (Cu (by kernel_rfl) (aa (ai (ai (ag (ae (ak vD rfl) (ae (aF h 8 rfl uo rfl rfl) (ae (bU dh rfl (h.lY 7 rfl)) (ae (au (v := (.int .i64 (0))) rfl) (ah (aa (aT (gL (σ := Nat × Int × List Val) (inl [8, 9, 31, 32, 33, 34, 35, 36, 37, 38, 39, 40, 41, 42, 43, 44, 45, 46, 47, 48, 49, 50, 51, 52, 53, 54, 55, 56]) (fun ⟨Uq, i62, sS⟩ => [(31, (.int .i64 (i62)))]) (fun ⟨Uq, i62, sS⟩ w => SH w0 M K0 w (hset [(1, .blk sb [eU, vs1, (.int .i64 (sx.status)), (.int .i64 (sx.aV))]), (2, .own aB.raw 49 eU (List.zip sx.frames fq)), (3, .bL (aR aL 51 hn fq (List.map aB.sub sx.frames))), (4, .own (aU Val).raw 47 vs1 (List.zip sx.cells eQ)), (5, .bL (aR aL 51 hn eQ (List.map (aU Val).sub sx.cells))), (7, .rd fH XV b.args), (105, .own aL 51 dX sS), (153, .blk Af [(.int .i64 (b.b)), (.int .i64 (0)), dX, (.int .i64 (b.a))])]) ∧ i62 = (Uq : Int) ∧ eO (Gl sx) (Gm sx b a) i62 (b.args.drop Uq) sS = some r) (fun ⟨Uq, i62, sS⟩ => b.args.length - Uq) ⟨0, 0, (List.replicate Bc.regs.toNat (⟨0, 0⟩ : Val))⟩ ⟨rfl, trivial⟩ ?_ ?_))))))))))))))
 exact ⟨h.cn _, rfl, hs⟩
 rintro ⟨Uq, i62, sS⟩ w dD ⟨h, hik, hs⟩
 refine ai (ag ?_)
 refine ae (dS rfl rfl) (ah (aa ?_))
 refine ai (iy rfl (fun ZX => ?_) (fun ZX => ?_))
 refine aG (aa ?_)
 obtain ⟨pz, e67a, e67b⟩ := gy (hik ▸ ZX)
 rw [e67b, iG] at hs
 generalize Ru : eO (Gl sx) (Gm sx b a) (i62 + 1) (b.args.drop (Uq + 1)) = JB at hs
 have e67r := gD ((h.lY 7 rfl)).bZ hik ZX
 refine ai (aT (ai (ag (ae (au (v := (.int .i64 (i62))) rfl) ?_))))
 obtain ⟨b69, o70, cs71, h, r72, i68⟩ := h.Dl 7 335 rfl dh rfl (iQ hik) (gB hik e67a)
 obtain rfl := r72
 refine ae (i68 _ _ _ _ _ _ _ _ _ rfl rfl) (ae (ek (k := 0) h 335 rfl bz rfl rfl) (ae (aj (v := (.int .i64 (i62))) rfl) (ae (aj (v := (.int .i64 (pz))) rfl) (ah (aa (qI 20 mixed (by kernel_rfl) h fun w h => aN (ak l8 rfl) (aN (aF h 153 rfl mr rfl rfl) (aN (au (v := (.int .i64 (i62))) rfl) (aN (au (v := (.pointer (some ⟨sb, 0, none⟩))) rfl) (aN (bQ rfl) (aN (ak eH rfl) (aN (aF h 1 rfl iR rfl rfl) (aN (au (v := (.pointer (some ⟨sb, 0, none⟩))) rfl) (aN (bQ rfl) (aN (ak eH rfl) (aN (aF h 1 rfl iR rfl rfl) (aN (qo (N := aB) dw rfl (h.ed 2 rfl) (h.iB 3 rfl)) ?_)))))))))))))))))
 obtain ⟨a73, hs⟩ := bI hs
 refine aN (nW rfl rfl a73) ?_
 obtain ⟨x74, ZY, hs⟩ := aP hs
 obtain ⟨u79, WY, h⟩ := h.qL 3 336 x74.regs rfl rfl (by decide) (aJ ZY).2 rfl
 obtain ⟨b77, q78, i76⟩ := h.vN 2 rfl dw rfl (aJ ZY).1 (fB (aJ ZY).2 WY)
 refine aN (i76 _ _ _ _ _ _ _ _ _ rfl rfl) (aN (ak l8 rfl) ?_)
 obtain ⟨cs81, m82, r83⟩ := h.yx 2 rfl q78 (fB (aJ ZY).2 WY)
 obtain ⟨rfl, -⟩ := r83
 refine aN (oJ (k := 2) m82 mr rfl rfl) (aN (au (v := (.int .i64 (pz))) rfl) ?_)
 obtain ⟨x84, XU, hs⟩ := aP hs
 obtain ⟨NM, q88, i86⟩ := h.vN 336 rfl bR rfl (aJ XU).1 (aJ XU).2
 refine aN (i86 _ _ _ _ _ _ _ _ _ rfl rfl) ?_
 obtain ⟨cs89, m90, r91⟩ := h.yx 336 rfl q88 (aJ XU).2
 obtain rfl := r91
 refine aN (ou (k := 0) (vs := [(.int .i64 (x84.kind)), (.int .i64 (x84.n))]) m90 bT rfl rfl rfl (Nat.le_of_ble_eq_true rfl)) ?_
 obtain ⟨x92, e93, hs⟩ := aP hs
 obtain ⟨b95, q96, i94⟩ := h.vN 105 rfl bR rfl (aJ e93).1 (aJ e93).2
 refine aN (i94 _ _ _ _ _ _ _ _ _ rfl rfl) (zm (w9 (a' := x84) (vs := [(.int .i64 (x84.kind)), (.int .i64 (x84.n))]) h 105 rfl q96 rfl (aJ e93).2 bT rfl rfl rfl rfl rfl fun w h k97 => ah (aA (aa (ag (ae (dC rfl rfl e67r) (ae (au (v := (.int .i64 ((i62 + 1)))) rfl) (ah ?_))))))))
 replace h := h.iL 3 336 rfl rfl (by decide) (aJ ZY).2 WY rfl
 refine az ?_
 subst Ru
 exact jN ⟨Uq + 1, i62 + 1, (sS.set (i62).toNat x84)⟩ ⟨h.cn _, by omega, hs⟩ (by have := of_decide_eq_true ZX; dsimp only; omega)
 rw [gz (hik ▸ ZX), mh] at hs
 refine df (aO (aO (bF (aa (ai (lS (L := (fun b => ob eU b ∨ b = sb)) mixed h fun w h => aZ 0 (aS.refl _ _) rfl ay (by kernel_rfl) (by kernel_rfl) (by kernel_rfl) (fun w hk => au (v := (.pointer (some ⟨sb, 0, none⟩))) rfl) (aZ 1 (aS.refl _ _) rfl ay (by kernel_rfl) (by kernel_rfl) (by kernel_rfl) (fun w hk => au (v := (.pointer (some ⟨sb, 0, none⟩))) rfl) (aZ 2 (aS.refl _ _) rfl ay (by kernel_rfl) (by kernel_rfl) (by kernel_rfl) (fun w hk => bQ rfl) (aZ 3 (aS.refl _ _) rfl ay (by kernel_rfl) (by kernel_rfl) (by kernel_rfl) (fun w hk => ak eH rfl) (aZ 5 (aS.refl _ _) rfl ay (by kernel_rfl) (by kernel_rfl) (by kernel_rfl) (fun w hk => have h := h.Dr 2 1 (by decide) rfl rfl hk; dz (vs := [(.int .i64 (b.b)), (.int .i64 (0)), dX, (.int .i64 (b.a))]) h 153 rfl iU rfl rfl rfl) ?_))))))))))
 obtain ⟨Bd, hs⟩ := bI hs
 obtain ⟨K6, Sb⟩ : ∃ x, x = w := ⟨_, rfl⟩
 have lv : aS (fun b => ob eU b ∨ b = sb) K6 w := Sb ▸ aS.refl (fun b => ob eU b ∨ b = sb) w
 refine rP Sb.symm (nY 4 6 (by kernel_rfl) rfl ay rfl ay ?_ ?_)
 refine ae (aF h 1 rfl iR rfl rfl) (ah (aX lv (bP 6 (by kernel_rfl) rfl ay ?_)))
 have BQ : (Value.oneCell' dX) = true := (h.dG 105 rfl).one
 refine zn (R := aB.raw) (vs := [(.agg #[(.int .i64 (b.b)), (.int .i64 (0)), dX, (.int .i64 (b.a))])]) (xs := List.zip [(⟨b.b, 0, sS, b.a⟩ : LX.Frame)] [dX]) h 409 oV rfl rfl rfl ⟨⟨rfl, BQ⟩, trivial⟩ rfl fun w Ee h BR BU => ?_
 have MO : ∀ b, ob Ee b → K6.heap.size ≤ b := fun b hb => Nat.le_trans lv.size (BU b hb)
 replace lv := lv.grow BR
 replace h := h.wN (N := aB) 105 (⟨b.b, 0, sS, b.a⟩ : LX.Frame) rfl rfl
 refine ah (aX lv (bP 7 (by kernel_rfl) rfl ay ?_))
 have tK := h.iB 3 rfl
 have wB := h.iB 105 rfl
 have MP := lv.size
 refine oL (R := aB.raw) (m := List.zip [(⟨b.b, 0, sS, b.a⟩ : LX.Frame)] [dX]) h 2 rfl (h.ed 409 rfl) oV rfl rfl rfl (by rw [dQ tK, dQ wB]; exact Bd.1) (by rw [dQ tK, dQ wB]; exact Bd.2) fun w mO h BV BX => ?_
 have MQ : ∀ b, ob mO b → b < K6.heap.size → ob eU b := fun b hb hl => BX b hb (Nat.lt_of_lt_of_le hl (lv).size)
 replace lv := aS.step lv BV (fun _ hx _ => .inl (hx))
 replace h := (h.wL 3 105 rfl rfl (by decide)).fA 409
 rw [wM tK, ← List.map_append] at h
 obtain ⟨qR, Ag⟩ : ∃ z, z = fq ++ [dX] := ⟨_, rfl⟩
 rw [← Ag] at h
 refine ah (aX lv (aZ 8 lv rfl ay (by kernel_rfl) (by kernel_rfl) (by kernel_rfl) (fun w hk => bQ rfl) (aZ 9 lv rfl ay (by kernel_rfl) (by kernel_rfl) (by kernel_rfl) (fun w hk => ak eH rfl) (bP 10 (by kernel_rfl) rfl ay (qO h 1 [mO, vs1, (.int .i64 (sx.status)), (.int .i64 (sx.aV))] rfl iR rfl rfl rfl rfl (h.dG 2 rfl).one fun w h BZ => ?_)))))
 replace lv := aS.step lv BZ (fun _ hx _ => .inr (hx))
 refine ah (aX lv (fZ (by kernel_rfl) (aa (ai (ag (ae (aj (v := (.bool (true))) rfl) (ah (aa (aI (bV (v := (.bool (true))) Tryz.results90 rfl ?_))))))))))
 replace h := h.pair 1 2 (by decide)
 replace h := h.pair 1 3 (by decide)
 replace h := h.pair 1 4 (by decide)
 replace h := h.pair 1 5 (by decide)
 obtain rfl := Option.some.inj hs
 subst zy
 obtain ⟨o1, o2, o3⟩ := h.qp 1 (C := (.two (.two (.two (.two (.blk sb [mO, vs1, (.int .i64 (sx.status)), (.int .i64 (sx.aV))]) (.own aB.raw 49 mO (List.zip (sx.frames ++ [(⟨b.b, 0, sS, b.a⟩ : LX.Frame)]) qR))) (.bL (aR aL 51 hn qR (List.map aB.sub (sx.frames ++ [(⟨b.b, 0, sS, b.a⟩ : LX.Frame)]))))) (.own (aU Val).raw 47 vs1 (List.zip sx.cells eQ))) (.bL (aR aL 51 hn eQ (List.map (aU Val).sub sx.cells))) : Chunk)) rfl ⟨⟨⟨⟨trivial, trivial⟩, trivial⟩, trivial⟩, trivial⟩
 exact ⟨o2, mO, vs1, qR, eQ, rfl, o1, o3⟩
 have BQ : (Value.oneCell' dX) = true := (h.dG 105 rfl).one
 refine zn (R := aB.raw) (vs := [(.agg #[(.int .i64 (b.b)), (.int .i64 (0)), dX, (.int .i64 (b.a))])]) (xs := List.zip [(⟨b.b, 0, sS, b.a⟩ : LX.Frame)] [dX]) h 409 oV rfl rfl rfl ⟨⟨rfl, BQ⟩, trivial⟩ rfl fun w Ee h BR BU => ?_
 have MO : ∀ b, ob Ee b → K6.heap.size ≤ b := fun b hb => Nat.le_trans lv.size (BU b hb)
 replace lv := lv.grow BR
 replace h := h.wN (N := aB) 105 (⟨b.b, 0, sS, b.a⟩ : LX.Frame) rfl rfl
 refine ah (aX lv (bP 4 (by kernel_rfl) rfl ay (ae (aF h 1 rfl iR rfl rfl) (ah (aX lv (bP 7 (by kernel_rfl) rfl ay ?_))))))
 have tK := h.iB 3 rfl
 have wB := h.iB 105 rfl
 have MP := lv.size
 refine oL (R := aB.raw) (m := List.zip [(⟨b.b, 0, sS, b.a⟩ : LX.Frame)] [dX]) h 2 rfl (h.ed 409 rfl) oV rfl rfl rfl (by rw [dQ tK, dQ wB]; exact Bd.1) (by rw [dQ tK, dQ wB]; exact Bd.2) fun w mO h BV BX => ?_
 have MQ : ∀ b, ob mO b → b < K6.heap.size → ob eU b := fun b hb hl => BX b hb (Nat.lt_of_lt_of_le hl (lv).size)
 replace lv := aS.step lv BV (fun _ hx _ => .inl (hx))
 replace h := (h.wL 3 105 rfl rfl (by decide)).fA 409
 rw [wM tK, ← List.map_append] at h
 obtain ⟨qR, Ag⟩ : ∃ z, z = fq ++ [dX] := ⟨_, rfl⟩
 rw [← Ag] at h
 refine ah (aX lv (aZ 8 lv rfl ay (by kernel_rfl) (by kernel_rfl) (by kernel_rfl) (fun w hk => bQ rfl) (aZ 9 lv rfl ay (by kernel_rfl) (by kernel_rfl) (by kernel_rfl) (fun w hk => ak eH rfl) (bP 10 (by kernel_rfl) rfl ay (qO h 1 [mO, vs1, (.int .i64 (sx.status)), (.int .i64 (sx.aV))] rfl iR rfl rfl rfl rfl (h.dG 2 rfl).one fun w h BZ => ?_)))))
 replace lv := aS.step lv BZ (fun _ hx _ => .inr (hx))
 refine ah (aX lv (fZ (by kernel_rfl) (aa (ai (ag (ae (aj (v := (.bool (true))) rfl) (ah (aa (aI (bV (v := (.bool (true))) Tryz.results90 rfl ?_))))))))))
 replace h := h.pair 1 2 (by decide)
 replace h := h.pair 1 3 (by decide)
 replace h := h.pair 1 4 (by decide)
 replace h := h.pair 1 5 (by decide)
 obtain rfl := Option.some.inj hs
 subst zy
 obtain ⟨o1, o2, o3⟩ := h.qp 1 (C := (.two (.two (.two (.two (.blk sb [mO, vs1, (.int .i64 (sx.status)), (.int .i64 (sx.aV))]) (.own aB.raw 49 mO (List.zip (sx.frames ++ [(⟨b.b, 0, sS, b.a⟩ : LX.Frame)]) qR))) (.bL (aR aL 51 hn qR (List.map aB.sub (sx.frames ++ [(⟨b.b, 0, sS, b.a⟩ : LX.Frame)]))))) (.own (aU Val).raw 47 vs1 (List.zip sx.cells eQ))) (.bL (aR aL 51 hn eQ (List.map (aU Val).sub sx.cells))) : Chunk)) rfl ⟨⟨⟨⟨trivial, trivial⟩, trivial⟩, trivial⟩, trivial⟩
 exact ⟨o2, mO, vs1, qR, eQ, rfl, o1, o3⟩
def JU (sx : LX.State) (a : Val) (b : Int) : Option LX.State :=
  gQ (jB ((sx.frames.length : Int) - 1)) ((sub? sx.frames 0 ((sx.frames.length : Int) - 1)).bind fun x3 => bif decide ((((sx.frames.take (((sx.frames.length : Int) - 1)).toNat).length : Int) : Int) = 0) then some (⟨(sx.frames.take (((sx.frames.length : Int) - 1)).toNat), sx.cells, 1, sx.aV⟩ : LX.State) else gQ (jB (((sx.frames.take (((sx.frames.length : Int) - 1)).toNat).length : Int) - 1)) ((idx (sx.frames.take (((sx.frames.length : Int) - 1)).toNat) (((sx.frames.take (((sx.frames.length : Int) - 1)).toNat).length : Int) - 1)).bind fun dV => (idx dV.regs b).bind fun BN => some (⟨((sx.frames.take (((sx.frames.length : Int) - 1)).toNat).set ((((sx.frames.take (((sx.frames.length : Int) - 1)).toNat).length : Int) - 1)).toNat ({ dV with regs := (dV.regs.set (b).toNat a) })), sx.cells, sx.status, sx.aV⟩ : LX.State)))
theorem Pj (w0 : World) (M : BS) (hM : ∀ b, M b → b < w0.heap.size) (sb : Nat) (sx : LX.State) (eU vs1 : Value) (fq eQ : List Value) (hC : Chunk.holds w0 M (Chunk.own' (.two (.two (.two (.two (.blk sb [eU, vs1, (.int .i64 (sx.status)), (.int .i64 (sx.aV))]) (.own aB.raw 49 eU (List.zip sx.frames fq))) (.bL (aR aL 51 hn fq (List.map aB.sub sx.frames)))) (.own (aU Val).raw 47 vs1 (List.zip sx.cells eQ))) (.bL (aR aL 51 hn eQ (List.map (aU Val).sub sx.cells))) : Chunk)) (.two (.two (.two (.two (.blk sb [eU, vs1, (.int .i64 (sx.status)), (.int .i64 (sx.aV))]) (.own aB.raw 49 eU (List.zip sx.frames fq))) (.bL (aR aL 51 hn fq (List.map aB.sub sx.frames)))) (.own (aU Val).raw 47 vs1 (List.zip sx.cells eQ))) (.bL (aR aL 51 hn eQ (List.map (aU Val).sub sx.cells))) : Chunk)) (hap : ∀ b, Chunk.own' (.two (.two (.two (.two (.blk sb [eU, vs1, (.int .i64 (sx.status)), (.int .i64 (sx.aV))]) (.own aB.raw 49 eU (List.zip sx.frames fq))) (.bL (aR aL 51 hn fq (List.map aB.sub sx.frames)))) (.own (aU Val).raw 47 vs1 (List.zip sx.cells eQ))) (.bL (aR aL 51 hn eQ (List.map (aU Val).sub sx.cells))) : Chunk) b → ¬ M b) (a : Val) (b : Int) (r : LX.State) (hs : JU sx a b = some r) :
    Calls Tryz.prog 91 #[(.pointer (some ⟨sb, 0, none⟩)), (.agg #[(.int .i64 (a.kind)), (.int .i64 (a.n))]), (.int .i64 (b))] w0 (fun e w' => aS (Chunk.own' (.two (.two (.two (.two (.blk sb [eU, vs1, (.int .i64 (sx.status)), (.int .i64 (sx.aV))]) (.own aB.raw 49 eU (List.zip sx.frames fq))) (.bL (aR aL 51 hn fq (List.map aB.sub sx.frames)))) (.own (aU Val).raw 47 vs1 (List.zip sx.cells eQ))) (.bL (aR aL 51 hn eQ (List.map (aU Val).sub sx.cells))) : Chunk)) w0 w' ∧ ∃ AZ, ∃ A7, ∃ A8, ∃ A9, e = .returned (.tuple #[]) ∧ Chunk.holds w' M (Chunk.own' (.two (.two (.two (.two (.blk sb [AZ, A7, .int .i64 r.status, .int .i64 r.aV]) (.own aB.raw 49 AZ (List.zip r.frames A8))) (.bL (aR aL 51 hn A8 (List.map aB.sub r.frames)))) (.own (aU Val).raw 47 A7 (List.zip r.cells A9))) (.bL (aR aL 51 hn A9 (List.map (aU Val).sub r.cells))) : Chunk)) (.two (.two (.two (.two (.blk sb [AZ, A7, .int .i64 r.status, .int .i64 r.aV]) (.own aB.raw 49 AZ (List.zip r.frames A8))) (.bL (aR aL 51 hn A8 (List.map aB.sub r.frames)))) (.own (aU Val).raw 47 A7 (List.zip r.cells A9))) (.bL (aR aL 51 hn A9 (List.map (aU Val).sub r.cells))) : Chunk) ∧ (∀ b, Chunk.own' (.two (.two (.two (.two (.blk sb [AZ, A7, .int .i64 r.status, .int .i64 r.aV]) (.own aB.raw 49 AZ (List.zip r.frames A8))) (.bL (aR aL 51 hn A8 (List.map aB.sub r.frames)))) (.own (aU Val).raw 47 A7 (List.zip r.cells A9))) (.bL (aR aL 51 hn A9 (List.map (aU Val).sub r.cells))) : Chunk) b → b < w0.heap.size → Chunk.own' (.two (.two (.two (.two (.blk sb [eU, vs1, (.int .i64 (sx.status)), (.int .i64 (sx.aV))]) (.own aB.raw 49 eU (List.zip sx.frames fq))) (.bL (aR aL 51 hn fq (List.map aB.sub sx.frames)))) (.own (aU Val).raw 47 vs1 (List.zip sx.cells eQ))) (.bL (aR aL 51 hn eQ (List.map (aU Val).sub sx.cells))) : Chunk) b)) := by
 refine aQ (args := [(.pointer (some ⟨sb, 0, none⟩)), (.agg #[(.int .i64 (a.kind)), (.int .i64 (a.n))]), (.int .i64 (b))]) Tryz.func91 rfl Tryz.ntmps91 (Nat.le_of_ble_eq_true rfl) ?_
 have h := SH.ED hM hC hap
 generalize zy : (.two (.two (.two (.two (.blk sb [eU, vs1, (.int .i64 (sx.status)), (.int .i64 (sx.aV))]) (.own aB.raw 49 eU (List.zip sx.frames fq))) (.bL (aR aL 51 hn fq (List.map aB.sub sx.frames)))) (.own (aU Val).raw 47 vs1 (List.zip sx.cells eQ))) (.bL (aR aL 51 hn eQ (List.map (aU Val).sub sx.cells))) : Chunk).own' = K0 at h
 replace h := h.bX 1 5 (by decide) rfl rfl
 replace h := h.bX 1 4 (by decide) rfl rfl
 replace h := h.bX 1 3 (by decide) rfl rfl
 replace h := h.bX 1 2 (by decide) rfl rfl
 refine ai (ag (nX (cs := [(.int .i64 (a.kind)), (.int .i64 (a.n))]) h 6 rfl rfl fun w b1 h => ah (aa (ai (qI 14 mixed (by kernel_rfl) h fun w h => aN (au (v := (.pointer (some ⟨sb, 0, none⟩))) rfl) (aN (au (v := (.pointer (some ⟨sb, 0, none⟩))) rfl) (aN (bQ rfl) (aN (ak eH rfl) (aN (aF h 1 rfl iR rfl rfl) (aN (au (v := (.pointer (some ⟨sb, 0, none⟩))) rfl) (aN (bQ rfl) (aN (ak eH rfl) (aN (aF h 1 rfl iR rfl rfl) (aN (qo (N := aB) dw rfl (h.ed 2 rfl) (h.iB 3 rfl)) ?_))))))))))))))
 obtain ⟨a2, hs⟩ := bI hs
 refine aN (nW rfl rfl a2) ?_
 obtain ⟨x3, e4, hs⟩ := aP hs
 obtain ⟨e7, e7a, YD, e7c⟩ := Qe e4
 have ZZ := h.iB 3 rfl
 obtain ⟨u5, h, i6⟩ := h.Yg 2 rfl dw rfl YD (by rw [dQ ZZ]; exact e7c)
 rw [Ow] at h
 rw [dQ ZZ] at i6
 replace h := h.TC 3 (((sx.frames.length : Int) - 1)).toNat rfl
 generalize List.take (((sx.frames.length : Int) - 1)).toNat fq = U8 at h
 refine aN (i6 _ _ _ _ _ _ _ _ _ _ rfl (.inl ⟨rfl, rfl⟩) (.inr (congrArg some rfl))) (aN (bQ rfl) (aN (ak eH rfl) (zm (fw h 1 [u5, vs1, (.int .i64 (sx.status)), (.int .i64 (sx.aV))] rfl iR rfl rfl rfl rfl (h.dG 2 rfl).one fun w h => ah (aa (ai (ai (ag (ae (au (v := (.pointer (some ⟨sb, 0, none⟩))) rfl) (ae (bQ rfl) (ae (ak eH rfl) (ae (aF h 1 rfl iR rfl rfl) (ae (qo (N := aB) dw rfl (h.ed 2 rfl) (h.iB 3 rfl)) (ae (bH rfl rfl) (ah (aa (aK hs rfl (fun c9 hs => ?_) (fun c9 hs => ?_))))))))))))))))))
 refine ai (ag (ae (au (v := (.pointer (some ⟨sb, 0, none⟩))) rfl) (ae (bQ rfl) (ae (ak oM rfl) (fw h 1 [u5, vs1, (.int .i64 (1)), (.int .i64 (sx.aV))] rfl bz rfl rfl rfl rfl rfl fun w h => ah (aa (aI (aC (fin0 Tryz.results91 ?_)))))))))
 replace h := h.pair 1 2 (by decide)
 replace h := h.pair 1 3 (by decide)
 replace h := h.pair 1 4 (by decide)
 replace h := h.pair 1 5 (by decide)
 obtain rfl := Option.some.inj hs
 subst zy
 obtain ⟨o1, o2, o3⟩ := h.qp 1 (C := (.two (.two (.two (.two (.blk sb [u5, vs1, (.int .i64 (1)), (.int .i64 (sx.aV))]) (.own aB.raw 49 u5 (List.zip (sx.frames.take (((sx.frames.length : Int) - 1)).toNat) U8))) (.bL (aR aL 51 hn U8 (List.map aB.sub (sx.frames.take (((sx.frames.length : Int) - 1)).toNat))))) (.own (aU Val).raw 47 vs1 (List.zip sx.cells eQ))) (.bL (aR aL 51 hn eQ (List.map (aU Val).sub sx.cells))) : Chunk)) rfl ⟨⟨⟨⟨trivial, trivial⟩, trivial⟩, trivial⟩, trivial⟩
 exact ⟨o2, u5, vs1, U8, eQ, rfl, o1, o3⟩
 refine aG (aa (qI 16 mixed (by kernel_rfl) h fun w h => aN (au (v := (.pointer (some ⟨sb, 0, none⟩))) rfl) (aN (bQ rfl) (aN (ak eH rfl) (aN (aF h 1 rfl iR rfl rfl) (aN (au (v := (.pointer (some ⟨sb, 0, none⟩))) rfl) (aN (bQ rfl) (aN (ak eH rfl) (aN (aF h 1 rfl iR rfl rfl) (aN (qo (N := aB) dw rfl (h.ed 2 rfl) (h.iB 3 rfl)) ?_))))))))))
 obtain ⟨a10, hs⟩ := bI hs
 refine aN (nW rfl rfl a10) ?_
 obtain ⟨dV, e12, hs⟩ := aP hs
 obtain ⟨u16, e17, h⟩ := h.qL 3 8 dV.regs rfl rfl (by decide) (aJ e12).2 rfl
 obtain ⟨b14, q15, i13⟩ := h.vN 2 rfl dw rfl (aJ e12).1 (fB (aJ e12).2 e17)
 refine aN (i13 _ _ _ _ _ _ _ _ _ rfl rfl) (aN (ak l8 rfl) ?_)
 obtain ⟨cs18, m19, Rm⟩ := h.yx 2 rfl q15 (fB (aJ e12).2 e17)
 obtain ⟨rfl, -⟩ := Rm
 refine aN (oJ (k := 2) m19 mr rfl rfl) (aN (au (v := (.int .i64 (b))) rfl) (aN (dz (vs := [(.int .i64 (a.kind)), (.int .i64 (a.n))]) h 6 rfl bT rfl rfl rfl) ?_))
 obtain ⟨BN, e22, hs⟩ := aP hs
 obtain ⟨XO, q25, i23⟩ := h.vN 8 rfl bR rfl (aJ e22).1 (aJ e22).2
 refine aN (i23 _ _ _ _ _ _ _ _ _ rfl rfl) (zm (w9 (a' := a) (vs := [(.int .i64 (a.kind)), (.int .i64 (a.n))]) h 8 rfl q25 rfl (aJ e22).2 bT rfl rfl rfl rfl rfl fun w h k26 => ah (HV Tryz.results91 ?_)))
 replace h := h.qJ 2 3 8 ({ dV with regs := (dV.regs.set (b).toNat a) }) rfl rfl rfl (by decide) (by decide) (by decide) (aJ e12).2 e17 rfl
 replace h := h.pair 1 2 (by decide)
 replace h := h.pair 1 3 (by decide)
 replace h := h.pair 1 4 (by decide)
 replace h := h.pair 1 5 (by decide)
 obtain rfl := Option.some.inj hs
 subst zy
 obtain ⟨o1, o2, o3⟩ := h.qp 1 (C := (.two (.two (.two (.two (.blk sb [u5, vs1, (.int .i64 (sx.status)), (.int .i64 (sx.aV))]) (.own aB.raw 49 u5 (List.zip ((sx.frames.take (((sx.frames.length : Int) - 1)).toNat).set ((((sx.frames.take (((sx.frames.length : Int) - 1)).toNat).length : Int) - 1)).toNat ({ dV with regs := (dV.regs.set (b).toNat a) })) U8))) (.bL (aR aL 51 hn U8 (List.map aB.sub ((sx.frames.take (((sx.frames.length : Int) - 1)).toNat).set ((((sx.frames.take (((sx.frames.length : Int) - 1)).toNat).length : Int) - 1)).toNat ({ dV with regs := (dV.regs.set (b).toNat a) })))))) (.own (aU Val).raw 47 vs1 (List.zip sx.cells eQ))) (.bL (aR aL 51 hn eQ (List.map (aU Val).sub sx.cells))) : Chunk)) rfl ⟨⟨⟨⟨trivial, trivial⟩, trivial⟩, trivial⟩, trivial⟩
 exact ⟨o2, u5, vs1, U8, eQ, rfl, o1, o3⟩
def jR (y31 : Bool) (y34 : List LX.Frame) (Ur : List (List Val)) (y38 : Int) (y39 : Int) : Option (Bz × Bool × LX.State) :=
  some ((⟨false, 0, y31⟩ : Bz), true, (⟨y34, Ur, y38, y39⟩ : LX.State))
def zh (sx : LX.State) (pz : Bool) (G7 : List LX.Frame) : Option (Bz × Bool × LX.State) :=
  some ((⟨false, 0, false⟩ : Bz), pz, (⟨G7, sx.cells, sx.status, sx.aV⟩ : LX.State))
def iI (N : Nat) (sx : LX.State) (x3 : LX.Frame) (aW : cz) (aM : Ins) (a : List cz) (XW : Bool) : Option (Bz × Bool × LX.State) :=
  bif XW then (CV (⟨(sx.frames.set (((sx.frames.length : Int) - 1)).toNat ({ x3 with at_ := (min (x3.at_ + 1) ((aW.code.length : Int) - 1)) })), sx.cells, sx.status, sx.aV⟩ : LX.State) aM ((sx.frames.length : Int) - 1) ({ x3 with at_ := (min (x3.at_ + 1) ((aW.code.length : Int) - 1)) })).bind fun eD => some ((⟨false, 0, false⟩ : Bz), eD.1, eD.2) else bif decide ((aM.op : Int) = 5) then (Gi N (⟨(sx.frames.set (((sx.frames.length : Int) - 1)).toNat ({ x3 with at_ := (min (x3.at_ + 1) ((aW.code.length : Int) - 1)) })), sx.cells, sx.status, sx.aV⟩ : LX.State) aM).bind fun eF => some ((⟨false, 0, false⟩ : Bz), eF.1, eF.2) else bif decide ((aM.op : Int) = 7) then (JS (⟨(sx.frames.set (((sx.frames.length : Int) - 1)).toNat ({ x3 with at_ := (min (x3.at_ + 1) ((aW.code.length : Int) - 1)) })), sx.cells, sx.status, sx.aV⟩ : LX.State) a aM).bind fun dK => some ((⟨false, 0, false⟩ : Bz), dK.1, dK.2) else bif decide ((aM.op : Int) = 8) then (idx x3.regs aM.a).bind fun Sc => (JU (⟨(sx.frames.set (((sx.frames.length : Int) - 1)).toNat ({ x3 with at_ := (min (x3.at_ + 1) ((aW.code.length : Int) - 1)) })), sx.cells, sx.status, sx.aV⟩ : LX.State) Sc x3.l6).bind fun Ca => jR false Ca.frames Ca.cells Ca.status Ca.aV else bif decide ((aM.op : Int) = 9) then (idx x3.regs aM.a).bind fun mP => some ((⟨true, mP.n, false⟩ : Bz), decide ((mP.kind : Int) = 1), (⟨(sx.frames.set (((sx.frames.length : Int) - 1)).toNat ({ x3 with at_ := (min (x3.at_ + 1) ((aW.code.length : Int) - 1)) })), sx.cells, sx.status, sx.aV⟩ : LX.State)) else bif decide ((aM.op : Int) = 10) then jR true (sx.frames.set (((sx.frames.length : Int) - 1)).toNat ({ x3 with at_ := (min (x3.at_ + 1) ((aW.code.length : Int) - 1)) })) sx.cells sx.status sx.aV else bif decide ((aM.op : Int) = 11) then (idx x3.regs aM.a).bind fun Sd => bif decide ((Sd.kind : Int) ≠ 1) then some ((⟨false, 0, false⟩ : Bz), false, (⟨(sx.frames.set (((sx.frames.length : Int) - 1)).toNat ({ x3 with at_ := (min (x3.at_ + 1) ((aW.code.length : Int) - 1)) })), sx.cells, sx.status, sx.aV⟩ : LX.State)) else jR true (sx.frames.set (((sx.frames.length : Int) - 1)).toNat ({ x3 with at_ := (min (x3.at_ + 1) ((aW.code.length : Int) - 1)) })) sx.cells 3 Sd.n else bif decide ((aM.op : Int) = 12) then jR false ((sx.frames.set (((sx.frames.length : Int) - 1)).toNat ({ x3 with at_ := (min (x3.at_ + 1) ((aW.code.length : Int) - 1)) })).set (((sx.frames.length : Int) - 1)).toNat ({ x3 with at_ := aM.b })) sx.cells sx.status sx.aV else bif decide ((aM.op : Int) = 13) then (idx x3.regs aM.a).bind fun Cb => bif (decide ((Cb.kind : Int) = 0) || (decide ((Cb.kind : Int) = 1) && decide ((Cb.n : Int) = 0))) then jR false ((sx.frames.set (((sx.frames.length : Int) - 1)).toNat ({ x3 with at_ := (min (x3.at_ + 1) ((aW.code.length : Int) - 1)) })).set (((sx.frames.length : Int) - 1)).toNat ({ x3 with at_ := aM.b })) sx.cells sx.status sx.aV else jR false (sx.frames.set (((sx.frames.length : Int) - 1)).toNat ({ x3 with at_ := (min (x3.at_ + 1) ((aW.code.length : Int) - 1)) })) sx.cells sx.status sx.aV else jR false (sx.frames.set (((sx.frames.length : Int) - 1)).toNat ({ x3 with at_ := (min (x3.at_ + 1) ((aW.code.length : Int) - 1)) })) sx.cells sx.status sx.aV
def nR (N : Nat) (sx : LX.State) (a : List cz) : Option (Bz × Bool × LX.State) :=
  gQ (jB ((sx.frames.length : Int) - 1)) ((idx sx.frames ((sx.frames.length : Int) - 1)).bind fun x3 => (idx a x3.proc).bind fun aW => (idx aW.code x3.at_).bind fun aM => gQ (jB (x3.at_ + 1)) (gQ (jB ((aW.code.length : Int) - 1)) (bif decide ((aM.op : Int) = 1) then (idx x3.regs aM.a).bind fun x41 => jR false ((sx.frames.set (((sx.frames.length : Int) - 1)).toNat ({ x3 with at_ := (min (x3.at_ + 1) ((aW.code.length : Int) - 1)) })).set (((sx.frames.length : Int) - 1)).toNat ({ x3 with at_ := (min (x3.at_ + 1) ((aW.code.length : Int) - 1)), regs := (x3.regs.set (aM.a).toNat (⟨1, aM.b⟩ : Val)) })) sx.cells sx.status sx.aV else bif decide ((aM.op : Int) = 2) then (idx x3.regs aM.b).bind fun Sg => (idx x3.regs aM.a).bind fun x56 => jR false ((sx.frames.set (((sx.frames.length : Int) - 1)).toNat ({ x3 with at_ := (min (x3.at_ + 1) ((aW.code.length : Int) - 1)) })).set (((sx.frames.length : Int) - 1)).toNat ({ x3 with at_ := (min (x3.at_ + 1) ((aW.code.length : Int) - 1)), regs := (x3.regs.set (aM.a).toNat Sg) })) sx.cells sx.status sx.aV else bif decide ((aM.op : Int) = 3) then (idx aM.args 0).bind fun C8 => (idx x3.regs aM.b).bind fun rz => (idx x3.regs aM.c).bind fun rA => (KX C8 rz rA).bind fun fM => (idx x3.regs aM.a).bind fun Pk => zh sx fM.2 ((sx.frames.set (((sx.frames.length : Int) - 1)).toNat ({ x3 with at_ := (min (x3.at_ + 1) ((aW.code.length : Int) - 1)) })).set (((sx.frames.length : Int) - 1)).toNat ({ x3 with at_ := (min (x3.at_ + 1) ((aW.code.length : Int) - 1)), regs := (x3.regs.set (aM.a).toNat fM.1) })) else bif decide ((aM.op : Int) = 4) then iI N sx x3 aW aM a (decide ((aM.op : Int) = 4)) else iI N sx x3 aW aM a (decide ((aM.op : Int) = 6)))))
end
end Go.Proofs.YtfclkapelkhlpaaGreatDoor
