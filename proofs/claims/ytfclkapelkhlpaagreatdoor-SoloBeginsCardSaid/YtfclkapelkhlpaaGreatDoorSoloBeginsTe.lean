/-
  What the law SoloBegins needs of our own library and of the walks, no more.
-/
import Derived.Test.YtfclkapelkhlpaaGreatDoorProg
import Derived.Test.YtfclkapelkhlpaaGreatDoorSoloBeginsTd
set_option linter.unusedSimpArgs false
set_option linter.unusedVariables false
set_option maxRecDepth 10000
namespace Go.Proofs.YtfclkapelkhlpaaGreatDoor
open Go Go.Proofs Go.LX
noncomputable section
theorem OD (w0 : World) (M : BS) (hM : ∀ b, M b → b < w0.heap.size) (a : Int) (b : Val) (c : Val) (r : Val × Bool) (hs : Lu a b c = some r) :
    Calls Tryz.prog 87 #[(.int .i64 (a)), (.agg #[(.int .i64 (b.kind)), (.int .i64 (b.n))]), (.agg #[(.int .i64 (c.kind)), (.int .i64 (c.n))])] w0 (fun e w' => Grow w0 w' ∧ e = .returned (.tuple #[.agg #[.int .i64 r.1.kind, .int .i64 r.1.n], .bool r.2])) := by
 refine aS (args := [(.int .i64 (a)), (.agg #[(.int .i64 (b.kind)), (.int .i64 (b.n))]), (.agg #[(.int .i64 (c.kind)), (.int .i64 (c.n))])]) Tryz.func87 rfl Tryz.ntmps87 (Nat.le_of_ble_eq_true rfl) ?_
 have h := SH.init hM
 refine ai (ag (rF (cs := [(.int .i64 (b.kind)), (.int .i64 (b.n))]) h 1 rfl rfl fun w b1 h => rF (cs := [(.int .i64 (c.kind)), (.int .i64 (c.n))]) h 2 rfl rfl fun w b2 h => bT h 3 bS fun w b3 h => ae (aj (v := (.bool (false))) rfl) (ah (aa (ai (ag (ae (aj (v := (.func (.func 117) #[] #[])) rfl) (ah (aa (ai (ai (ag (ae (au (v := (.int .i64 (a))) rfl) (ae (bI rfl rfl) (ah (aa (aI hs rfl (fun c4 hs => ?_) (fun c4 hs => ?_))))))))))))))))))
 refine ai (ag (ae (au (v := (.func (.func 117) #[] #[])) rfl) (ae (dS (vs := [(.int .i64 (b.kind)), (.int .i64 (b.n))]) h 1 rfl bS rfl rfl rfl) (ae (dS (vs := [(.int .i64 (c.kind)), (.int .i64 (c.n))]) h 2 rfl bS rfl rfl rfl) (ae (WG U8 rfl rfl) (lX (args := [(.bool ((decide (b.kind = c.kind) && decide (b.n = c.n))))]) Ov rfl rfl (aS (args := [(.bool ((decide (b.kind = c.kind) && decide (b.n = c.n))))]) Tryz.func117 rfl Tryz.ntmps117 (Nat.le_of_ble_eq_true rfl) (ai (ag (bT h 4 bS fun w b5 h => ae (aj (v := (.bool (false))) rfl) (ah (aa (ai (ai (ag (ae (au (v := (.bool ((decide (b.kind = c.kind) && decide (b.n = c.n))))) rfl) (ah (aa (aI hs rfl (fun c6 hs => ?_) (fun c6 hs => ?_))))))))))))))))))))
 refine ai (ag (ae (dC (pv := [(0, (.int .i64 (1))), (1, (.int .i64 (1)))]) (out := [(.int .i64 (1)), (.int .i64 (1))]) uD rfl ⟨0, 1, [(.int .i64 (1))], rfl, rfl, rfl, Nat.le_of_ble_eq_true rfl, ⟨1, 1, [(.int .i64 (1))], rfl, rfl, rfl, Nat.le_of_ble_eq_true rfl, rfl⟩⟩) (dm (vs := [(.int .i64 (1)), (.int .i64 (1))]) h 4 [(.int .i64 (1)), (.int .i64 (1))] rfl bS rfl rfl rfl rfl rfl (ax rfl (ax rfl aZ)) fun w h => ae (aj (v := (.bool (true))) rfl) (ah (aa (aK (aC (jN (vs := [(.int .i64 (1)), (.int .i64 (1))]) (v2 := (.bool (true))) Tryz.results117 rfl rfl h 4 rfl bS rfl (⟨_, rfl, ?_⟩)))))))))
 refine ae (bC rfl rfl) (ae (bC rfl rfl) (dm (vs := [(.int .i64 (1)), (.int .i64 (1))]) h 3 [(.int .i64 (1)), (.int .i64 (1))] rfl bS rfl rfl rfl rfl rfl (ax rfl (ax rfl aZ)) fun w h => ae (aj (v := (.bool (true))) rfl) (ah (aa (aK (aC (jN (vs := [(.int .i64 (1)), (.int .i64 (1))]) (v2 := (.bool (true))) Tryz.results87 rfl rfl h 3 rfl bS rfl ?_)))))))
 obtain rfl := Option.some.inj hs
 exact ⟨h.grown, rfl⟩
 refine aG (aa (ai (ag (ae (dC (pv := [(0, (.int .i64 (1)))]) (out := [(.int .i64 (1)), (.int .i64 (0))]) uD rfl ⟨0, 1, [(.int .i64 (1))], rfl, rfl, rfl, Nat.le_of_ble_eq_true rfl, rfl⟩) (dm (vs := [(.int .i64 (1)), (.int .i64 (0))]) h 4 [(.int .i64 (1)), (.int .i64 (0))] rfl bS rfl rfl rfl rfl rfl (ax rfl (ax rfl aZ)) fun w h => ae (aj (v := (.bool (true))) rfl) (ah (aa (aK (jN (vs := [(.int .i64 (1)), (.int .i64 (0))]) (v2 := (.bool (true))) Tryz.results117 rfl rfl h 4 rfl bS rfl (⟨_, rfl, ?_⟩))))))))))
 refine ae (bC rfl rfl) (ae (bC rfl rfl) (dm (vs := [(.int .i64 (1)), (.int .i64 (0))]) h 3 [(.int .i64 (1)), (.int .i64 (0))] rfl bS rfl rfl rfl rfl rfl (ax rfl (ax rfl aZ)) fun w h => ae (aj (v := (.bool (true))) rfl) (ah (aa (aK (aC (jN (vs := [(.int .i64 (1)), (.int .i64 (0))]) (v2 := (.bool (true))) Tryz.results87 rfl rfl h 3 rfl bS rfl ?_)))))))
 obtain rfl := Option.some.inj hs
 exact ⟨h.grown, rfl⟩
 refine aG (aa (ai (ai (ag (ae (ak sD rfl) (ae (aF h 1 rfl bz rfl rfl) (ae (gq rfl rfl) (ae (au (v := (.bool (decide ((b.kind : Int) ≠ 1)))) rfl) (aD rfl rfl (fun q => ak sD rfl) (aD rfl rfl (fun q => aF h 2 rfl bz (dn q) rfl) (aD rfl rfl (fun q => gq (dn q) rfl) (ae (gu rfl rfl lV) (ah (aa (aI hs rfl (fun c7 hs => ?_) (fun c7 hs => ?_))))))))))))))))
 refine ai (ag (ae (dC (pv := []) (out := [(.int .i64 (0)), (.int .i64 (0))]) uD rfl rfl) (dm (vs := [(.int .i64 (0)), (.int .i64 (0))]) h 3 [(.int .i64 (0)), (.int .i64 (0))] rfl bS rfl rfl rfl rfl rfl (ax rfl (ax rfl aZ)) fun w h => ae (aj (v := (.bool (false))) rfl) (ah (aa (aK (aC (jN (vs := [(.int .i64 (0)), (.int .i64 (0))]) (v2 := (.bool (false))) Tryz.results87 rfl rfl h 3 rfl bS rfl ?_))))))))
 obtain rfl := Option.some.inj hs
 exact ⟨h.grown, rfl⟩
 refine aG (aa (ai (ag (ae (aj (v := (.int .i64 (0))) rfl) (ah (aa (bV (σ := Int) (inl [7, 9, 28, 29, 30, 31, 32, 33, 34, 35, 36, 37, 38, 39, 40, 41, 42, 43, 44, 45, 46, 47, 48, 49, 50, 51, 52, 53, 54, 55, 56, 57, 58, 59, 60]) (fun x8 => [(9, (.int .i64 (x8)))]) (fun x8 w => SH w0 M BE w (hset [(3, .blk b3 [(.int .i64 (0)), (.int .i64 (0))])]) ∧ yA x8 = some r) ?_ ?_)))))))
 rintro x8 w dz ⟨h, hs⟩
 refine ai (ag (ae (au (v := (.int .i64 (x8))) rfl) (ae (dC (pv := [(0, (.int .i64 (1))), (1, (.int .i64 (x8)))]) (out := [(.int .i64 (1)), (.int .i64 (x8))]) uD rfl ⟨0, 1, [(.int .i64 (1))], rfl, rfl, rfl, Nat.le_of_ble_eq_true rfl, ⟨1, 1, [(.int .i64 (x8))], rfl, rfl, rfl, Nat.le_of_ble_eq_true rfl, rfl⟩⟩) (ae (au (v := (.int .i64 (x8))) rfl) (ae (oK rfl rfl) (ae (au (v := (.bool (decide ((-1000000000 : Int) ≤ x8)))) rfl) (aD rfl rfl (fun q => au (v := (.int .i64 (x8))) rfl) (aD rfl rfl (fun q => CE (dn q) rfl) (ae (fZ rfl rfl lV) (dm (vs := [(.int .i64 (1)), (.int .i64 (x8))]) h 3 [(.int .i64 (1)), (.int .i64 (x8))] rfl bS rfl rfl rfl rfl rfl (ax rfl (ax rfl aZ)) fun w h => ae (aj (v := (.bool ((decide ((-1000000000 : Int) ≤ x8) && decide ((x8 : Int) ≤ 1000000000))))) rfl) (ah (aa (aK (jN (vs := [(.int .i64 (1)), (.int .i64 (x8))]) (v2 := (.bool ((decide ((-1000000000 : Int) ≤ x8) && decide ((x8 : Int) ≤ 1000000000))))) Tryz.results87 rfl rfl h 3 rfl bS rfl ?_))))))))))))))
 obtain rfl := Option.some.inj hs
 exact ⟨h.grown, rfl⟩
 refine ai (ag (ae (au (v := (.int .i64 (a))) rfl) (ah (aa (aV (ai (ag (ae (bI rfl rfl) (ae (aj (v := (.bool (decide ((a : Int) = 1)))) rfl) (ah (aa (aI hs rfl (fun c9 hs => ?_) (fun c9 hs => ?_)))))))))))))
 refine ag (ae (ak iw rfl) (ae (aF h 1 rfl bz rfl rfl) (ae (ak iw rfl) (ae (aF h 2 rfl bz rfl rfl) ?_))))
 obtain ⟨a10, hs⟩ := bG hs
 refine ae (dw rfl rfl a10) (ae (aj (v := (.int .i64 ((b.n + c.n)))) rfl) (ah (aA (az ?_))))
 exact bQ (b.n + c.n) ⟨h.cn _, hs⟩
 refine ai (ag (ae (bI rfl rfl) (ae (aj (v := (.bool (decide ((a : Int) = 2)))) rfl) (ah (aa (aI hs rfl (fun c11 hs => ?_) (fun c11 hs => ?_)))))))
 refine ag (ae (ak iw rfl) (ae (aF h 1 rfl bz rfl rfl) (ae (ak iw rfl) (ae (aF h 2 rfl bz rfl rfl) ?_))))
 obtain ⟨a12, hs⟩ := bG hs
 refine ae (oh rfl rfl a12) (ae (aj (v := (.int .i64 ((b.n - c.n)))) rfl) (ah (aA (az ?_))))
 exact bQ (b.n - c.n) ⟨h.cn _, hs⟩
 refine ai (ag (ae (bI rfl rfl) (ae (aj (v := (.bool (decide ((a : Int) = 3)))) rfl) (ah (aa (aI hs rfl (fun c13 hs => ?_) (fun c13 hs => ?_)))))))
 refine ag (ae (ak iw rfl) (ae (aF h 1 rfl bz rfl rfl) (ae (ak iw rfl) (ae (aF h 2 rfl bz rfl rfl) ?_))))
 obtain ⟨a14, hs⟩ := bG hs
 refine ae (Zc rfl rfl a14) (ae (aj (v := (.int .i64 ((b.n * c.n)))) rfl) (ah (aA (az ?_))))
 exact bQ (b.n * c.n) ⟨h.cn _, hs⟩
 refine ai (ag (ae (bI rfl rfl) (ae (aj (v := (.bool (decide ((a : Int) = 4)))) rfl) (ah (aa (aI hs rfl (fun c15 hs => ?_) (fun c15 hs => ?_)))))))
 refine ai (ag (ae (au (v := (.func (.func 117) #[] #[])) rfl) (ae (ak iw rfl) (ae (aF h 1 rfl bz rfl rfl) (ae (ak iw rfl) (ae (aF h 2 rfl bz rfl rfl) (ae (dN rfl rfl) (lX (args := [(.bool (decide ((b.n : Int) < c.n)))]) Ov rfl rfl (aS (args := [(.bool (decide ((b.n : Int) < c.n)))]) Tryz.func117 rfl Tryz.ntmps117 (Nat.le_of_ble_eq_true rfl) (ai (ag (bT h 5 bS fun w b16 h => ae (aj (v := (.bool (false))) rfl) (ah (aa (ai (ai (ag (ae (au (v := (.bool (decide ((b.n : Int) < c.n)))) rfl) (ah (aa (aI hs rfl (fun c17 hs => ?_) (fun c17 hs => ?_))))))))))))))))))))))
 refine ai (ag (ae (dC (pv := [(0, (.int .i64 (1))), (1, (.int .i64 (1)))]) (out := [(.int .i64 (1)), (.int .i64 (1))]) uD rfl ⟨0, 1, [(.int .i64 (1))], rfl, rfl, rfl, Nat.le_of_ble_eq_true rfl, ⟨1, 1, [(.int .i64 (1))], rfl, rfl, rfl, Nat.le_of_ble_eq_true rfl, rfl⟩⟩) (dm (vs := [(.int .i64 (1)), (.int .i64 (1))]) h 5 [(.int .i64 (1)), (.int .i64 (1))] rfl bS rfl rfl rfl rfl rfl (ax rfl (ax rfl aZ)) fun w h => ae (aj (v := (.bool (true))) rfl) (ah (aa (aK (aC (jN (vs := [(.int .i64 (1)), (.int .i64 (1))]) (v2 := (.bool (true))) Tryz.results117 rfl rfl h 5 rfl bS rfl (⟨_, rfl, ?_⟩)))))))))
 refine ae (bC rfl rfl) (ae (bC rfl rfl) (dm (vs := [(.int .i64 (1)), (.int .i64 (1))]) h 3 [(.int .i64 (1)), (.int .i64 (1))] rfl bS rfl rfl rfl rfl rfl (ax rfl (ax rfl aZ)) fun w h => ae (aj (v := (.bool (true))) rfl) (ah (aa (aK (aH (aC (jN (vs := [(.int .i64 (1)), (.int .i64 (1))]) (v2 := (.bool (true))) Tryz.results87 rfl rfl h 3 rfl bS rfl ?_))))))))
 obtain rfl := Option.some.inj hs
 exact ⟨h.grown, rfl⟩
 refine aG (aa (ai (ag (ae (dC (pv := [(0, (.int .i64 (1)))]) (out := [(.int .i64 (1)), (.int .i64 (0))]) uD rfl ⟨0, 1, [(.int .i64 (1))], rfl, rfl, rfl, Nat.le_of_ble_eq_true rfl, rfl⟩) (dm (vs := [(.int .i64 (1)), (.int .i64 (0))]) h 5 [(.int .i64 (1)), (.int .i64 (0))] rfl bS rfl rfl rfl rfl rfl (ax rfl (ax rfl aZ)) fun w h => ae (aj (v := (.bool (true))) rfl) (ah (aa (aK (jN (vs := [(.int .i64 (1)), (.int .i64 (0))]) (v2 := (.bool (true))) Tryz.results117 rfl rfl h 5 rfl bS rfl (⟨_, rfl, ?_⟩))))))))))
 refine ae (bC rfl rfl) (ae (bC rfl rfl) (dm (vs := [(.int .i64 (1)), (.int .i64 (0))]) h 3 [(.int .i64 (1)), (.int .i64 (0))] rfl bS rfl rfl rfl rfl rfl (ax rfl (ax rfl aZ)) fun w h => ae (aj (v := (.bool (true))) rfl) (ah (aa (aK (aH (aC (jN (vs := [(.int .i64 (1)), (.int .i64 (0))]) (v2 := (.bool (true))) Tryz.results87 rfl rfl h 3 rfl bS rfl ?_))))))))
 obtain rfl := Option.some.inj hs
 exact ⟨h.grown, rfl⟩
 refine aG (aA (az ?_))
 exact bQ 0 ⟨h.cn _, hs⟩
def uS (sx : LX.State) (a : Ins) (x5 : Val) (xb : LX.Frame) (kb : Int) (YG : Bool) : Option (Bool × LX.State) :=
  bif YG then some (false, sx) else bif decide ((a.op : Int) = 6) then (idx sx.cells x5.n).bind fun yn => (idx xb.regs a.b).bind fun x27 => (idx yn a.c).bind fun xL => some (true, (⟨sx.frames, (sx.cells.set (x5.n).toNat (yn.set (a.c).toNat x27)), sx.status, sx.aW⟩ : LX.State)) else (idx sx.cells x5.n).bind fun x41 => (idx x41 a.c).bind fun Uv => (idx xb.regs a.a).bind fun x59 => some (true, (⟨(sx.frames.set (kb).toNat ({ xb with regs := (xb.regs.set (a.a).toNat Uv) })), sx.cells, sx.status, sx.aW⟩ : LX.State))
def uT (xb : LX.Frame) (sx : LX.State) (a : Ins) (kb : Int) (x4 : Int) : Option (Bool × LX.State) :=
  (idx xb.regs x4).bind fun x5 => bif decide ((x5.kind : Int) ≠ 2) then uS sx a x5 xb kb true else (idx sx.cells x5.n).bind fun x66 => uS sx a x5 xb kb (decide (((x66.length : Int) : Int) ≤ a.c))
def Dj (sx : LX.State) (a : Ins) (kb : Int) (xb : LX.Frame) : Option (Bool × LX.State) :=
  bif decide ((a.op : Int) = 6) then uT xb sx a kb a.a else uT xb sx a kb a.b
theorem GA (w0 : World) (M : BS) (hM : ∀ b, M b → b < w0.heap.size) (sb : Nat) (sx : LX.State) (eH vs1 : Value) (eZ eD : List Value) (hC : Chunk.holds w0 M (Chunk.own' (.two (.two (.two (.two (.blk sb [eH, vs1, (.int .i64 (sx.status)), (.int .i64 (sx.aW))]) (.own aB.raw 49 eH (List.zip sx.frames eZ))) (.bJ (aR aM 51 hn eZ (List.map aB.sub sx.frames)))) (.own (aT Val).raw 47 vs1 (List.zip sx.cells eD))) (.bJ (aR aM 51 hn eD (List.map (aT Val).sub sx.cells))) : Chunk)) (.two (.two (.two (.two (.blk sb [eH, vs1, (.int .i64 (sx.status)), (.int .i64 (sx.aW))]) (.own aB.raw 49 eH (List.zip sx.frames eZ))) (.bJ (aR aM 51 hn eZ (List.map aB.sub sx.frames)))) (.own (aT Val).raw 47 vs1 (List.zip sx.cells eD))) (.bJ (aR aM 51 hn eD (List.map (aT Val).sub sx.cells))) : Chunk)) (hap : ∀ b, Chunk.own' (.two (.two (.two (.two (.blk sb [eH, vs1, (.int .i64 (sx.status)), (.int .i64 (sx.aW))]) (.own aB.raw 49 eH (List.zip sx.frames eZ))) (.bJ (aR aM 51 hn eZ (List.map aB.sub sx.frames)))) (.own (aT Val).raw 47 vs1 (List.zip sx.cells eD))) (.bJ (aR aM 51 hn eD (List.map (aT Val).sub sx.cells))) : Chunk) b → ¬ M b) (a : Ins) (Cc : Value) (ZZ : fo fF w0 (fun b => M b ∨ (.two (.two (.two (.two (.blk sb [eH, vs1, (.int .i64 (sx.status)), (.int .i64 (sx.aW))]) (.own aB.raw 49 eH (List.zip sx.frames eZ))) (.bJ (aR aM 51 hn eZ (List.map aB.sub sx.frames)))) (.own (aT Val).raw 47 vs1 (List.zip sx.cells eD))) (.bJ (aR aM 51 hn eD (List.map (aT Val).sub sx.cells))) : Chunk).own' b) Cc a.args) (kb : Int) (xb : LX.Frame) (gb : 0 ≤ kb) (eb : sx.frames[kb.toNat]? = some xb) (vb : Value) (hb : eZ[kb.toNat]? = some vb) (r : Bool × LX.State) (hs : Dj sx a kb xb = some r) :
    Calls Tryz.prog 88 #[(.pointer (some ⟨sb, 0, none⟩)), (.agg #[(.int .i64 (a.op)), (.int .i64 (a.a)), (.int .i64 (a.b)), (.int .i64 (a.c)), Cc]), vb] w0 (fun e w' => aP (Chunk.own' (.two (.two (.two (.two (.blk sb [eH, vs1, (.int .i64 (sx.status)), (.int .i64 (sx.aW))]) (.own aB.raw 49 eH (List.zip sx.frames eZ))) (.bJ (aR aM 51 hn eZ (List.map aB.sub sx.frames)))) (.own (aT Val).raw 47 vs1 (List.zip sx.cells eD))) (.bJ (aR aM 51 hn eD (List.map (aT Val).sub sx.cells))) : Chunk)) w0 w' ∧ ∃ Be, ∃ Bf, ∃ Bg, ∃ Bh, e = .returned (.bool r.1) ∧ Chunk.holds w' M (Chunk.own' (.two (.two (.two (.two (.blk sb [Be, Bf, .int .i64 r.2.status, .int .i64 r.2.aW]) (.own aB.raw 49 Be (List.zip r.2.frames Bg))) (.bJ (aR aM 51 hn Bg (List.map aB.sub r.2.frames)))) (.own (aT Val).raw 47 Bf (List.zip r.2.cells Bh))) (.bJ (aR aM 51 hn Bh (List.map (aT Val).sub r.2.cells))) : Chunk)) (.two (.two (.two (.two (.blk sb [Be, Bf, .int .i64 r.2.status, .int .i64 r.2.aW]) (.own aB.raw 49 Be (List.zip r.2.frames Bg))) (.bJ (aR aM 51 hn Bg (List.map aB.sub r.2.frames)))) (.own (aT Val).raw 47 Bf (List.zip r.2.cells Bh))) (.bJ (aR aM 51 hn Bh (List.map (aT Val).sub r.2.cells))) : Chunk) ∧ (∀ b, Chunk.own' (.two (.two (.two (.two (.blk sb [Be, Bf, .int .i64 r.2.status, .int .i64 r.2.aW]) (.own aB.raw 49 Be (List.zip r.2.frames Bg))) (.bJ (aR aM 51 hn Bg (List.map aB.sub r.2.frames)))) (.own (aT Val).raw 47 Bf (List.zip r.2.cells Bh))) (.bJ (aR aM 51 hn Bh (List.map (aT Val).sub r.2.cells))) : Chunk) b → b < w0.heap.size → Chunk.own' (.two (.two (.two (.two (.blk sb [eH, vs1, (.int .i64 (sx.status)), (.int .i64 (sx.aW))]) (.own aB.raw 49 eH (List.zip sx.frames eZ))) (.bJ (aR aM 51 hn eZ (List.map aB.sub sx.frames)))) (.own (aT Val).raw 47 vs1 (List.zip sx.cells eD))) (.bJ (aR aM 51 hn eD (List.map (aT Val).sub sx.cells))) : Chunk) b)) := by
 refine aS (args := [(.pointer (some ⟨sb, 0, none⟩)), (.agg #[(.int .i64 (a.op)), (.int .i64 (a.a)), (.int .i64 (a.b)), (.int .i64 (a.c)), Cc]), vb]) Tryz.func88 rfl Tryz.ntmps88 (Nat.le_of_ble_eq_true rfl) ?_
 have h := SH.E5 hM hC hap
 replace h := h.BL 6 ZZ zG
 generalize zJ : (.two (.two (.two (.two (.blk sb [eH, vs1, (.int .i64 (sx.status)), (.int .i64 (sx.aW))]) (.own aB.raw 49 eH (List.zip sx.frames eZ))) (.bJ (aR aM 51 hn eZ (List.map aB.sub sx.frames)))) (.own (aT Val).raw 47 vs1 (List.zip sx.cells eD))) (.bJ (aR aM 51 hn eD (List.map (aT Val).sub sx.cells))) : Chunk).own' = K0 at h
 replace h := h.bU 1 5 (by decide) rfl rfl
 replace h := h.bU 1 4 (by decide) rfl rfl
 replace h := h.bU 1 3 (by decide) rfl rfl
 replace h := h.bU 1 2 (by decide) rfl rfl
 obtain ⟨u1, e2, h⟩ := h.q8 3 7 xb.regs rfl rfl (by decide) eb rfl
 obtain rfl : vb = u1 := Option.some.inj (hb.symm.trans e2)
 refine ai (ag (rF (cs := [(.int .i64 (a.op)), (.int .i64 (a.a)), (.int .i64 (a.b)), (.int .i64 (a.c)), Cc]) h 8 rfl rfl fun w b3 h => ae (aj (v := (.bool (false))) rfl) (ah (aa (ai (ag (ae (ak iG rfl) (ae (aF h 8 rfl bz rfl rfl) (ae (aj (v := (.int .i64 (a.b))) rfl) (ah (aa (bV (σ := Int) (inl [7, 11, 12, 13, 14, 15]) (fun x4 => [(7, (.int .i64 (x4)))]) (fun x4 w => SH w0 M K0 w (hset [(1, .blk sb [eH, vs1, (.int .i64 (sx.status)), (.int .i64 (sx.aW))]), (2, .own aB.raw 49 eH (List.zip sx.frames eZ)), (3, .bJ (aR aM 51 (hat (kb).toNat) eZ (List.map aB.sub sx.frames))), (4, .own (aT Val).raw 47 vs1 (List.zip sx.cells eD)), (5, .bJ (aR aM 51 hn eD (List.map (aT Val).sub sx.cells))), (6, .rd fF Cc a.args), (7, .own aM 51 vb xb.regs), (8, .blk b3 [(.int .i64 (a.op)), (.int .i64 (a.a)), (.int .i64 (a.b)), (.int .i64 (a.c)), Cc])]) ∧ uT xb sx a kb x4 = some r) ?_ ?_))))))))))))
 rintro x4 w dz ⟨h, hs⟩
 refine ai (ag (ae (au (v := vb) rfl) (ae (au (v := (.int .i64 (x4))) rfl) ?_)))
 obtain ⟨x5, e6, hs⟩ := aQ hs
 obtain ⟨b8, q9, i7⟩ := h.wo 7 rfl bX rfl (aJ e6).1 (aJ e6).2
 refine ae (i7 _ _ _ _ _ _ _ _ _ rfl rfl) ?_
 obtain ⟨cs10, m11, Zr⟩ := h.yN 7 rfl q9 (aJ e6).2
 obtain rfl := Zr
 refine ae (oC (k := 0) (vs := [(.int .i64 (x5.kind)), (.int .i64 (x5.n))]) m11 bS rfl rfl rfl (Nat.le_of_ble_eq_true rfl)) (bT h 9 bS fun w b13 h => dm (vs := [(.int .i64 (x5.kind)), (.int .i64 (x5.n))]) h 9 [(.int .i64 (x5.kind)), (.int .i64 (x5.n))] rfl bS rfl rfl rfl rfl rfl (ax rfl (ax rfl aZ)) fun w h => ah (aa (ai (bV (σ := Bool) (inl [20, 21, 22, 23, 24, 25, 26, 27, 28, 29, 30, 31, 32, 33, 34, 35, 36]) (fun YG => [(36, (.bool (YG)))]) (fun YG w => SH w0 M K0 w (hset [(1, .blk sb [eH, vs1, (.int .i64 (sx.status)), (.int .i64 (sx.aW))]), (2, .own aB.raw 49 eH (List.zip sx.frames eZ)), (3, .bJ (aR aM 51 (hat (kb).toNat) eZ (List.map aB.sub sx.frames))), (4, .own (aT Val).raw 47 vs1 (List.zip sx.cells eD)), (5, .bJ (aR aM 51 hn eD (List.map (aT Val).sub sx.cells))), (6, .rd fF Cc a.args), (7, .own aM 51 vb xb.regs), (8, .blk b3 [(.int .i64 (a.op)), (.int .i64 (a.a)), (.int .i64 (a.b)), (.int .i64 (a.c)), Cc]), (9, .blk b13 [(.int .i64 (x5.kind)), (.int .i64 (x5.n))])]) ∧ uS sx a x5 xb kb YG = some r) ?_ ?_))))
 rintro YG w dz ⟨h, hs⟩
 refine aI hs rfl (fun c15 hs => ?_) (fun c15 hs => ?_)
 refine ai (ag (ae (aj (v := (.bool (false))) rfl) (ah (aa (aK (aC (cK (v := (.bool (false))) Tryz.results88 rfl ?_)))))))
 replace h := h.iM 3 7 rfl rfl (by decide) eb hb rfl
 replace h := h.pair 1 2 (by decide)
 replace h := h.pair 1 3 (by decide)
 replace h := h.pair 1 4 (by decide)
 replace h := h.pair 1 5 (by decide)
 obtain rfl := Option.some.inj hs
 subst zJ
 obtain ⟨o1, o2, o3⟩ := h.qH 1 (C := (.two (.two (.two (.two (.blk sb [eH, vs1, (.int .i64 (sx.status)), (.int .i64 (sx.aW))]) (.own aB.raw 49 eH (List.zip sx.frames eZ))) (.bJ (aR aM 51 hn eZ (List.map aB.sub sx.frames)))) (.own (aT Val).raw 47 vs1 (List.zip sx.cells eD))) (.bJ (aR aM 51 hn eD (List.map (aT Val).sub sx.cells))) : Chunk)) rfl ⟨⟨⟨⟨trivial, trivial⟩, trivial⟩, trivial⟩, trivial⟩
 exact ⟨o2, eH, vs1, eZ, eD, rfl, o1, o3⟩
 refine aG (aa (ai (ai (ag (ae (ak oP rfl) (ae (aF h 8 rfl bz rfl rfl) (ae (bI rfl rfl) (ah (aa (aI hs rfl (fun c16 hs => ?_) (fun c16 hs => ?_)))))))))))
 refine qj 16 mixed (by kernel_rfl) h fun w h => aO (au (v := (.pointer (some ⟨sb, 0, none⟩))) rfl) (aO (bO rfl) (aO (ak jZ rfl) (aO (aF h 1 rfl pz rfl rfl) (aO (ak iw rfl) (aO (aF h 9 rfl bz rfl rfl) ?_)))))
 obtain ⟨yn, e18, hs⟩ := aQ hs
 obtain ⟨u22, e23, h⟩ := h.q8 5 10 yn rfl rfl (by decide) (aJ e18).2 rfl
 obtain ⟨b20, q21, i19⟩ := h.wo 4 rfl gK rfl (aJ e18).1 (fA (aJ e18).2 e23)
 refine aO (i19 _ _ _ _ _ _ _ _ _ rfl rfl) ?_
 obtain ⟨cs24, m25, r26⟩ := h.yN 4 rfl q21 (fA (aJ e18).2 e23)
 obtain ⟨rfl, -⟩ := r26
 refine aO (oL (k := 0) m25 pE rfl rfl) (aO (ak qp rfl) (aO (aF h 8 rfl bz rfl rfl) (aO (au (v := vb) rfl) (aO (ak iG rfl) (aO (aF h 8 rfl bz rfl rfl) ?_)))))
 obtain ⟨x27, e28, hs⟩ := aQ hs
 obtain ⟨b30, q31, i29⟩ := h.wo 7 rfl bX rfl (aJ e28).1 (aJ e28).2
 refine aO (i29 _ _ _ _ _ _ _ _ _ rfl rfl) ?_
 obtain ⟨cs32, m33, r34⟩ := h.yN 7 rfl q31 (aJ e28).2
 obtain rfl := r34
 refine aO (oC (k := 0) (vs := [(.int .i64 (x27.kind)), (.int .i64 (x27.n))]) m33 bS rfl rfl rfl (Nat.le_of_ble_eq_true rfl)) ?_
 obtain ⟨xL, e36, hs⟩ := aQ hs
 obtain ⟨b38, q39, i37⟩ := h.wo 10 rfl bX rfl (aJ e36).1 (aJ e36).2
 refine aO (i37 _ _ _ _ _ _ _ _ _ rfl rfl) (xP (xw (a' := x27) (vs := [(.int .i64 (x27.kind)), (.int .i64 (x27.n))]) h 10 rfl q39 rfl (aJ e36).2 bS rfl rfl rfl rfl rfl fun w h k40 => ah (aa (ai (ag (ae (aj (v := (.bool (true))) rfl) (ah (aa (aK (cK (v := (.bool (true))) Tryz.results88 rfl ?_))))))))))
 replace h := h.iM 3 7 rfl rfl (by decide) eb hb rfl
 replace h := h.qX 4 5 10 (yn.set (a.c).toNat x27) rfl rfl rfl (by decide) (by decide) (by decide) (aJ e18).2 e23 rfl
 replace h := h.pair 1 2 (by decide)
 replace h := h.pair 1 3 (by decide)
 replace h := h.pair 1 4 (by decide)
 replace h := h.pair 1 5 (by decide)
 obtain rfl := Option.some.inj hs
 subst zJ
 obtain ⟨o1, o2, o3⟩ := h.qH 1 (C := (.two (.two (.two (.two (.blk sb [eH, vs1, (.int .i64 (sx.status)), (.int .i64 (sx.aW))]) (.own aB.raw 49 eH (List.zip sx.frames eZ))) (.bJ (aR aM 51 hn eZ (List.map aB.sub sx.frames)))) (.own (aT Val).raw 47 vs1 (List.zip (sx.cells.set (x5.n).toNat (yn.set (a.c).toNat x27)) eD))) (.bJ (aR aM 51 hn eD (List.map (aT Val).sub (sx.cells.set (x5.n).toNat (yn.set (a.c).toNat x27))))) : Chunk)) rfl ⟨⟨⟨⟨trivial, trivial⟩, trivial⟩, trivial⟩, trivial⟩
 exact ⟨o2, eH, vs1, eZ, eD, rfl, o1, o3⟩
 refine qj 16 mixed (by kernel_rfl) h fun w h => aO (au (v := vb) rfl) (aO (ak j3 rfl) (aO (aF h 8 rfl bz rfl rfl) (aO (au (v := (.pointer (some ⟨sb, 0, none⟩))) rfl) (aO (bO rfl) (aO (ak jZ rfl) (aO (aF h 1 rfl pz rfl rfl) (aO (ak iw rfl) (aO (aF h 9 rfl bz rfl rfl) ?_))))))))
 obtain ⟨x41, e42, hs⟩ := aQ hs
 obtain ⟨u46, e47, h⟩ := h.q8 5 11 x41 rfl rfl (by decide) (aJ e42).2 rfl
 obtain ⟨PU, q45, i43⟩ := h.wo 4 rfl gK rfl (aJ e42).1 (fA (aJ e42).2 e47)
 refine aO (i43 _ _ _ _ _ _ _ _ _ rfl rfl) ?_
 obtain ⟨cs48, m49, r50⟩ := h.yN 4 rfl q45 (fA (aJ e42).2 e47)
 obtain ⟨rfl, -⟩ := r50
 refine aO (oL (k := 0) m49 pE rfl rfl) (aO (ak qp rfl) (aO (aF h 8 rfl bz rfl rfl) ?_))
 obtain ⟨Uv, e52, hs⟩ := aQ hs
 obtain ⟨b54, q55, i53⟩ := h.wo 11 rfl bX rfl (aJ e52).1 (aJ e52).2
 refine aO (i53 _ _ _ _ _ _ _ _ _ rfl rfl) ?_
 obtain ⟨cs56, m57, r58⟩ := h.yN 11 rfl q55 (aJ e52).2
 obtain rfl := r58
 refine aO (oC (k := 0) (vs := [(.int .i64 (Uv.kind)), (.int .i64 (Uv.n))]) m57 bS rfl rfl rfl (Nat.le_of_ble_eq_true rfl)) ?_
 obtain ⟨x59, e60, hs⟩ := aQ hs
 obtain ⟨b62, q63, i61⟩ := h.wo 7 rfl bX rfl (aJ e60).1 (aJ e60).2
 refine aO (i61 _ _ _ _ _ _ _ _ _ rfl rfl) (xP (xw (a' := Uv) (vs := [(.int .i64 (Uv.kind)), (.int .i64 (Uv.n))]) h 7 rfl q63 rfl (aJ e60).2 bS rfl rfl rfl rfl rfl fun w h k64 => ah (aa (ai (ag (ae (aj (v := (.bool (true))) rfl) (ah (aa (aK (cK (v := (.bool (true))) Tryz.results88 rfl ?_))))))))))
 replace h := h.qX 2 3 7 ({ xb with regs := (xb.regs.set (a.a).toNat Uv) }) rfl rfl rfl (by decide) (by decide) (by decide) eb hb rfl
 replace h := h.iM 5 11 rfl rfl (by decide) (aJ e42).2 e47 rfl
 replace h := h.pair 1 2 (by decide)
 replace h := h.pair 1 3 (by decide)
 replace h := h.pair 1 4 (by decide)
 replace h := h.pair 1 5 (by decide)
 obtain rfl := Option.some.inj hs
 subst zJ
 obtain ⟨o1, o2, o3⟩ := h.qH 1 (C := (.two (.two (.two (.two (.blk sb [eH, vs1, (.int .i64 (sx.status)), (.int .i64 (sx.aW))]) (.own aB.raw 49 eH (List.zip (sx.frames.set (kb).toNat ({ xb with regs := (xb.regs.set (a.a).toNat Uv) })) eZ))) (.bJ (aR aM 51 hn eZ (List.map aB.sub (sx.frames.set (kb).toNat ({ xb with regs := (xb.regs.set (a.a).toNat Uv) })))))) (.own (aT Val).raw 47 vs1 (List.zip sx.cells eD))) (.bJ (aR aM 51 hn eD (List.map (aT Val).sub sx.cells))) : Chunk)) rfl ⟨⟨⟨⟨trivial, trivial⟩, trivial⟩, trivial⟩, trivial⟩
 exact ⟨o2, eH, vs1, eZ, eD, rfl, o1, o3⟩
 refine CK mixed (by kernel_rfl) h fun w h => aO (ak sD rfl) (aO (aF h 9 rfl bz rfl rfl) (aO (gq rfl rfl) (aO (au (v := (.bool (decide ((x5.kind : Int) ≠ 2)))) rfl) (lW (b := decide ((x5.kind : Int) ≠ 2)) hs (fun vg hs => ?_) (fun vg hs => ?_)))))
 refine fP (b' := true) rfl (congrArg Value.bool vg) rfl (fP (b' := true) rfl (congrArg Value.bool vg) rfl (fP (b' := true) rfl (congrArg Value.bool vg) rfl (fP (b' := true) rfl (congrArg Value.bool vg) rfl (fP (b' := true) rfl (congrArg Value.bool vg) rfl (fP (b' := true) rfl (congrArg Value.bool vg) rfl (fP (b' := true) rfl (congrArg Value.bool vg) rfl (fP (b' := true) rfl (congrArg Value.bool vg) rfl (fP (b' := true) rfl (congrArg Value.bool vg) rfl (fP (b' := true) rfl (congrArg Value.bool vg) rfl (fP (b' := true) rfl (congrArg Value.bool vg) rfl (fP (b' := true) rfl (congrArg Value.bool vg) rfl (aO (fw (b := true) (v := (.bool (true))) (congrArg Value.bool vg) rfl) (zT (az ?_))))))))))))))
 exact bQ true ⟨h.cn _, hs⟩
 refine iL rfl (congrArg Value.bool vg) (aO (ak qp rfl) (iL rfl (congrArg Value.bool vg) (aO (aF h 8 rfl bz rfl rfl) (iL rfl (congrArg Value.bool vg) (aO (au (v := (.pointer (some ⟨sb, 0, none⟩))) rfl) (iL rfl (congrArg Value.bool vg) (aO (bO rfl) (iL rfl (congrArg Value.bool vg) (aO (ak jZ rfl) (iL rfl (congrArg Value.bool vg) (aO (aF h 1 rfl pz rfl rfl) (iL rfl (congrArg Value.bool vg) (aO (ak iw rfl) (iL rfl (congrArg Value.bool vg) (aO (aF h 9 rfl bz rfl rfl) (iL rfl (congrArg Value.bool vg) ?_))))))))))))))))
 obtain ⟨x66, XU, hs⟩ := aQ hs
 obtain ⟨u71, XV, h⟩ := h.q8 5 12 x66 rfl rfl (by decide) (aJ XU).2 rfl
 obtain ⟨b69, q70, i68⟩ := h.wo 4 rfl gK rfl (aJ XU).1 (fA (aJ XU).2 XV)
 refine aO (i68 _ _ _ _ _ _ _ _ _ rfl rfl) (iL rfl (congrArg Value.bool vg) ?_)
 obtain ⟨cs73, XW, r75⟩ := h.yN 4 rfl q70 (fA (aJ XU).2 XV)
 obtain ⟨rfl, -⟩ := r75
 refine aO (oL (k := 0) XW pE rfl rfl) (iL rfl (congrArg Value.bool vg) (aO (bY bX rfl (h.dM 12 rfl)) (iL rfl (congrArg Value.bool vg) (aO (oK rfl rfl) (aO (fw (b := false) (v := (.bool (decide (((x66.length : Int) : Int) ≤ a.c)))) (congrArg Value.bool vg) rfl) (zT ?_))))))
 replace h := h.iM 5 12 rfl rfl (by decide) (aJ XU).2 XV rfl
 refine az ?_
 exact bQ (decide (((x66.length : Int) : Int) ≤ a.c)) ⟨h.cn _, hs⟩
 refine ai (ag (ae (ak oP rfl) (ae (aF h 8 rfl bz rfl rfl) (ae (bI rfl rfl) (ah (aa (aI hs rfl (fun c76 hs => ?_) (fun c76 hs => ?_))))))))
 refine ag (ae (ak j3 rfl) (ae (aF h 8 rfl bz rfl rfl) (ae (aj (v := (.int .i64 (a.a))) rfl) (ah (az ?_)))))
 exact bQ a.a ⟨h.cn _, hs⟩
 refine aG (az ?_)
 exact bQ a.b ⟨h.cn _, hs⟩
def sZ (Ki : (List Int × List (Int × Bool)) → Option (List Int × Int)) (wF : List Int) (zf : List (Int × Bool)) : Option (List Int × Int) :=
  Ki (wF, zf)
def tq (I1 : (List Int × List (Int × Bool)) → Option (List Int × Int)) (Nl : List Int) (Eh : List (Int × Bool)) : Option (List Int × Int) :=
  I1 (Nl, Eh)
def mP (tX : Val) (s : List Int × List (Int × Bool)) (I1 : List Int × List (Int × Bool) → Option (List Int × Int)) : Option (List Int × Int) :=
  match s with | (gm, ou) => bif (decide ((tX.kind : Int) = 2) && (!((lk tX.n ou).getD false))) then gz (Room 8 gm [tX.n]) (tq I1 (gm ++ [tX.n]) (yY tX.n true ou)) else tq I1 gm ou
def mQ (GD : Int) (Lv : (Int × List Int × List (Int × Bool)) → Option (List Int × Int)) (s : List Int × List (Int × Bool)) : Option (List Int × Int) :=
  match s with | (gm, ou) => gz (jA (GD + 1)) (Lv ((GD + 1), gm, ou))
def lh (a : List (List Val)) (s : Int × List Int × List (Int × Bool)) (Lv : Int × List Int × List (Int × Bool) → Option (List Int × Int)) : Option (List Int × Int) :=
  match s with | (GD, wV, yP) => bif decide ((GD : Int) < (wV.length : Int)) then (idx wV GD).bind fun x79 => (idx a x79).bind fun x87 => each mP (mQ GD Lv) x87 (wV, yP) else some (wV, 0)
def pW (sH : Val) (s : List Int × List (Int × Bool)) (Ki : List Int × List (Int × Bool) → Option (List Int × Int)) : Option (List Int × Int) :=
  match s with | (y32, Mo) => bif (decide ((sH.kind : Int) = 2) && (!((lk sH.n Mo).getD false))) then gz (Room 8 y32 [sH.n]) (sZ Ki (y32 ++ [sH.n]) (yY sH.n true Mo)) else sZ Ki y32 Mo
def tu (N : Nat) (a : List (List Val)) (s : List Int × List (Int × Bool)) : Option (List Int × Int) :=
  match s with | (y32, Mo) => again (lh a) N (0, y32, Mo)
def pX (a : List (List Val)) (x6 : Val) (s : Unit) (nx8 : Unit → Option (List Int × Int)) : Option (List Int × Int) :=
  bif decide (((cB x6 (a.length : Int)) : Int) ≠ 0) then some ([], (cB x6 (a.length : Int))) else nx8 ()
def mR (N : Nat) (a : List (List Val)) (b : List Val) (s : Unit) : Option (List Int × Int) :=
  each pW (tu N a) b ([], ([] : List (Int × Bool)))
def zt (N : Nat) (a : List (List Val)) (b : List Val) : Option (List Int × Int) :=
  bif decide (((dB a) : Int) ≠ 0) then some ([], (dB a)) else bif decide ((400 : Int) < (b.length : Int)) then some ([], 2) else each (pX a) (mR N a b) b ()
theorem Kn (N : Nat) (w0 : World) (M : BS) (hM : ∀ b, M b → b < w0.heap.size) (va : Value) (a : List (List Val)) (ha : gp (uY aM) w0 BE M va a) (vb : Value) (b : List Val) (hb : gp aM w0 BE M vb b) (r : List Int × Int) (hs : zt N a b = some r) :
    Calls Tryz.prog 48 #[va, vb] w0 (fun e w' => Grow w0 w' ∧ ∃ u0, e = .returned (.tuple #[u0, .int .i64 r.2]) ∧ dL fF 3 w' M u0 r.1 ∧ (∀ b, ob u0 b → w0.heap.size ≤ b)) := by
 refine aS (args := [va, vb]) Tryz.func48 rfl Tryz.ntmps48 (Nat.le_of_ble_eq_true rfl) ?_
 have h := SH.init hM
 replace h := h.il 1 ha bR
 replace h := h.il 2 hb (eT bR)
 have u7 := ha.cO
 have MO := hb.cO
 refine ai (ag (ae (aj (v := (.slice none 0 0)) rfl) (ae (aj (v := (.int .i64 (0))) rfl) (ah (aa (ai (ai (ag (ae (au (v := va) rfl) (bA RF rfl rfl (zF _ _ h.lt va a (h.je 1 rfl) _ rfl) ?_))))))))))
 rintro _ w ⟨k1, rfl⟩
 refine ⟨_, rfl, ?_⟩
 replace h := h.grow k1
 refine ae (aj (v := (.int .i64 ((dB a)))) rfl) (ah (aa (ai (ag (ae (au (v := (.int .i64 ((dB a)))) rfl) (ae (gq rfl rfl) (ah (aa (aI hs rfl (fun c2 hs => ?_) (fun c2 hs => ?_))))))))))
 refine ai (ag (ae (au (v := (.int .i64 ((dB a)))) rfl) (ae (aj (v := (.slice none 0 0)) rfl) (ae (aj (v := (.int .i64 ((dB a)))) rfl) (ah (aa (aK (aC (DJ (v1 := (.slice none 0 0)) (v2 := (.int .i64 ((dB a)))) Tryz.results48 rfl rfl ?_)))))))))
 obtain rfl := Option.some.inj hs
 exact ⟨h.grown, _, rfl, dL.nil, jf⟩
 refine aG (aa (ai (ai (ag (ae (au (v := vb) rfl) (ae (bY bX rfl (h.je 2 rfl)) (ae (jH rfl rfl) (ah (aa (aI hs rfl (fun c3 hs => ?_) (fun c3 hs => ?_)))))))))))
 refine ai (ag (ae (aj (v := (.slice none 0 0)) rfl) (ae (aj (v := (.int .i64 (2))) rfl) (ah (aa (aK (aC (DJ (v1 := (.slice none 0 0)) (v2 := (.int .i64 (2))) Tryz.results48 rfl rfl ?_))))))))
 obtain rfl := Option.some.inj hs
 exact ⟨h.grown, _, rfl, dL.nil, jf⟩
 refine aG (aa (ai (ai (ag (ae (au (v := vb) rfl) (ae (bY bX rfl (h.je 2 rfl)) (ae (au (v := (.int .i64 (0))) rfl) (ah (aa (aV (gT (σ := Nat × Int) (inl [4, 5, 8, 9, 28, 29, 30, 31, 32, 33, 34, 35, 36, 37, 38, 39]) (fun ⟨k4, i5⟩ => [(28, (.int .i64 (i5)))]) (fun ⟨k4, i5⟩ w => SH w0 M BE w (hset [(1, .sr (uY aM) va a), (2, .sr aM vb b)]) ∧ i5 = (k4 : Int) ∧ each (pX a) (mR N a b) (b.drop k4) () = some r) (fun ⟨k4, i5⟩ => b.length - k4) ⟨0, 0⟩ ⟨rfl, trivial⟩ ?_ ?_)))))))))))
 exact ⟨h.cn _, rfl, hs⟩
 rintro ⟨k4, i5⟩ w dz ⟨h, hik, hs⟩
 refine ai (ag ?_)
 refine ae (dN rfl rfl) (ah (aa ?_))
 refine ai (iJ rfl (fun e9 => ?_) (fun e9 => ?_))
 refine aG (aa ?_)
 obtain ⟨x6, e10a, e10b⟩ := gL (hik ▸ e9)
 rw [e10b, dO] at hs
 generalize hnx8 : each (pX a) (mR N a b) (b.drop (k4 + 1)) = nx8 at hs
 have e10r := gP ((h.je 2 rfl)).cO hik e9
 refine ai (aV (ai (ag ?_)))
 obtain ⟨b12, o13, cs14, h, r15, i11⟩ := h.Bt 2 3 rfl bX rfl (jl hik) (gN hik e10a)
 obtain rfl := r15
 refine ae (i11 _ _ _ _ _ _ _ _ _ rfl rfl) (ae (jW (k := 0) (vs := [(.int .i64 (x6.kind)), (.int .i64 (x6.n))]) h 3 rfl bS rfl rfl rfl (Nat.le_of_ble_eq_true rfl)) (bT h 4 bS fun w b16 h => dm (vs := [(.int .i64 (x6.kind)), (.int .i64 (x6.n))]) h 4 [(.int .i64 (x6.kind)), (.int .i64 (x6.n))] rfl bS rfl rfl rfl rfl rfl (ax rfl (ax rfl aZ)) fun w h => ah (aa (ai (ag (ae (dS (vs := [(.int .i64 (x6.kind)), (.int .i64 (x6.n))]) h 4 rfl bS rfl rfl rfl) (ae (au (v := va) rfl) (ae (bY gK rfl (h.je 1 rfl)) (bA ML rfl rfl (zl _ _ h.lt x6 (a.length : Int) _ rfl) ?_)))))))))
 rintro _ w ⟨k17, rfl⟩
 refine ⟨_, rfl, ?_⟩
 replace h := h.grow k17
 refine ae (aj (v := (.int .i64 ((cB x6 (a.length : Int))))) rfl) (ah (aa (ai (ag (ae (au (v := (.int .i64 ((cB x6 (a.length : Int))))) rfl) (ae (gq rfl rfl) (ah (aa (aI hs rfl (fun c18 hs => ?_) (fun c18 hs => ?_))))))))))
 refine ai (ag (ae (au (v := (.int .i64 ((cB x6 (a.length : Int))))) rfl) (ae (aj (v := (.slice none 0 0)) rfl) (ae (aj (v := (.int .i64 ((cB x6 (a.length : Int))))) rfl) (ah (aa (aK (aH (aC (aC (aH (aC (DJ (v1 := (.slice none 0 0)) (v2 := (.int .i64 ((cB x6 (a.length : Int))))) Tryz.results48 rfl rfl ?_)))))))))))))
 obtain rfl := Option.some.inj hs
 exact ⟨h.grown, _, rfl, dL.nil, jf⟩
 refine aG (aA (aa (ag (ae (dw rfl rfl e10r) (ae (au (v := (.int .i64 ((i5 + 1)))) rfl) (ah (az ?_)))))))
 subst hnx8
 exact jV ⟨k4 + 1, i5 + 1⟩ ⟨h.cn _, by omega, hs⟩ (by have := of_decide_eq_true e9; dsimp only; omega)
 rw [gM (hik ▸ e9), gU] at hs
 refine df (aN (aN (bE (aa (ai (ag (AQ h 5 fun w b19 h => o7 h 6 DY fun w b20 h => fq h 6 [(.map (some b19))] rfl DY rfl rfl rfl rfl rfl fun w h => ah (aa (ai (ag (o7 h 7 uC fun w Ig h => ah (aa (ai (ag (ae (ru (c1 := []) (c2 := [(.pointer (some ⟨b20, 0, none⟩)), (.pointer (some ⟨Ig, 0, none⟩))]) rfl rfl) (ae (aj (v := (.func (.func 82) #[] #[(.pointer (some ⟨b20, 0, none⟩)), (.pointer (some ⟨Ig, 0, none⟩))])) rfl) (ah (aa (ai ?_)))))))))))))))))))
 refine ai (ag (ae (au (v := vb) rfl) (ae (bY bX rfl (h.je 2 rfl)) (ae (au (v := (.int .i64 (0))) rfl) (ah (aa (aV ?_)))))))
 replace h := h.xO (R := fF) (E := 3) 11
 refine gT (σ := Nat × Int × Value × List Int × List (Int × Bool)) (inl [14, 44, 45, 46, 47, 48, 49, 50, 51]) (fun ⟨Lm, i35, v31, y32, Mo⟩ => [(44, (.int .i64 (i35)))]) (fun ⟨Lm, i35, v31, y32, Mo⟩ w => SH w0 M BE w (hset [(1, .sr (uY aM) va a), (2, .sr aM vb b), (5, .mp b19 (List.map (fun p => (p.1, (fun x => Value.bool x) p.2)) Mo)), (6, .blk b20 [(.map (some b19))]), (7, .blk Ig [v31]), (11, .own fF 3 v31 y32)]) ∧ i35 = (Lm : Int) ∧ each pW (tu N a) (b.drop Lm) (y32, Mo) = some r) (fun ⟨Lm, i35, v31, y32, Mo⟩ => b.length - Lm) ⟨0, 0, (.slice none 0 0), [], ([] : List (Int × Bool))⟩ ⟨rfl, trivial⟩ ?_ ?_
 exact ⟨h.cn _, rfl, hs⟩
 rintro ⟨Lm, i35, v31, y32, Mo⟩ w dz ⟨h, hik, hs⟩
 refine ai (ag ?_)
 refine ae (dN rfl rfl) (ah (aa ?_))
 refine ai (iJ rfl (fun e39 => ?_) (fun e39 => ?_))
 refine aG (aa ?_)
 obtain ⟨sH, XQ, XR⟩ := gL (hik ▸ e39)
 rw [XR, dO] at hs
 generalize SG : each pW (tu N a) (b.drop (Lm + 1)) = Ki at hs
 have XT := gP ((h.je 2 rfl)).cO hik e39
 refine bV (σ := Value × List Int × List (Int × Bool)) (inl [14, 46, 47, 48, 49, 50]) (fun ⟨v41, wF, zf⟩ => []) (fun ⟨v41, wF, zf⟩ w => SH w0 M BE w (hset [(1, .sr (uY aM) va a), (2, .sr aM vb b), (5, .mp b19 (List.map (fun p => (p.1, (fun x => Value.bool x) p.2)) zf)), (6, .blk b20 [(.map (some b19))]), (7, .blk Ig [v41]), (11, .own fF 3 v41 wF)]) ∧ sZ Ki wF zf = some r) ?_ ?_
 rintro ⟨v41, wF, zf⟩ w dz ⟨h, hs⟩
 refine ag (ae (dw rfl rfl XT) (ae (au (v := (.int .i64 ((i35 + 1)))) rfl) (ah (az ?_))))
 subst SG
 exact jV ⟨Lm + 1, i35 + 1, v41, wF, zf⟩ ⟨h.cn _, by omega, hs⟩ (by have := of_decide_eq_true e39; dsimp only; omega)
 refine aV (ai (ag ?_))
 obtain ⟨Uw, o46, cs47, h, r48, i44⟩ := h.Bt 2 12 rfl bX rfl (jl hik) (gN hik XQ)
 obtain rfl := r48
 refine ae (i44 _ _ _ _ _ _ _ _ _ rfl rfl) (ae (jW (k := 0) (vs := [(.int .i64 (sH.kind)), (.int .i64 (sH.n))]) h 12 rfl bS rfl rfl rfl (Nat.le_of_ble_eq_true rfl)) (bT h 13 bS fun w b49 h => dm (vs := [(.int .i64 (sH.kind)), (.int .i64 (sH.n))]) h 13 [(.int .i64 (sH.kind)), (.int .i64 (sH.n))] rfl bS rfl rfl rfl rfl rfl (ax rfl (ax rfl aZ)) fun w h => ah (aa (ag (ae (au (v := (.func (.func 82) #[] #[(.pointer (some ⟨b20, 0, none⟩)), (.pointer (some ⟨Ig, 0, none⟩))])) rfl) (ae (dS (vs := [(.int .i64 (sH.kind)), (.int .i64 (sH.n))]) h 13 rfl bS rfl rfl rfl) (lX (args := [(.agg #[(.int .i64 (sH.kind)), (.int .i64 (sH.n))]), (.pointer (some ⟨b20, 0, none⟩)), (.pointer (some ⟨Ig, 0, none⟩))]) RG rfl rfl (aS (args := [(.agg #[(.int .i64 (sH.kind)), (.int .i64 (sH.n))]), (.pointer (some ⟨b20, 0, none⟩)), (.pointer (some ⟨Ig, 0, none⟩))]) Tryz.func82 rfl Tryz.ntmps82 (Nat.le_of_ble_eq_true rfl) (ai (ag (rF (cs := [(.int .i64 (sH.kind)), (.int .i64 (sH.n))]) h 14 rfl rfl fun w b50 h => ah (aa (ai (ag (ae (ak sD rfl) (ae (aF h 14 rfl bz rfl rfl) (ae (bI rfl rfl) (ae (au (v := (.bool (decide ((sH.kind : Int) = 2)))) rfl) (aD rfl rfl (fun q => aF h 6 rfl DY rfl rfl) (aD rfl rfl (fun q => ak iw rfl) ?_))))))))))))))))))))
 refine aD rfl rfl (fun q => aF h 14 rfl bz (dn q) rfl) (aD rfl rfl (fun q => VU (f := (fun x => Value.bool x)) (zz := false) Mo h 5 rfl CZ (dn q) (dn q) rfl rfl) (aD rfl rfl (fun q => iq (dn q)) (ae (fZ rfl rfl lV) (ah (aa (aI hs rfl (fun c51 hs => ?_) (fun c51 hs => ?_)))))))
 refine ai (ag (ae (aF h 6 rfl DY rfl rfl) (ae (ak iw rfl) (ae (aF h 14 rfl bz rfl rfl) (zW (oM := (List.map (fun p => (p.1, (fun x => Value.bool x) p.2)) (yY sH.n true Mo))) h 5 rfl CZ rfl rfl rfl (AY (f := (fun x => Value.bool x)) _) fun w h => ah (aa (ag (ae (aF h 7 rfl uC rfl rfl) (ae (ak iw rfl) (ae (aF h 14 rfl bz rfl rfl) (uw (R := fF) (vs := [(.int .i64 (sH.n))]) (xs := [sH.n]) h 15 ky rfl rfl rfl ⟨rfl, trivial⟩ rfl fun w u52 h => ?_)))))))))))
 obtain ⟨a53, hs⟩ := bG hs
 refine mo (R := fF) (m := [sH.n]) h 11 rfl (h.dM 15 rfl) ky rfl rfl rfl a53.1 a53.2 fun w Yy h => fq h 7 [Yy] rfl uC rfl rfl rfl rfl (h.dD 11 rfl).one fun w h => ah (Iw Tryz.results82 (⟨_, rfl, ?_⟩))
 refine ah (aA (az ?_))
 exact bQ (Yy, (y32 ++ [sH.n]), (yY sH.n true Mo)) ⟨h.cn _, hs⟩
 refine aG (Iw Tryz.results82 (⟨_, rfl, ?_⟩))
 refine ah (aA (az ?_))
 exact bQ (v31, y32, Mo) ⟨h.cn _, hs⟩
 rw [gM (hik ▸ e39), gU] at hs
 refine df (aN (aN (bE (aa (ai (ai (ag (ae (aj (v := (.int .i64 (0))) rfl) (ah (aa (aV (gT (σ := Nat × Int × Value × List Int × List (Int × Bool)) (inl [15, 17, 52, 53, 54, 55, 56, 57, 58, 59, 60, 61, 62, 63, 64, 65, 66, 67, 68, 69, 70, 71, 72, 73]) (fun ⟨XW, GD, v68, wV, yP⟩ => [(15, (.int .i64 (GD)))]) (fun ⟨XW, GD, v68, wV, yP⟩ w => SH w0 M BE w (hset [(1, .sr (uY aM) va a), (5, .mp b19 (List.map (fun p => (p.1, (fun x => Value.bool x) p.2)) yP)), (6, .blk b20 [(.map (some b19))]), (7, .blk Ig [v68]), (11, .own fF 3 v68 wV)]) ∧ again (lh a) XW (GD, wV, yP) = some r) (fun ⟨XW, GD, v68, wV, yP⟩ => XW) ⟨N, 0, v31, y32, Mo⟩ ⟨rfl, trivial⟩ ?_ ?_))))))))))))
 exact ⟨h.cn _, hs⟩
 rintro ⟨XW, GD, v68, wV, yP⟩ w dz ⟨h, hs⟩
 obtain ⟨m741, m74e, m74h⟩ := qm hs
 subst m74e
 replace hs := m74h
 generalize hnx75 : again (lh a) m741 = Lv at hs
 refine ai (ai (ag (ae (au (v := (.int .i64 (GD))) rfl) (ae (aF h 7 rfl uC rfl rfl) (ae (bY bW rfl (h.dM 11 rfl)) (ae (dN rfl rfl) (ah (aa (aI hs rfl (fun c78 hs => ?_) (fun c78 hs => ?_))))))))))
 refine aG (aa (ai (aV (ai (ag (ae (au (v := va) rfl) (ae (aF h 7 rfl uC rfl rfl) (ae (au (v := (.int .i64 (GD))) rfl) ?_))))))))
 obtain ⟨x79, XX, hs⟩ := aQ hs
 obtain ⟨b82, q83, i81⟩ := h.wo 11 rfl bW rfl (aJ XX).1 (aJ XX).2
 refine ae (i81 _ _ _ _ _ _ _ _ _ rfl rfl) ?_
 obtain ⟨cs84, m85, r86⟩ := h.yN 11 rfl q83 (aJ XX).2
 obtain rfl := r86
 refine ae (oL (k := 0) m85 bz rfl rfl) ?_
 obtain ⟨x87, XY, hs⟩ := aQ hs
 obtain ⟨b90, o91, cs92, h, r93, i89⟩ := h.Bt 1 16 rfl gK rfl (aJ XY).1 (aJ XY).2
 obtain ⟨u94, rfl, g95⟩ := r93
 replace h := h.cZ 17 g95.up
 refine ae (i89 _ _ _ _ _ _ _ _ _ rfl rfl) (ae (eF (k := 0) h 16 rfl pE rfl rfl) (ae (bY bX rfl (h.oZ 17 rfl)) (ae (au (v := (.int .i64 (0))) rfl) (ah (aa (aV (gT (σ := Nat × Int × Value × List Int × List (Int × Bool)) (inl [17, 66, 67, 68, 69, 70, 71, 72, 73]) (fun ⟨Ih, i109, v105, gm, ou⟩ => [(66, (.int .i64 (i109)))]) (fun ⟨Ih, i109, v105, gm, ou⟩ w => SH w0 M BE w (hset [(1, .sr (uY aM) va a), (5, .mp b19 (List.map (fun p => (p.1, (fun x => Value.bool x) p.2)) ou)), (6, .blk b20 [(.map (some b19))]), (7, .blk Ig [v105]), (11, .own fF 3 v105 gm), (17, .rd aM u94 x87)]) ∧ i109 = (Ih : Int) ∧ each mP (mQ GD Lv) (x87.drop Ih) (gm, ou) = some r) (fun ⟨Ih, i109, v105, gm, ou⟩ => x87.length - Ih) ⟨0, 0, v68, wV, yP⟩ ⟨rfl, trivial⟩ ?_ ?_)))))))
 exact ⟨h.cn _, rfl, hs⟩
 rintro ⟨Ih, i109, v105, gm, ou⟩ w dz ⟨h, hik, hs⟩
 refine ai (ag ?_)
 refine ae (dN rfl rfl) (ah (aa ?_))
 refine ai (iJ rfl (fun S9 => ?_) (fun S9 => ?_))
 refine aG (aa ?_)
 obtain ⟨tX, e114a, e114b⟩ := gL (hik ▸ S9)
 rw [e114b, dO] at hs
 generalize XZ : each mP (mQ GD Lv) (x87.drop (Ih + 1)) = I1 at hs
 have e114r := gP ((h.oZ 17 rfl)).cO hik S9
 refine bV (σ := Value × List Int × List (Int × Bool)) (inl [17, 68, 69, 70, 71, 72]) (fun ⟨Ta, Nl, Eh⟩ => []) (fun ⟨Ta, Nl, Eh⟩ w => SH w0 M BE w (hset [(1, .sr (uY aM) va a), (5, .mp b19 (List.map (fun p => (p.1, (fun x => Value.bool x) p.2)) Eh)), (6, .blk b20 [(.map (some b19))]), (7, .blk Ig [Ta]), (11, .own fF 3 Ta Nl), (17, .rd aM u94 x87)]) ∧ tq I1 Nl Eh = some r) ?_ ?_
 rintro ⟨Ta, Nl, Eh⟩ w dz ⟨h, hs⟩
 refine ag (ae (dw rfl rfl e114r) (ae (au (v := (.int .i64 ((i109 + 1)))) rfl) (ah (az ?_))))
 subst XZ
 exact jV ⟨Ih + 1, i109 + 1, Ta, Nl, Eh⟩ ⟨h.cn _, by omega, hs⟩ (by have := of_decide_eq_true S9; dsimp only; omega)
 refine aV (ai (ag ?_))
 obtain ⟨b119, o120, cs121, h, r122, i118⟩ := h.DI 17 18 rfl bX rfl (jl hik) (gN hik e114a)
 obtain rfl := r122
 refine ae (i118 _ _ _ _ _ _ _ _ _ rfl rfl) (ae (jW (k := 0) (vs := [(.int .i64 (tX.kind)), (.int .i64 (tX.n))]) h 18 rfl bS rfl rfl rfl (Nat.le_of_ble_eq_true rfl)) (bT h 19 bS fun w b123 h => dm (vs := [(.int .i64 (tX.kind)), (.int .i64 (tX.n))]) h 19 [(.int .i64 (tX.kind)), (.int .i64 (tX.n))] rfl bS rfl rfl rfl rfl rfl (ax rfl (ax rfl aZ)) fun w h => ah (aa (ag (ae (au (v := (.func (.func 82) #[] #[(.pointer (some ⟨b20, 0, none⟩)), (.pointer (some ⟨Ig, 0, none⟩))])) rfl) (ae (dS (vs := [(.int .i64 (tX.kind)), (.int .i64 (tX.n))]) h 19 rfl bS rfl rfl rfl) (lX (args := [(.agg #[(.int .i64 (tX.kind)), (.int .i64 (tX.n))]), (.pointer (some ⟨b20, 0, none⟩)), (.pointer (some ⟨Ig, 0, none⟩))]) RG rfl rfl (aS (args := [(.agg #[(.int .i64 (tX.kind)), (.int .i64 (tX.n))]), (.pointer (some ⟨b20, 0, none⟩)), (.pointer (some ⟨Ig, 0, none⟩))]) Tryz.func82 rfl Tryz.ntmps82 (Nat.le_of_ble_eq_true rfl) (ai (ag (rF (cs := [(.int .i64 (tX.kind)), (.int .i64 (tX.n))]) h 20 rfl rfl fun w b124 h => ah (aa (ai (ag (ae (ak sD rfl) (ae (aF h 20 rfl bz rfl rfl) (ae (bI rfl rfl) (ae (au (v := (.bool (decide ((tX.kind : Int) = 2)))) rfl) (aD rfl rfl (fun q => aF h 6 rfl DY rfl rfl) (aD rfl rfl (fun q => ak iw rfl) ?_))))))))))))))))))))
 refine aD rfl rfl (fun q => aF h 20 rfl bz (dn q) rfl) (aD rfl rfl (fun q => VU (f := (fun x => Value.bool x)) (zz := false) ou h 5 rfl CZ (dn q) (dn q) rfl rfl) (aD rfl rfl (fun q => iq (dn q)) (ae (fZ rfl rfl lV) (ah (aa (aI hs rfl (fun rA hs => ?_) (fun rA hs => ?_)))))))
 refine ai (ag (ae (aF h 6 rfl DY rfl rfl) (ae (ak iw rfl) (ae (aF h 20 rfl bz rfl rfl) (zW (oM := (List.map (fun p => (p.1, (fun x => Value.bool x) p.2)) (yY tX.n true ou))) h 5 rfl CZ rfl rfl rfl (AY (f := (fun x => Value.bool x)) _) fun w h => ah (aa (ag (ae (aF h 7 rfl uC rfl rfl) (ae (ak iw rfl) (ae (aF h 20 rfl bz rfl rfl) (uw (R := fF) (vs := [(.int .i64 (tX.n))]) (xs := [tX.n]) h 21 ky rfl rfl rfl ⟨rfl, trivial⟩ rfl fun w u126 h => ?_)))))))))))
 obtain ⟨a127, hs⟩ := bG hs
 refine mo (R := fF) (m := [tX.n]) h 11 rfl (h.dM 21 rfl) ky rfl rfl rfl a127.1 a127.2 fun w u128 h => fq h 7 [u128] rfl uC rfl rfl rfl rfl (h.dD 11 rfl).one fun w h => ah (Iw Tryz.results82 (⟨_, rfl, ?_⟩))
 refine ah (aA (az ?_))
 exact bQ (u128, (gm ++ [tX.n]), (yY tX.n true ou)) ⟨h.cn _, hs⟩
 refine aG (Iw Tryz.results82 (⟨_, rfl, ?_⟩))
 refine ah (aA (az ?_))
 exact bQ (v105, gm, ou) ⟨h.cn _, hs⟩
 rw [gM (hik ▸ S9), gU] at hs
 refine df (aN (aN (bE (aA (aa (ag (ae (au (v := (.int .i64 (GD))) rfl) ?_)))))))
 obtain ⟨a129, hs⟩ := bG hs
 refine ae (dw rfl rfl a129) (ae (aj (v := (.int .i64 ((GD + 1)))) rfl) (ah (az ?_)))
 subst hnx75
 exact jV ⟨m741, (GD + 1), v105, gm, ou⟩ ⟨h.cn _, hs⟩
 refine df (aN (aN (bE (aa (ai (ag (ae (aF h 7 rfl uC rfl rfl) (ae (aj (v := v68) rfl) (ae (aj (v := (.int .i64 (0))) rfl) (ah (aa (aK (DJ (v1 := v68) (v2 := (.int .i64 (0))) Tryz.results48 rfl rfl ?_)))))))))))))
 obtain rfl := Option.some.inj hs
 exact ⟨h.grown, _, rfl, (h.lI 11 rfl).1, (h.lI 11 rfl).2⟩
def Bi (FO : List Val → Option (List Val)) (wE : List Val) : Option (List Val) :=
  FO wE
def Bj (mL : List (Int × Int)) (i6 : Int) (x4 : List Val) (FO : List Val → Option (List Val)) : Option (List Val) :=
  (idx x4 i6).bind fun zR => bif decide ((zR.kind : Int) = 2) then Bi FO (x4.set (i6).toNat { zR with n := ((lk zR.n mL).getD (0 : Int)) }) else Bi FO x4
def Ei (x4 : List Val) : Option (List Val) :=
  some x4
def GG (sx : List Val) (mL : List (Int × Int)) : Option (List Val) :=
  upto (Bj mL) Ei 0 ((sx.length : Int)).toNat sx
theorem Lx (w0 : World) (M : BS) (hM : ∀ b, M b → b < w0.heap.size) (bq bm : Nat) (sv : Value) (sx : List Val) (hC : Chunk.holds w0 M (Chunk.own' (.own aM 51 sv sx : Chunk)) (.own aM 51 sv sx : Chunk)) (hap : ∀ b, Chunk.own' (.own aM 51 sv sx : Chunk) b → ¬ M b) (mL : List (Int × Int)) (hbm : vE w0 bm (List.map (fun p => (p.1, (fun x => Value.int .i64 x) p.2)) mL)) (nbm : ¬ Chunk.own' (.own aM 51 sv sx : Chunk) bm) (hbq : ∃ E, w0.heap[bq]? = some (.cells #[(.map (some bm))] E (0, 0))) (nbq : ¬ Chunk.own' (.own aM 51 sv sx : Chunk) bq) (r : List Val) (hs : GG sx mL = some r) :
    Calls Tryz.prog 50 #[sv, (.pointer (some ⟨bq, 0, none⟩))] w0 (fun e w' => aP (Chunk.own' (.own aM 51 sv sx : Chunk)) w0 w' ∧ e = .returned (.tuple #[]) ∧ Chunk.holds w' M (Chunk.own' (.own aM 51 sv r : Chunk)) (.own aM 51 sv r : Chunk) ∧ (∀ b, Chunk.own' (.own aM 51 sv r : Chunk) b → b < w0.heap.size → Chunk.own' (.own aM 51 sv sx : Chunk) b)) := by
 refine aS (args := [sv, (.pointer (some ⟨bq, 0, none⟩))]) Tryz.func50 rfl Tryz.ntmps50 (Nat.le_of_ble_eq_true rfl) ?_
 have h := SH.E5 hM hC hap
 replace h := h.yX 3 (cs := [(.map (some bm))]) hbq nbq zG
 have nbqK := nbq
 have nbmK := nbm
 generalize zJ : (.own aM 51 sv sx : Chunk).own' = K0 at h nbqK nbmK
 refine ai (ag (ae (au (v := sv) rfl) (ae (bY bX rfl (h.dM 1 rfl)) (ae (au (v := (.int .i64 (0))) rfl) (ah (aa (aV ?_)))))))
 have hli6 := (h.dM 1 rfl).cO
 refine gT (σ := Nat × Int × List Val) (inl [3, 4, 7, 8, 9, 10, 11, 12, 13, 14, 15, 16, 17, 18, 19, 20, 21, 22, 23]) (fun ⟨k5, i6, x4⟩ => [(7, (.int .i64 (i6)))]) (fun ⟨k5, i6, x4⟩ w => SH w0 M K0 w (hset [(1, .own aM 51 sv x4), (2, .no), (3, .pt bq 0 [(.map (some bm))])]) ∧ i6 = (k5 : Int) ∧ upto (Bj mL) Ei i6 (((sx.length : Int)).toNat - k5) x4 = some r) (fun ⟨k5, i6, x4⟩ => ((sx.length : Int)).toNat - k5) ⟨0, 0, sx⟩ ⟨rfl, trivial⟩ ?_ ?_
 exact ⟨h.cn _, rfl, hs⟩
 rintro ⟨k5, i6, x4⟩ w dz ⟨h, hik, hs⟩
 refine ai (ag ?_)
 refine ae (dN rfl rfl) (ah (aa ?_))
 refine ai (iJ rfl (fun e10 => ?_) (fun e10 => ?_))
 refine aG (aa ?_)
 rw [vO (by have := of_decide_eq_true e10; omega)] at hs
 generalize RX : upto (Bj mL) Ei (i6 + 1) (((sx.length : Int)).toNat - (k5 + 1)) = FO at hs
 have RY : jA (i6 + 1) := (by have := of_decide_eq_true e10; have := hli6; exact jA.mk (by omega) (by omega))
 refine bV (σ := List Val) (inl [3, 4, 9, 10, 11, 12, 13, 14, 15, 16, 17, 18, 19, 20, 21, 22]) (fun wE => []) (fun wE w => SH w0 M K0 w (hset [(1, .own aM 51 sv wE), (2, .no), (3, .pt bq 0 [(.map (some bm))])]) ∧ Bi FO wE = some r) ?_ ?_
 rintro wE w dz ⟨h, hs⟩
 refine ag (ae (dw rfl rfl RY) (ae (au (v := (.int .i64 ((i6 + 1)))) rfl) (ah (az ?_))))
 subst RX
 exact jV ⟨k5 + 1, i6 + 1, wE⟩ ⟨h.cn _, by omega, hs⟩ (by have := of_decide_eq_true e10; dsimp only; omega)
 refine aV (ai (ag (ae (au (v := (.int .i64 (i6))) rfl) ?_)))
 obtain ⟨zR, e14, hs⟩ := aQ hs
 obtain ⟨b16, q17, i15⟩ := h.wo 1 rfl bX rfl (aJ e14).1 (aJ e14).2
 refine ae (i15 _ _ _ _ _ _ _ _ _ rfl rfl) ?_
 obtain ⟨cs18, m19, Ve⟩ := h.yN 1 rfl q17 (aJ e14).2
 obtain rfl := Ve
 refine ae (oC (k := 0) (vs := [(.int .i64 (zR.kind)), (.int .i64 (zR.n))]) m19 bS rfl rfl rfl (Nat.le_of_ble_eq_true rfl)) (bT h 4 bS fun w Ig h => ae (aj (v := (.int .i64 (i6))) rfl) (dm (vs := [(.int .i64 (zR.kind)), (.int .i64 (zR.n))]) h 4 [(.int .i64 (zR.kind)), (.int .i64 (zR.n))] rfl bS rfl rfl rfl rfl rfl (ax rfl (ax rfl aZ)) fun w h => ah (aa (ai (ag (ae (ak sD rfl) (ae (aF h 4 rfl bz rfl rfl) (ae (bI rfl rfl) (ah (aa (aI hs rfl (fun c22 hs => ?_) (fun c22 hs => ?_))))))))))))
 refine ag (ae (au (v := sv) rfl) (ae (au (v := (.int .i64 (i6))) rfl) (ae (eF (k := 0) h 3 rfl OA rfl rfl) (ae (ak iw rfl) (ae (aF h 4 rfl bz rfl rfl) (ae (Xc (f := (fun x => Value.int .i64 x)) (zz := (0 : Int)) mL ((hbm).keep h.keep nbmK) Oz rfl rfl rfl) ?_))))))
 obtain ⟨YC, q25, i23⟩ := h.wo 1 rfl bX rfl (aJ e14).1 (aJ e14).2
 refine ae (i23 _ _ _ _ _ _ _ _ _ rfl rfl) (ae (ak iw rfl) (IA (a' := { zR with n := ((lk zR.n mL).getD (0 : Int)) }) h 1 rfl q25 rfl (aJ e14).2 bz rfl rfl rfl rfl (by rintro _ rfl; rfl) fun w h => ah (aA (az ?_))))
 exact bQ (x4.set (i6).toNat { zR with n := ((lk zR.n mL).getD (0 : Int)) }) ⟨h.cn _, hs⟩
 refine aG (aA (az ?_))
 exact bQ x4 ⟨h.cn _, hs⟩
 rw [vP (by have := of_decide_eq_false e10; omega)] at hs
 refine df (aN (aN (bE (Iw Tryz.results50 ?_))))
 obtain rfl := Option.some.inj hs
 subst zJ
 obtain ⟨o1, o2, o3⟩ := h.qH 1 (C := (.own aM 51 sv x4 : Chunk)) rfl trivial
 exact ⟨o2, rfl, o1, o3⟩
def uU (vJ : List (Int × Int)) (i127 : Int) (Dk : List (List Val)) (We : List (List Val) → Option LX.State) : Option LX.State :=
  (idx Dk i127).bind fun BP => (GG BP vJ).bind fun Tc => We (Dk.set (i127).toNat Tc)
def vX (D5 : List LX.Frame) (tL : LX.State) (Dk : List (List Val)) : Option LX.State :=
  some (⟨D5, Dk, tL.status, tL.aW⟩ : LX.State)
def tC (vJ : List (Int × Int)) (i99 : Int) (D5 : List LX.Frame) (Wh : List LX.Frame → Option LX.State) : Option LX.State :=
  (idx D5 i99).bind fun x105 => (GG x105.regs vJ).bind fun Eh => Wh (D5.set (i99).toNat ({ x105 with regs := Eh }))
def vY (vJ : List (Int × Int)) (tL : LX.State) (pO : List (List Val)) (D5 : List LX.Frame) : Option LX.State :=
  upto (uU vJ) (vX D5 tL) 0 ((pO.length : Int)).toNat pO
def nV (tL : LX.State) (i67 : Int) (Td : Int) (s : List (List Val) × List Int × List (Int × Int)) (nx70 : List (List Val) × List Int × List (Int × Int) → Option LX.State) : Option LX.State :=
  match s with | (pO, H9, vJ) => (idx tL.cells Td).bind fun Wi => gz (Td ∉ H9) (gz (Room 24 pO [Wi]) (nx70 ((pO ++ [Wi]), (H9 ++ [Td]), (yY Td i67 vJ))))
def qA (tL : LX.State) (s : List (List Val) × List Int × List (Int × Int)) : Option LX.State :=
  match s with | (pO, H9, vJ) => upto (tC vJ) (vY vJ tL pO) 0 ((tL.frames.length : Int)).toNat tL.frames
def qB (zR : LX.Frame) (zL : List Val) (nx15 : List Val → Option LX.State) : Option LX.State :=
  gz (Room 16 zL zR.regs) (nx15 (zL ++ zR.regs))
def vZ (N : Nat) (a : LX.State) (zL : List Val) : Option LX.State :=
  (zt N a.cells zL).bind fun y28 => bif decide ((y28.2 : Int) ≠ 0) then none else (zq a).bind fun tL => fT (nV tL) (qA tL) 0 y28.1 ([], ([] : List Int), ([] : List (Int × Int)))
def Dl (N : Nat) (a : LX.State) : Option LX.State :=
  each qB (vZ N a) a.frames []
theorem Nn (N : Nat) (w0 : World) (M : BS) (hM : ∀ b, M b → b < w0.heap.size) (a : LX.State) (Kl Gy : Value) (ha0 : gp iD w0 BE M Kl a.frames) (ha1 : gp (uY aM) w0 BE M Gy a.cells) (r : LX.State) (hs : Dl N a = some r) :
    Calls Tryz.prog 20 #[(.agg #[Kl, Gy, (.int .i64 (a.status)), (.int .i64 (a.aW))])] w0 (fun e w' => Grow w0 w' ∧ ∃ wH, ∃ zM, ∃ yw, ∃ Ef, e = .returned (.agg #[wH, zM, .int .i64 r.status, .int .i64 r.aW]) ∧ Chunk.holds w' M (Chunk.own' ((.two (.two (.two (.own aB.raw 49 wH (List.zip r.frames yw)) (.bJ (aR aM 51 hn yw (List.map aB.sub r.frames)))) (.own (aT Val).raw 47 zM (List.zip r.cells Ef))) (.bJ (aR aM 51 hn Ef (List.map (aT Val).sub r.cells)))) : Chunk)) ((.two (.two (.two (.own aB.raw 49 wH (List.zip r.frames yw)) (.bJ (aR aM 51 hn yw (List.map aB.sub r.frames)))) (.own (aT Val).raw 47 zM (List.zip r.cells Ef))) (.bJ (aR aM 51 hn Ef (List.map (aT Val).sub r.cells)))) : Chunk) ∧ (∀ b, Chunk.own' ((.two (.two (.two (.own aB.raw 49 wH (List.zip r.frames yw)) (.bJ (aR aM 51 hn yw (List.map aB.sub r.frames)))) (.own (aT Val).raw 47 zM (List.zip r.cells Ef))) (.bJ (aR aM 51 hn Ef (List.map (aT Val).sub r.cells)))) : Chunk) b → w0.heap.size ≤ b)) := by
 refine aS (args := [(.agg #[Kl, Gy, (.int .i64 (a.status)), (.int .i64 (a.aW))])]) Tryz.func20 rfl Tryz.ntmps20 (Nat.le_of_ble_eq_true rfl) ?_
 have h := SH.init hM
 replace h := h.il 1 ha0 bR
 replace h := h.il 2 ha1 (eT bR)
 refine ai (ag (rF (cs := [Kl, Gy, (.int .i64 (a.status)), (.int .i64 (a.aW))]) h 3 rfl rfl fun w b1 h => bT h 4 cu fun w b2 h => ah (aa (ai (ag (ae (aj (v := (.slice none 0 0)) rfl) (ah (aa (ai (ai (ag (ae (ak eU rfl) (ae (aF h 3 rfl ji rfl rfl) (ae (bY dQ rfl (h.je 1 rfl)) (ae (au (v := (.int .i64 (0))) rfl) (ah (aa (aV ?_))))))))))))))))))
 replace h := h.xO (R := aM) (E := 51) 8
 refine gT (σ := Nat × Int × Value × List Val) (inl [3, 5, 20, 21, 22, 23, 24, 25, 26, 27, 28]) (fun ⟨k11, i12, v9, zL⟩ => [(3, v9), (20, (.int .i64 (i12)))]) (fun ⟨k11, i12, v9, zL⟩ w => SH w0 M BE w (hset [(1, .sr iD Kl a.frames), (2, .sr (uY aM) Gy a.cells), (3, .blk b1 [Kl, Gy, (.int .i64 (a.status)), (.int .i64 (a.aW))]), (4, .blk b2 [(.slice none 0 0), (.slice none 0 0), (.int .i64 (0)), (.int .i64 (0))]), (8, .own aM 51 v9 zL)]) ∧ i12 = (k11 : Int) ∧ each qB (vZ N a) (a.frames.drop k11) zL = some r) (fun ⟨k11, i12, v9, zL⟩ => a.frames.length - k11) ⟨0, 0, (.slice none 0 0), []⟩ ⟨rfl, rfl, trivial⟩ ?_ ?_
 exact ⟨h.cn _, rfl, hs⟩
 rintro ⟨k11, i12, v9, zL⟩ w dz ⟨h, hik, hs⟩
 refine ai (ag ?_)
 refine ae (dN rfl rfl) (ah (aa ?_))
 refine ai (iJ rfl (fun e16 => ?_) (fun e16 => ?_))
 refine aG (aa ?_)
 obtain ⟨zR, e17a, e17b⟩ := gL (hik ▸ e16)
 rw [e17b, dO] at hs
 generalize hnx15 : each qB (vZ N a) (a.frames.drop (k11 + 1)) = nx15 at hs
 have e17r := gP ((h.je 1 rfl)).cO hik e16
 refine ai (aV (ai (ag ?_)))
 obtain ⟨b19, o20, cs21, h, r22, i18⟩ := h.Bt 1 9 rfl dQ rfl (jl hik) (gN hik e17a)
 obtain ⟨u23, rfl, g24⟩ := Aa r22
 replace h := h.cZ 10 g24.up
 refine ae (i18 _ _ _ _ _ _ _ _ _ rfl rfl) (ae (jW (k := 0) (vs := [(.int .i64 (zR.proc)), (.int .i64 (zR.at_)), u23, (.int .i64 (zR.qY))]) h 9 rfl ma rfl rfl rfl (Nat.le_of_ble_eq_true rfl)) (bT h 11 ma fun w b25 h => dm (vs := [(.int .i64 (zR.proc)), (.int .i64 (zR.at_)), u23, (.int .i64 (zR.qY))]) h 11 [(.int .i64 (zR.proc)), (.int .i64 (zR.at_)), u23, (.int .i64 (zR.qY))] rfl ma rfl rfl rfl rfl rfl (ax rfl (ax rfl (ax (h.gB 10 rfl).one (ax rfl aZ)))) fun w h => ah (aa (ag (ae (au (v := v9) rfl) (ae (ak oO rfl) (ae (aF h 11 rfl pE rfl rfl) ?_)))))))
 obtain ⟨a26, hs⟩ := bG hs
 refine mo (R := aM) (m := zR.regs) h 8 rfl (h.oZ 10 rfl) uz rfl rfl rfl a26.1 a26.2 fun w u27 h => ae (aj (v := u27) rfl) (ah (aA (aa (ag (ae (dw rfl rfl e17r) (ae (au (v := (.int .i64 ((i12 + 1)))) rfl) (ah (az ?_))))))))
 subst hnx15
 exact jV ⟨k11 + 1, i12 + 1, u27, (zL ++ zR.regs)⟩ ⟨h.cn _, by omega, hs⟩ (by have := of_decide_eq_true e16; dsimp only; omega)
 rw [gM (hik ▸ e16), gU] at hs
 refine df (aN (aN (bE (aa (ai (ag (ae (ak jZ rfl) (ae (aF h 3 rfl pz rfl rfl) (ae (au (v := v9) rfl) ?_)))))))))
 obtain ⟨y28, e29, hs⟩ := aQ hs
 refine bA Xj rfl rfl (Kn N _ _ h.lt Gy a.cells (h.je 2 rfl) v9 zL (h.dM 8 rfl) _ e29) ?_
 rintro _ w ⟨Us, u30, rfl, Z9, g32⟩
 refine ⟨_, rfl, ?_⟩
 replace h := h.jM 12 Us Z9 g32
 refine ae (au (v := (.tuple #[u30, (.int .i64 (y28.2))])) rfl) (ae (bC rfl rfl) (ae (bC rfl rfl) (ae (aj (v := u30) rfl) (ae (aj (v := (.int .i64 (y28.2))) rfl) (ah (aa (ai (ai (ag (ae (au (v := (.int .i64 (y28.2))) rfl) (ae (gq rfl rfl) (ah (aa (aI hs rfl (fun c34 hs => ?_) (fun c34 hs => ?_)))))))))))))))
 refine ai (ag (ae (dS (vs := [Kl, Gy, (.int .i64 (a.status)), (.int .i64 (a.aW))]) h 3 rfl cu rfl rfl rfl) (dm (vs := [Kl, Gy, (.int .i64 (a.status)), (.int .i64 (a.aW))]) h 4 [Kl, Gy, (.int .i64 (a.status)), (.int .i64 (a.aW))] rfl cu rfl rfl rfl rfl rfl (ax (h.OY 1 rfl).one (ax (h.OY 2 rfl).one (ax rfl (ax rfl aZ)))) fun w h => ah (aa (aK (aC ?_))))))
 cases hs
 refine aG (aa (ai (ag (ae (dS (vs := [Kl, Gy, (.int .i64 (a.status)), (.int .i64 (a.aW))]) h 3 rfl cu rfl rfl rfl) ?_))))
 obtain ⟨tL, e36, hs⟩ := aQ hs
 refine bA J2 rfl rfl (Bd _ _ h.lt a Kl Gy (h.je 1 rfl) (h.je 2 rfl) _ e36) ?_
 rintro _ w ⟨k43, u37, Vo, GH, LA, rfl, h41, h42⟩
 refine ⟨_, rfl, ?_⟩
 replace h := h.MH 13 (C := (.two (.two (.two (.own aB.raw 49 u37 (List.zip tL.frames GH)) (.bJ (aR aM 51 hn GH (List.map aB.sub tL.frames)))) (.own (aT Val).raw 47 Vo (List.zip tL.cells LA))) (.bJ (aR aM 51 hn LA (List.map (aT Val).sub tL.cells))) : Chunk)) k43 ⟨⟨⟨trivial, trivial⟩, trivial⟩, trivial⟩ h41 h42
 replace h := h.bU 13 16 (by decide) rfl rfl
 replace h := h.bU 13 15 (by decide) rfl rfl
 replace h := h.bU 13 14 (by decide) rfl rfl
 refine dm (vs := [u37, Vo, (.int .i64 (tL.status)), (.int .i64 (tL.aW))]) h 3 [u37, Vo, (.int .i64 (tL.status)), (.int .i64 (tL.aW))] rfl cu rfl rfl rfl rfl rfl (ax (h.dD 13 rfl).one (ax (h.dD 15 rfl).one (ax rfl (ax rfl aZ)))) fun w h => ah (aa (ai (ag (AQ h 17 fun w PU h => o7 h 18 OA fun w Uw h => fq h 18 [(.map (some PU))] rfl OA rfl rfl rfl rfl rfl fun w h => ah (aa (ai (ag (ae (aj (v := (.slice none 0 0)) rfl) (ah (aa (ai (ai (ag (ae (au (v := u30) rfl) (ae (bY bW rfl (h.dM 12 rfl)) (ae (au (v := (.int .i64 (0))) rfl) (ah (aa (aV ?_)))))))))))))))))))
 replace h := h.freeze 12 rfl
 replace h := h.W9 16 rfl
 replace h := h.xO (R := (aT Val).raw) (E := 47) 25
 replace h := h.WX (R := aM) (Es := 51) 26
 refine gT (σ := Nat × Int × Value × List Value × List (List Val) × List Int × List (Int × Int)) (inl [9, 10, 11, 44, 45, 46, 47, 48, 49, 50, 51, 52, 53, 54, 55, 56, 57, 58, 59, 60]) (fun ⟨Wj, i67, v61, Ej, pO, H9, vJ⟩ => [(9, v61), (44, (.int .i64 (i67)))]) (fun ⟨Wj, i67, v61, Ej, pO, H9, vJ⟩ w => SH w0 M BE w (hset [(3, .blk b1 [u37, Vo, (.int .i64 (tL.status)), (.int .i64 (tL.aW))]), (4, .blk b2 [(.slice none 0 0), (.slice none 0 0), (.int .i64 (0)), (.int .i64 (0))]), (12, .rd fF u30 y28.1), (13, .own aB.raw 49 u37 (List.zip tL.frames GH)), (14, .bJ (aR aM 51 hn GH (List.map aB.sub tL.frames))), (15, .own (aT Val).raw 47 Vo (List.zip tL.cells LA)), (16, .bJ (aR aM 51 (hmv H9) LA (List.map (aT Val).sub tL.cells))), (17, .mp PU (List.map (fun p => (p.1, (fun x => Value.int .i64 x) p.2)) vJ)), (18, .blk Uw [(.map (some PU))]), (25, .own (aT Val).raw 47 v61 (List.zip pO Ej)), (26, .bJ (aR aM 51 hn Ej (List.map (aT Val).sub pO)))]) ∧ i67 = (Wj : Int) ∧ fT (nV tL) (qA tL) i67 (y28.1.drop Wj) (pO, H9, vJ) = some r) (fun ⟨Wj, i67, v61, Ej, pO, H9, vJ⟩ => y28.1.length - Wj) ⟨0, 0, (.slice none 0 0), ([] : List Value), [], ([] : List Int), ([] : List (Int × Int))⟩ ⟨rfl, rfl, trivial⟩ ?_ ?_
 exact ⟨h.cn _, rfl, hs⟩
 rintro ⟨Wj, i67, v61, Ej, pO, H9, vJ⟩ w dz ⟨h, hik, hs⟩
 refine ai (ag ?_)
 refine ae (dN rfl rfl) (ah (aa ?_))
 refine ai (iJ rfl (fun Vl => ?_) (fun Vl => ?_))
 refine aG (aa ?_)
 obtain ⟨Td, e72a, e72b⟩ := gL (hik ▸ Vl)
 rw [e72b, jr] at hs
 generalize hnx70 : fT (nV tL) (qA tL) (i67 + 1) (y28.1.drop (Wj + 1)) = nx70 at hs
 have e72r := gP ((h.oZ 12 rfl)).cO hik Vl
 refine ai (aV (ai (ag (ae (au (v := (.int .i64 (i67))) rfl) ?_))))
 obtain ⟨b74, o75, cs76, h, r77, i73⟩ := h.DI 12 27 rfl bW rfl (jl hik) (gN hik e72a)
 obtain rfl := r77
 refine ae (i73 _ _ _ _ _ _ _ _ _ rfl rfl) (ae (eF (k := 0) h 27 rfl bz rfl rfl) (ae (aj (v := (.int .i64 (i67))) rfl) (ae (aj (v := (.int .i64 (Td))) rfl) (ah (aa (ai (ag (ae (aF h 18 rfl OA rfl rfl) (ae (au (v := (.int .i64 (Td))) rfl) (ae (au (v := (.int .i64 (i67))) rfl) (zW (oM := (List.map (fun p => (p.1, (fun x => Value.int .i64 x) p.2)) (yY Td i67 vJ))) h 17 rfl Oz rfl rfl rfl (AY (f := (fun x => Value.int .i64 x)) _) fun w h => ah (aa (ag (ae (au (v := v61) rfl) (ae (ak jZ rfl) (ae (aF h 3 rfl pz rfl rfl) (ae (au (v := (.int .i64 (Td))) rfl) ?_)))))))))))))))))
 obtain ⟨Wi, e79, hs⟩ := aQ hs
 obtain ⟨a83, hs⟩ := bG hs
 obtain ⟨u84, YH, h⟩ := h.UT 16 28 Wi rfl rfl (by decide) (aJ e79).1 (aJ e79).2 a83 rfl
 obtain ⟨b81, q82, i80⟩ := h.wo 15 rfl gK rfl (aJ e79).1 (fA (aJ e79).2 YH)
 refine ae (i80 _ _ _ _ _ _ _ _ _ rfl rfl) ?_
 obtain ⟨cs86, m87, r88⟩ := h.yN 15 rfl q82 (fA (aJ e79).2 YH)
 obtain ⟨rfl, -⟩ := r88
 refine ae (oL (k := 0) m87 pE rfl rfl) ?_
 have u89o : (Value.oneCell' u84) = true := (h.dD 28 rfl).one
 refine uw (R := (aT Val).raw) (vs := [u84]) (xs := List.zip [Wi] [u84]) h 29 qO rfl rfl rfl ⟨⟨iT u89o, u89o⟩, trivial⟩ rfl fun w u89 h => ?_
 replace h := h.wY (N := (aT Val)) 28 Wi rfl rfl
 obtain ⟨a90, hs⟩ := bG hs
 have z92 := h.iB 26 rfl
 have z92b := h.iB 28 rfl
 refine mo (R := (aT Val).raw) (m := List.zip [Wi] [u84]) h 25 rfl (h.dM 29 rfl) qO rfl rfl rfl (by rw [dP z92, dP z92b]; exact a90.1) (by rw [dP z92, dP z92b]; exact a90.2) fun w XB h => ?_
 replace h := (h.wW 26 28 rfl rfl (by decide)).fu 29
 rw [wX z92, ← List.map_append] at h
 obtain ⟨us93, us93e⟩ : ∃ z, z = Ej ++ [u84] := ⟨_, rfl⟩
 rw [← us93e] at h
 refine ae (aj (v := XB) rfl) (ah (aA (aa (ag (ae (dw rfl rfl e72r) (ae (au (v := (.int .i64 ((i67 + 1)))) rfl) (ah (az ?_))))))))
 subst hnx70
 exact jV ⟨Wj + 1, i67 + 1, XB, us93, (pO ++ [Wi]), (H9 ++ [Td]), (yY Td i67 vJ)⟩ ⟨h.cn _, by omega, hs⟩ (by have := of_decide_eq_true Vl; dsimp only; omega)
 rw [gM (hik ▸ Vl), ql] at hs
 refine df (aN (aN (bE (aa (ai (ag (ae (ru (c1 := []) (c2 := [(.pointer (some ⟨Uw, 0, none⟩))]) rfl rfl) (ae (aj (v := (.func (.func 50) #[] #[(.pointer (some ⟨Uw, 0, none⟩))])) rfl) (ah (aa (ai (ai (ag (ae (ak eU rfl) (ae (aF h 3 rfl ji rfl rfl) (ae (qG (N := aB) dQ rfl (h.dM 13 rfl) (h.iB 14 rfl)) (ae (au (v := (.int .i64 (0))) rfl) (ah (aa (aV ?_))))))))))))))))))))
 have hli99 := MI (h.dM 13 rfl) (h.iB 14 rfl)
 refine gT (σ := Nat × Int × List LX.Frame) (inl [14, 65, 66, 67, 68, 69, 70, 71, 72, 73]) (fun ⟨Wl, i99, D5⟩ => [(65, (.int .i64 (i99)))]) (fun ⟨Wl, i99, D5⟩ w => SH w0 M BE w (hset [(3, .blk b1 [u37, Vo, (.int .i64 (tL.status)), (.int .i64 (tL.aW))]), (4, .blk b2 [(.slice none 0 0), (.slice none 0 0), (.int .i64 (0)), (.int .i64 (0))]), (13, .own aB.raw 49 u37 (List.zip D5 GH)), (14, .bJ (aR aM 51 hn GH (List.map aB.sub D5))), (15, .own (aT Val).raw 47 Vo (List.zip tL.cells LA)), (16, .bJ (aR aM 51 (hmv H9) LA (List.map (aT Val).sub tL.cells))), (17, .mp PU (List.map (fun p => (p.1, (fun x => Value.int .i64 x) p.2)) vJ)), (18, .blk Uw [(.map (some PU))]), (25, .own (aT Val).raw 47 v61 (List.zip pO Ej)), (26, .bJ (aR aM 51 hn Ej (List.map (aT Val).sub pO)))]) ∧ i99 = (Wl : Int) ∧ upto (tC vJ) (vY vJ tL pO) i99 (((tL.frames.length : Int)).toNat - Wl) D5 = some r) (fun ⟨Wl, i99, D5⟩ => ((tL.frames.length : Int)).toNat - Wl) ⟨0, 0, tL.frames⟩ ⟨rfl, trivial⟩ ?_ ?_
 exact ⟨h.cn _, rfl, hs⟩
 rintro ⟨Wl, i99, D5⟩ w dz ⟨h, hik, hs⟩
 refine ai (ag ?_)
 refine ae (dN rfl rfl) (ah (aa ?_))
 refine ai (iJ rfl (fun Te => ?_) (fun Te => ?_))
 refine aG (aa ?_)
 rw [vO (by have := of_decide_eq_true Te; omega)] at hs
 generalize X0 : upto (tC vJ) (vY vJ tL pO) (i99 + 1) (((tL.frames.length : Int)).toNat - (Wl + 1)) = Wh at hs
 have e104r : jA (i99 + 1) := (by have := of_decide_eq_true Te; have := hli99; exact jA.mk (by omega) (by omega))
 refine ai (aV (ai (ag ?_)))
 obtain ⟨x105, Tf, hs⟩ := aQ hs
 obtain ⟨Aq, X3, h⟩ := h.q8 14 30 x105.regs rfl rfl (by decide) (aJ Tf).2 rfl
 obtain ⟨b108, q109, i107⟩ := h.wo 13 rfl dQ rfl (aJ Tf).1 (fA (aJ Tf).2 X3)
 refine ae (i107 _ _ _ _ _ _ _ _ _ rfl rfl) ?_
 obtain ⟨cs112, m113, r114⟩ := h.yN 13 rfl q109 (fA (aJ Tf).2 X3)
 obtain ⟨rfl, -⟩ := r114
 refine ae (oC (k := 0) (vs := [(.int .i64 (x105.proc)), (.int .i64 (x105.at_)), Aq, (.int .i64 (x105.qY))]) m113 ma rfl rfl rfl (Nat.le_of_ble_eq_true rfl)) (bT h 31 ma fun w b115 h => dm (vs := [(.int .i64 (x105.proc)), (.int .i64 (x105.at_)), Aq, (.int .i64 (x105.qY))]) h 31 [(.int .i64 (x105.proc)), (.int .i64 (x105.at_)), Aq, (.int .i64 (x105.qY))] rfl ma rfl rfl rfl rfl rfl (ax rfl (ax rfl (ax (h.dD 30 rfl).one (ax rfl aZ)))) fun w h => ah (aa (ag (ae (au (v := (.func (.func 50) #[] #[(.pointer (some ⟨Uw, 0, none⟩))])) rfl) (ae (ak oO rfl) (ae (aF h 31 rfl pE rfl rfl) ?_))))))
 obtain ⟨l116a, l116b, l116c⟩ := h.wC 30 (C := (.own aM 51 Aq x105.regs : Chunk)) rfl trivial
 obtain ⟨Eh, e118, hs⟩ := aQ hs
 refine bA RB rfl rfl (Lx _ _ l116c Uw PU Aq x105.regs l116a l116b vJ (h.Ms 17 rfl) (fun hb => h.apart 30 17 (by decide) _ hb rfl) (h.qE 18 rfl) (fun hb => h.apart 30 18 (by decide) _ hb rfl) _ e118) ?_
 rintro _ w ⟨k119, rfl, h120, h121⟩
 refine ⟨_, rfl, ?_⟩
 replace h := h.back 30 (C := (.own aM 51 Aq x105.regs : Chunk)) (C' := (.own aM 51 Aq Eh : Chunk)) rfl trivial h120 k119 h121
 refine ah (aA (aa (ag (ae (dw rfl rfl e104r) (ae (au (v := (.int .i64 ((i99 + 1)))) rfl) (ah ?_))))))
 replace h := h.qX 13 14 30 ({ x105 with regs := Eh }) rfl rfl rfl (by decide) (by decide) (by decide) (aJ Tf).2 X3 rfl
 refine az ?_
 subst X0
 exact jV ⟨Wl + 1, i99 + 1, (D5.set (i99).toNat ({ x105 with regs := Eh }))⟩ ⟨h.cn _, by omega, hs⟩ (by have := of_decide_eq_true Te; dsimp only; omega)
 rw [vP (by have := of_decide_eq_false Te; omega)] at hs
 refine df (aN (aN (bE (aa (ai (ai (ag (ae (au (v := v61) rfl) (ae (qG (N := (aT Val)) gK rfl (h.dM 25 rfl) (h.iB 26 rfl)) (ae (au (v := (.int .i64 (0))) rfl) (ah (aa (aV ?_)))))))))))))
 have X4 := MI (h.dM 25 rfl) (h.iB 26 rfl)
 refine gT (σ := Nat × Int × List (List Val)) (inl [16, 76, 77, 78, 79, 80, 81, 82, 83]) (fun ⟨LB, i127, Dk⟩ => [(76, (.int .i64 (i127)))]) (fun ⟨LB, i127, Dk⟩ w => SH w0 M BE w (hset [(3, .blk b1 [u37, Vo, (.int .i64 (tL.status)), (.int .i64 (tL.aW))]), (4, .blk b2 [(.slice none 0 0), (.slice none 0 0), (.int .i64 (0)), (.int .i64 (0))]), (13, .own aB.raw 49 u37 (List.zip D5 GH)), (14, .bJ (aR aM 51 hn GH (List.map aB.sub D5))), (15, .own (aT Val).raw 47 Vo (List.zip tL.cells LA)), (16, .bJ (aR aM 51 (hmv H9) LA (List.map (aT Val).sub tL.cells))), (17, .mp PU (List.map (fun p => (p.1, (fun x => Value.int .i64 x) p.2)) vJ)), (18, .blk Uw [(.map (some PU))]), (25, .own (aT Val).raw 47 v61 (List.zip Dk Ej)), (26, .bJ (aR aM 51 hn Ej (List.map (aT Val).sub Dk)))]) ∧ i127 = (LB : Int) ∧ upto (uU vJ) (vX D5 tL) i127 (((pO.length : Int)).toNat - LB) Dk = some r) (fun ⟨LB, i127, Dk⟩ => ((pO.length : Int)).toNat - LB) ⟨0, 0, pO⟩ ⟨rfl, trivial⟩ ?_ ?_
 exact ⟨h.cn _, rfl, hs⟩
 rintro ⟨LB, i127, Dk⟩ w dz ⟨h, hik, hs⟩
 refine ai (ag ?_)
 refine ae (dN rfl rfl) (ah (aa ?_))
 refine ai (iJ rfl (fun Tg => ?_) (fun Tg => ?_))
 refine aG (aa ?_)
 rw [vO (by have := of_decide_eq_true Tg; omega)] at hs
 generalize X5 : upto (uU vJ) (vX D5 tL) (i127 + 1) (((pO.length : Int)).toNat - (LB + 1)) = We at hs
 have e132r : jA (i127 + 1) := (by have := of_decide_eq_true Tg; have := X4; exact jA.mk (by omega) (by omega))
 refine ai (aV (ai (ag ?_)))
 obtain ⟨BP, Ti, hs⟩ := aQ hs
 obtain ⟨u138, PQ, h⟩ := h.q8 26 32 BP rfl rfl (by decide) (aJ Ti).2 rfl
 obtain ⟨b136, q137, i135⟩ := h.wo 25 rfl gK rfl (aJ Ti).1 (fA (aJ Ti).2 PQ)
 refine ae (i135 _ _ _ _ _ _ _ _ _ rfl rfl) ?_
 obtain ⟨cs140, m141, r142⟩ := h.yN 25 rfl q137 (fA (aJ Ti).2 PQ)
 obtain ⟨rfl, -⟩ := r142
 refine ae (oL (k := 0) m141 pE rfl rfl) (ae (aj (v := u138) rfl) (ah (aa (ag (ae (au (v := (.func (.func 50) #[] #[(.pointer (some ⟨Uw, 0, none⟩))])) rfl) (ae (au (v := u138) rfl) ?_))))))
 obtain ⟨l143a, l143b, l143c⟩ := h.wC 32 (C := (.own aM 51 u138 BP : Chunk)) rfl trivial
 obtain ⟨Tc, e145, hs⟩ := aQ hs
 refine bA RB rfl rfl (Lx _ _ l143c Uw PU u138 BP l143a l143b vJ (h.Ms 17 rfl) (fun hb => h.apart 32 17 (by decide) _ hb rfl) (h.qE 18 rfl) (fun hb => h.apart 32 18 (by decide) _ hb rfl) _ e145) ?_
 rintro _ w ⟨k146, rfl, h147, h148⟩
 refine ⟨_, rfl, ?_⟩
 replace h := h.back 32 (C := (.own aM 51 u138 BP : Chunk)) (C' := (.own aM 51 u138 Tc : Chunk)) rfl trivial h147 k146 h148
 refine ah (aA (aa (ag (ae (dw rfl rfl e132r) (ae (au (v := (.int .i64 ((i127 + 1)))) rfl) (ah ?_))))))
 replace h := h.qX 25 26 32 Tc rfl rfl rfl (by decide) (by decide) (by decide) (aJ Ti).2 PQ rfl
 refine az ?_
 subst X5
 exact jV ⟨LB + 1, i127 + 1, (Dk.set (i127).toNat Tc)⟩ ⟨h.cn _, by omega, hs⟩ (by have := of_decide_eq_true Tg; dsimp only; omega)
 rw [vP (by have := of_decide_eq_false Tg; omega)] at hs
 refine df (aN (aN (bE (aa (ai (ag (ae (au (v := v61) rfl) (ae (ak jZ rfl) (fq h 3 [u37, v61, (.int .i64 (tL.status)), (.int .i64 (tL.aW))] rfl pz rfl rfl rfl rfl (h.dD 25 rfl).one fun w h => ah (aa (ai (ag (ae (dS (vs := [u37, v61, (.int .i64 (tL.status)), (.int .i64 (tL.aW))]) h 3 rfl cu rfl rfl rfl) (dm (vs := [u37, v61, (.int .i64 (tL.status)), (.int .i64 (tL.aW))]) h 4 [u37, v61, (.int .i64 (tL.status)), (.int .i64 (tL.aW))] rfl cu rfl rfl rfl rfl rfl (ax (h.dD 13 rfl).one (ax (h.dD 25 rfl).one (ax rfl (ax rfl aZ)))) fun w h => ah (aa (aK (VY (vs := [u37, v61, (.int .i64 (tL.status)), (.int .i64 (tL.aW))]) Tryz.results20 rfl h 4 rfl cu rfl ?_)))))))))))))))))
 replace h := h.pair 13 14 (by decide)
 replace h := h.pair 13 25 (by decide)
 replace h := h.pair 13 26 (by decide)
 obtain rfl := Option.some.inj hs
 obtain ⟨o1, o2, o3⟩ := h.qH 13 (C := (.two (.two (.two (.own aB.raw 49 u37 (List.zip D5 GH)) (.bJ (aR aM 51 hn GH (List.map aB.sub D5)))) (.own (aT Val).raw 47 v61 (List.zip Dk Ej))) (.bJ (aR aM 51 hn Ej (List.map (aT Val).sub Dk))) : Chunk)) rfl ⟨⟨⟨trivial, trivial⟩, trivial⟩, trivial⟩
 exact ⟨o2, u37, v61, GH, Ej, rfl, o1, JN o3⟩
def pY (a : Ins) (y4 : List LX.Frame) (y7 : List (List Val)) (y8 : Int) (y9 : Int) : Option (Bool × LX.State) :=
  bif decide (((y7.length : Int) : Int) = 24) then some (false, (⟨y4, y7, y8, y9⟩ : LX.State)) else gz (jA ((y4.length : Int) - 1)) ((idx y4 ((y4.length : Int) - 1)).bind fun wE => (idx wE.regs a.a).bind fun x22 => gz (0 ≤ a.b ∧ a.b * 16 ≤ 140737488355328) (gz (Room 24 y7 [(List.replicate a.b.toNat (⟨0, 0⟩ : Val))]) (some (true, (⟨(y4.set (((y4.length : Int) - 1)).toNat ({ wE with regs := (wE.regs.set (a.a).toNat (⟨2, (y7.length : Int)⟩ : Val)) })), (y7 ++ [(List.replicate a.b.toNat (⟨0, 0⟩ : Val))]), y8, y9⟩ : LX.State)))))
def GI (N : Nat) (sx : LX.State) (a : Ins) : Option (Bool × LX.State) :=
  bif decide (((sx.cells.length : Int) : Int) = 24) then (Dl N sx).bind fun y39 => pY a y39.frames y39.cells y39.status y39.aW else pY a sx.frames sx.cells sx.status sx.aW
theorem GJ (N : Nat) (w0 : World) (M : BS) (hM : ∀ b, M b → b < w0.heap.size) (sb : Nat) (sx : LX.State) (eH vs1 : Value) (eZ eD : List Value) (hC : Chunk.holds w0 M (Chunk.own' (.two (.two (.two (.two (.blk sb [eH, vs1, (.int .i64 (sx.status)), (.int .i64 (sx.aW))]) (.own aB.raw 49 eH (List.zip sx.frames eZ))) (.bJ (aR aM 51 hn eZ (List.map aB.sub sx.frames)))) (.own (aT Val).raw 47 vs1 (List.zip sx.cells eD))) (.bJ (aR aM 51 hn eD (List.map (aT Val).sub sx.cells))) : Chunk)) (.two (.two (.two (.two (.blk sb [eH, vs1, (.int .i64 (sx.status)), (.int .i64 (sx.aW))]) (.own aB.raw 49 eH (List.zip sx.frames eZ))) (.bJ (aR aM 51 hn eZ (List.map aB.sub sx.frames)))) (.own (aT Val).raw 47 vs1 (List.zip sx.cells eD))) (.bJ (aR aM 51 hn eD (List.map (aT Val).sub sx.cells))) : Chunk)) (hap : ∀ b, Chunk.own' (.two (.two (.two (.two (.blk sb [eH, vs1, (.int .i64 (sx.status)), (.int .i64 (sx.aW))]) (.own aB.raw 49 eH (List.zip sx.frames eZ))) (.bJ (aR aM 51 hn eZ (List.map aB.sub sx.frames)))) (.own (aT Val).raw 47 vs1 (List.zip sx.cells eD))) (.bJ (aR aM 51 hn eD (List.map (aT Val).sub sx.cells))) : Chunk) b → ¬ M b) (a : Ins) (Cc : Value) (ZZ : fo fF w0 (fun b => M b ∨ (.two (.two (.two (.two (.blk sb [eH, vs1, (.int .i64 (sx.status)), (.int .i64 (sx.aW))]) (.own aB.raw 49 eH (List.zip sx.frames eZ))) (.bJ (aR aM 51 hn eZ (List.map aB.sub sx.frames)))) (.own (aT Val).raw 47 vs1 (List.zip sx.cells eD))) (.bJ (aR aM 51 hn eD (List.map (aT Val).sub sx.cells))) : Chunk).own' b) Cc a.args) (r : Bool × LX.State) (hs : GI N sx a = some r) :
    Calls Tryz.prog 89 #[(.pointer (some ⟨sb, 0, none⟩)), (.agg #[(.int .i64 (a.op)), (.int .i64 (a.a)), (.int .i64 (a.b)), (.int .i64 (a.c)), Cc])] w0 (fun e w' => aP (Chunk.own' (.two (.two (.two (.two (.blk sb [eH, vs1, (.int .i64 (sx.status)), (.int .i64 (sx.aW))]) (.own aB.raw 49 eH (List.zip sx.frames eZ))) (.bJ (aR aM 51 hn eZ (List.map aB.sub sx.frames)))) (.own (aT Val).raw 47 vs1 (List.zip sx.cells eD))) (.bJ (aR aM 51 hn eD (List.map (aT Val).sub sx.cells))) : Chunk)) w0 w' ∧ ∃ Be, ∃ Bf, ∃ Bg, ∃ Bh, e = .returned (.bool r.1) ∧ Chunk.holds w' M (Chunk.own' (.two (.two (.two (.two (.blk sb [Be, Bf, .int .i64 r.2.status, .int .i64 r.2.aW]) (.own aB.raw 49 Be (List.zip r.2.frames Bg))) (.bJ (aR aM 51 hn Bg (List.map aB.sub r.2.frames)))) (.own (aT Val).raw 47 Bf (List.zip r.2.cells Bh))) (.bJ (aR aM 51 hn Bh (List.map (aT Val).sub r.2.cells))) : Chunk)) (.two (.two (.two (.two (.blk sb [Be, Bf, .int .i64 r.2.status, .int .i64 r.2.aW]) (.own aB.raw 49 Be (List.zip r.2.frames Bg))) (.bJ (aR aM 51 hn Bg (List.map aB.sub r.2.frames)))) (.own (aT Val).raw 47 Bf (List.zip r.2.cells Bh))) (.bJ (aR aM 51 hn Bh (List.map (aT Val).sub r.2.cells))) : Chunk) ∧ (∀ b, Chunk.own' (.two (.two (.two (.two (.blk sb [Be, Bf, .int .i64 r.2.status, .int .i64 r.2.aW]) (.own aB.raw 49 Be (List.zip r.2.frames Bg))) (.bJ (aR aM 51 hn Bg (List.map aB.sub r.2.frames)))) (.own (aT Val).raw 47 Bf (List.zip r.2.cells Bh))) (.bJ (aR aM 51 hn Bh (List.map (aT Val).sub r.2.cells))) : Chunk) b → b < w0.heap.size → Chunk.own' (.two (.two (.two (.two (.blk sb [eH, vs1, (.int .i64 (sx.status)), (.int .i64 (sx.aW))]) (.own aB.raw 49 eH (List.zip sx.frames eZ))) (.bJ (aR aM 51 hn eZ (List.map aB.sub sx.frames)))) (.own (aT Val).raw 47 vs1 (List.zip sx.cells eD))) (.bJ (aR aM 51 hn eD (List.map (aT Val).sub sx.cells))) : Chunk) b)) := by
 refine aS (args := [(.pointer (some ⟨sb, 0, none⟩)), (.agg #[(.int .i64 (a.op)), (.int .i64 (a.a)), (.int .i64 (a.b)), (.int .i64 (a.c)), Cc])]) Tryz.func89 rfl Tryz.ntmps89 (Nat.le_of_ble_eq_true rfl) ?_
 have h := SH.E5 hM hC hap
 replace h := h.BL 6 ZZ zG
 generalize zJ : (.two (.two (.two (.two (.blk sb [eH, vs1, (.int .i64 (sx.status)), (.int .i64 (sx.aW))]) (.own aB.raw 49 eH (List.zip sx.frames eZ))) (.bJ (aR aM 51 hn eZ (List.map aB.sub sx.frames)))) (.own (aT Val).raw 47 vs1 (List.zip sx.cells eD))) (.bJ (aR aM 51 hn eD (List.map (aT Val).sub sx.cells))) : Chunk).own' = K0 at h
 replace h := h.bU 1 5 (by decide) rfl rfl
 replace h := h.bU 1 4 (by decide) rfl rfl
 replace h := h.bU 1 3 (by decide) rfl rfl
 replace h := h.bU 1 2 (by decide) rfl rfl
 refine ai (ag (rF (cs := [(.int .i64 (a.op)), (.int .i64 (a.a)), (.int .i64 (a.b)), (.int .i64 (a.c)), Cc]) h 7 rfl rfl fun w b1 h => ae (aj (v := (.bool (false))) rfl) (ah (aa (bV (σ := Value × List Value × List LX.Frame × Value × List Value × List (List Val) × Int × Int) (inl [5, 6, 7, 8, 9, 10, 11, 12, 13, 14, 15, 16]) (fun ⟨v2, Mq, y4, v5, IY, y7, y8, y9⟩ => []) (fun ⟨v2, Mq, y4, v5, IY, y7, y8, y9⟩ w => SH w0 M K0 w (hset [(1, .blk sb [v2, v5, (.int .i64 (y8)), (.int .i64 (y9))]), (6, .rd fF Cc a.args), (7, .blk b1 [(.int .i64 (a.op)), (.int .i64 (a.a)), (.int .i64 (a.b)), (.int .i64 (a.c)), Cc]), (8, .own aB.raw 49 v2 (List.zip y4 Mq)), (9, .bJ (aR aM 51 hn Mq (List.map aB.sub y4))), (10, .own (aT Val).raw 47 v5 (List.zip y7 IY)), (11, .bJ (aR aM 51 hn IY (List.map (aT Val).sub y7)))]) ∧ pY a y4 y7 y8 y9 = some r) ?_ ?_)))))
 rintro ⟨v2, Mq, y4, v5, IY, y7, y8, y9⟩ w dz ⟨h, hs⟩
 refine ai (ai (ag (ae (au (v := (.pointer (some ⟨sb, 0, none⟩))) rfl) (ae (bO rfl) (ae (ak jZ rfl) (ae (aF h 1 rfl pz rfl rfl) (ae (qG (N := (aT Val)) gK rfl (h.dM 10 rfl) (h.iB 11 rfl)) (ae (bI rfl rfl) (ah (aa (aI hs rfl (fun c10 hs => ?_) (fun c10 hs => ?_))))))))))))
 refine ai (ag (ae (aj (v := (.bool (false))) rfl) (ah (aa (aK (aC (cK (v := (.bool (false))) Tryz.results89 rfl ?_)))))))
 replace h := h.pair 1 8 (by decide)
 replace h := h.pair 1 9 (by decide)
 replace h := h.pair 1 10 (by decide)
 replace h := h.pair 1 11 (by decide)
 obtain rfl := Option.some.inj hs
 subst zJ
 obtain ⟨o1, o2, o3⟩ := h.qH 1 (C := (.two (.two (.two (.two (.blk sb [v2, v5, (.int .i64 (y8)), (.int .i64 (y9))]) (.own aB.raw 49 v2 (List.zip y4 Mq))) (.bJ (aR aM 51 hn Mq (List.map aB.sub y4)))) (.own (aT Val).raw 47 v5 (List.zip y7 IY))) (.bJ (aR aM 51 hn IY (List.map (aT Val).sub y7))) : Chunk)) rfl ⟨⟨⟨⟨trivial, trivial⟩, trivial⟩, trivial⟩, trivial⟩
 exact ⟨o2, v2, v5, Mq, IY, rfl, o1, o3⟩
 refine aG (aa (ai (qj 22 mixed (by kernel_rfl) h fun w h => aO (au (v := (.pointer (some ⟨sb, 0, none⟩))) rfl) (aO (bO rfl) (aO (ak eU rfl) (aO (aF h 1 rfl ji rfl rfl) (aO (au (v := (.pointer (some ⟨sb, 0, none⟩))) rfl) (aO (bO rfl) (aO (ak eU rfl) (aO (aF h 1 rfl ji rfl rfl) (aO (qG (N := aB) dQ rfl (h.dM 8 rfl) (h.iB 9 rfl)) ?_)))))))))))
 obtain ⟨a11, hs⟩ := bG hs
 refine aO (oh rfl rfl a11) ?_
 obtain ⟨wE, e13, hs⟩ := aQ hs
 obtain ⟨C9, e18, h⟩ := h.q8 9 12 wE.regs rfl rfl (by decide) (aJ e13).2 rfl
 obtain ⟨b15, q16, i14⟩ := h.wo 8 rfl dQ rfl (aJ e13).1 (fA (aJ e13).2 e18)
 refine aO (i14 _ _ _ _ _ _ _ _ _ rfl rfl) (aO (ak oO rfl) ?_)
 obtain ⟨Xw, m20, r21⟩ := h.yN 8 rfl q16 (fA (aJ e13).2 e18)
 obtain ⟨rfl, -⟩ := r21
 refine aO (oL (k := 2) m20 pE rfl rfl) (aO (ak j3 rfl) (aO (aF h 7 rfl bz rfl rfl) (aO (au (v := (.pointer (some ⟨sb, 0, none⟩))) rfl) (aO (bO rfl) (aO (ak jZ rfl) (aO (aF h 1 rfl pz rfl rfl) (aO (qG (N := (aT Val)) gK rfl (h.dM 10 rfl) (h.iB 11 rfl)) (aO (dC (pv := [(0, (.int .i64 (2))), (1, (.int .i64 ((y7.length : Int))))]) (out := [(.int .i64 (2)), (.int .i64 ((y7.length : Int)))]) uD rfl ⟨0, 1, [(.int .i64 (2))], rfl, rfl, rfl, Nat.le_of_ble_eq_true rfl, ⟨1, 1, [(.int .i64 ((y7.length : Int)))], rfl, rfl, rfl, Nat.le_of_ble_eq_true rfl, rfl⟩⟩) ?_))))))))
 obtain ⟨x22, e23, hs⟩ := aQ hs
 obtain ⟨b25, q26, i24⟩ := h.wo 12 rfl bX rfl (aJ e23).1 (aJ e23).2
 refine aO (i24 _ _ _ _ _ _ _ _ _ rfl rfl) (xP (xw (a' := (⟨2, (y7.length : Int)⟩ : Val)) (vs := [(.int .i64 (2)), (.int .i64 ((y7.length : Int)))]) h 12 rfl q26 rfl (aJ e23).2 bS rfl rfl rfl rfl rfl fun w h k27 => ah (aa (ai (lY (L := (fun b => ob v5 b ∨ b = sb)) mixed h fun w h => bg 0 (aP.refl _ _) rfl ay (by kernel_rfl) (by kernel_rfl) (by kernel_rfl) (fun w hk => au (v := (.pointer (some ⟨sb, 0, none⟩))) rfl) (bg 1 (aP.refl _ _) rfl ay (by kernel_rfl) (by kernel_rfl) (by kernel_rfl) (fun w hk => au (v := (.pointer (some ⟨sb, 0, none⟩))) rfl) (bg 2 (aP.refl _ _) rfl ay (by kernel_rfl) (by kernel_rfl) (by kernel_rfl) (fun w hk => bO rfl) (bg 3 (aP.refl _ _) rfl ay (by kernel_rfl) (by kernel_rfl) (by kernel_rfl) (fun w hk => ak jZ rfl) (bg 5 (aP.refl _ _) rfl ay (by kernel_rfl) (by kernel_rfl) (by kernel_rfl) (fun w hk => ak iG rfl) (bg 6 (aP.refl _ _) rfl ay (by kernel_rfl) (by kernel_rfl) (by kernel_rfl) (fun w hk => have h := h.DR 10 1 (by decide) rfl rfl hk; aF h 7 rfl bz rfl rfl) ?_))))))))))
 obtain ⟨LC, hs⟩ := bG hs
 obtain ⟨yB, hs⟩ := bG hs
 obtain ⟨Ko, Wm⟩ : ∃ x, x = w := ⟨_, rfl⟩
 have jD : aP (fun b => ob v5 b ∨ b = sb) Ko w := Wm ▸ aP.refl (fun b => ob v5 b ∨ b = sb) w
 refine sj Wm.symm (om 4 7 (by kernel_rfl) rfl ay rfl ay ?_ ?_)
 refine ae (aF h 1 rfl pz rfl rfl) (ah (aX jD (bN 7 (by kernel_rfl) rfl ay (xR (R := aM) (zs := [(.int .i64 (0)), (.int .i64 (0))]) (a := (⟨0, 0⟩ : Val)) h 97 uz bS rfl (by decide) rfl rfl LC rfl (fun _ _ => rfl) fun w jq h El Em => ?_))))
 have PW : ∀ b, ob jq b → Ko.heap.size ≤ b := fun b hb => Nat.le_trans jD.size (Em b hb)
 replace jD := jD.grow El
 refine ah (aX jD (bN 8 (by kernel_rfl) rfl ay ?_))
 have rP : (Value.oneCell' jq) = true := (h.dD 97 rfl).one
 refine zB (R := (aT Val).raw) (vs := [jq]) (xs := List.zip [(List.replicate a.b.toNat (⟨0, 0⟩ : Val))] [jq]) h 109 qO rfl rfl rfl ⟨⟨iT rP, rP⟩, trivial⟩ rfl fun w Ar h yC yD => ?_
 have I4 : ∀ b, ob Ar b → Ko.heap.size ≤ b := fun b hb => Nat.le_trans jD.size (yD b hb)
 replace jD := jD.grow yC
 replace h := h.wY (N := (aT Val)) 97 (List.replicate a.b.toNat (⟨0, 0⟩ : Val)) rfl rfl
 refine ah (aX jD (bN 9 (by kernel_rfl) rfl ay ?_))
 have p8 := h.iB 11 rfl
 have rQ := h.iB 97 rfl
 have I5 := jD.size
 refine oN (R := (aT Val).raw) (m := List.zip [(List.replicate a.b.toNat (⟨0, 0⟩ : Val))] [jq]) h 10 rfl (h.dM 109 rfl) qO rfl rfl rfl (by rw [dP p8, dP rQ]; exact yB.1) (by rw [dP p8, dP rQ]; exact yB.2) fun w jE h yE yF => ?_
 have I6 : ∀ b, ob jE b → b < Ko.heap.size → ob v5 b := fun b hb hl => yF b hb (Nat.lt_of_lt_of_le hl (jD).size)
 replace jD := aP.step jD yE (fun _ hx _ => .inl (hx))
 replace h := (h.wW 11 97 rfl rfl (by decide)).fu 109
 rw [wX p8, ← List.map_append] at h
 obtain ⟨mU, wJ⟩ : ∃ z, z = IY ++ [jq] := ⟨_, rfl⟩
 rw [← wJ] at h
 refine ah (aX jD (bg 10 jD rfl ay (by kernel_rfl) (by kernel_rfl) (by kernel_rfl) (fun w hk => bO rfl) (bg 11 jD rfl ay (by kernel_rfl) (by kernel_rfl) (by kernel_rfl) (fun w hk => ak jZ rfl) (bN 12 (by kernel_rfl) rfl ay (ry h 1 [v2, jE, (.int .i64 (y8)), (.int .i64 (y9))] rfl pz rfl rfl rfl rfl (h.dD 10 rfl).one fun w h yG => ?_)))))
 replace jD := aP.step jD yG (fun _ hx _ => .inr (hx))
 refine ah (aX jD (fU (by kernel_rfl) (aa (ai (ag (ae (aj (v := (.bool (true))) rfl) (ah (aa (aK (cK (v := (.bool (true))) Tryz.results89 rfl ?_))))))))))
 replace h := h.qX 8 9 12 ({ wE with regs := (wE.regs.set (a.a).toNat (⟨2, (y7.length : Int)⟩ : Val)) }) rfl rfl rfl (by decide) (by decide) (by decide) (aJ e13).2 e18 rfl
 replace h := h.pair 1 8 (by decide)
 replace h := h.pair 1 9 (by decide)
 replace h := h.pair 1 10 (by decide)
 replace h := h.pair 1 11 (by decide)
 obtain rfl := Option.some.inj hs
 subst zJ
 obtain ⟨o1, o2, o3⟩ := h.qH 1 (C := (.two (.two (.two (.two (.blk sb [v2, jE, (.int .i64 (y8)), (.int .i64 (y9))]) (.own aB.raw 49 v2 (List.zip (y4.set (((y4.length : Int) - 1)).toNat ({ wE with regs := (wE.regs.set (a.a).toNat (⟨2, (y7.length : Int)⟩ : Val)) })) Mq))) (.bJ (aR aM 51 hn Mq (List.map aB.sub (y4.set (((y4.length : Int) - 1)).toNat ({ wE with regs := (wE.regs.set (a.a).toNat (⟨2, (y7.length : Int)⟩ : Val)) })))))) (.own (aT Val).raw 47 jE (List.zip (y7 ++ [(List.replicate a.b.toNat (⟨0, 0⟩ : Val))]) mU))) (.bJ (aR aM 51 hn mU (List.map (aT Val).sub (y7 ++ [(List.replicate a.b.toNat (⟨0, 0⟩ : Val))])))) : Chunk)) rfl ⟨⟨⟨⟨trivial, trivial⟩, trivial⟩, trivial⟩, trivial⟩
 exact ⟨o2, v2, jE, Mq, mU, rfl, o1, o3⟩
 refine xR (R := aM) (zs := [(.int .i64 (0)), (.int .i64 (0))]) (a := (⟨0, 0⟩ : Val)) h 97 uz bS rfl (by decide) rfl rfl LC rfl (fun _ _ => rfl) fun w jq h El Em => ?_
 have PW : ∀ b, ob jq b → Ko.heap.size ≤ b := fun b hb => Nat.le_trans jD.size (Em b hb)
 replace jD := jD.grow El
 refine ah (aX jD (om 4 8 (by kernel_rfl) rfl ay rfl ay ?_ ?_))
 refine ae (aF h 1 rfl pz rfl rfl) (ah (aX jD (bN 8 (by kernel_rfl) rfl ay ?_)))
 have rP : (Value.oneCell' jq) = true := (h.dD 97 rfl).one
 refine zB (R := (aT Val).raw) (vs := [jq]) (xs := List.zip [(List.replicate a.b.toNat (⟨0, 0⟩ : Val))] [jq]) h 109 qO rfl rfl rfl ⟨⟨iT rP, rP⟩, trivial⟩ rfl fun w Ar h yC yD => ?_
 have I4 : ∀ b, ob Ar b → Ko.heap.size ≤ b := fun b hb => Nat.le_trans jD.size (yD b hb)
 replace jD := jD.grow yC
 replace h := h.wY (N := (aT Val)) 97 (List.replicate a.b.toNat (⟨0, 0⟩ : Val)) rfl rfl
 refine ah (aX jD (bN 9 (by kernel_rfl) rfl ay ?_))
 have p8 := h.iB 11 rfl
 have rQ := h.iB 97 rfl
 have I5 := jD.size
 refine oN (R := (aT Val).raw) (m := List.zip [(List.replicate a.b.toNat (⟨0, 0⟩ : Val))] [jq]) h 10 rfl (h.dM 109 rfl) qO rfl rfl rfl (by rw [dP p8, dP rQ]; exact yB.1) (by rw [dP p8, dP rQ]; exact yB.2) fun w jE h yE yF => ?_
 have I6 : ∀ b, ob jE b → b < Ko.heap.size → ob v5 b := fun b hb hl => yF b hb (Nat.lt_of_lt_of_le hl (jD).size)
 replace jD := aP.step jD yE (fun _ hx _ => .inl (hx))
 replace h := (h.wW 11 97 rfl rfl (by decide)).fu 109
 rw [wX p8, ← List.map_append] at h
 obtain ⟨mU, wJ⟩ : ∃ z, z = IY ++ [jq] := ⟨_, rfl⟩
 rw [← wJ] at h
 refine ah (aX jD (bg 10 jD rfl ay (by kernel_rfl) (by kernel_rfl) (by kernel_rfl) (fun w hk => bO rfl) (bg 11 jD rfl ay (by kernel_rfl) (by kernel_rfl) (by kernel_rfl) (fun w hk => ak jZ rfl) (bN 12 (by kernel_rfl) rfl ay (ry h 1 [v2, jE, (.int .i64 (y8)), (.int .i64 (y9))] rfl pz rfl rfl rfl rfl (h.dD 10 rfl).one fun w h yG => ?_)))))
 replace jD := aP.step jD yG (fun _ hx _ => .inr (hx))
 refine ah (aX jD (fU (by kernel_rfl) (aa (ai (ag (ae (aj (v := (.bool (true))) rfl) (ah (aa (aK (cK (v := (.bool (true))) Tryz.results89 rfl ?_))))))))))
 replace h := h.qX 8 9 12 ({ wE with regs := (wE.regs.set (a.a).toNat (⟨2, (y7.length : Int)⟩ : Val)) }) rfl rfl rfl (by decide) (by decide) (by decide) (aJ e13).2 e18 rfl
 replace h := h.pair 1 8 (by decide)
 replace h := h.pair 1 9 (by decide)
 replace h := h.pair 1 10 (by decide)
 replace h := h.pair 1 11 (by decide)
 obtain rfl := Option.some.inj hs
 subst zJ
 obtain ⟨o1, o2, o3⟩ := h.qH 1 (C := (.two (.two (.two (.two (.blk sb [v2, jE, (.int .i64 (y8)), (.int .i64 (y9))]) (.own aB.raw 49 v2 (List.zip (y4.set (((y4.length : Int) - 1)).toNat ({ wE with regs := (wE.regs.set (a.a).toNat (⟨2, (y7.length : Int)⟩ : Val)) })) Mq))) (.bJ (aR aM 51 hn Mq (List.map aB.sub (y4.set (((y4.length : Int) - 1)).toNat ({ wE with regs := (wE.regs.set (a.a).toNat (⟨2, (y7.length : Int)⟩ : Val)) })))))) (.own (aT Val).raw 47 jE (List.zip (y7 ++ [(List.replicate a.b.toNat (⟨0, 0⟩ : Val))]) mU))) (.bJ (aR aM 51 hn mU (List.map (aT Val).sub (y7 ++ [(List.replicate a.b.toNat (⟨0, 0⟩ : Val))])))) : Chunk)) rfl ⟨⟨⟨⟨trivial, trivial⟩, trivial⟩, trivial⟩, trivial⟩
 exact ⟨o2, v2, jE, Mq, mU, rfl, o1, o3⟩
 have rP : (Value.oneCell' jq) = true := (h.dD 97 rfl).one
 refine zB (R := (aT Val).raw) (vs := [jq]) (xs := List.zip [(List.replicate a.b.toNat (⟨0, 0⟩ : Val))] [jq]) h 109 qO rfl rfl rfl ⟨⟨iT rP, rP⟩, trivial⟩ rfl fun w Ar h yC yD => ?_
 have I4 : ∀ b, ob Ar b → Ko.heap.size ≤ b := fun b hb => Nat.le_trans jD.size (yD b hb)
 replace jD := jD.grow yC
 replace h := h.wY (N := (aT Val)) 97 (List.replicate a.b.toNat (⟨0, 0⟩ : Val)) rfl rfl
 refine ah (aX jD (bN 4 (by kernel_rfl) rfl ay (ae (aF h 1 rfl pz rfl rfl) (ah (aX jD (bN 9 (by kernel_rfl) rfl ay ?_))))))
 have p8 := h.iB 11 rfl
 have rQ := h.iB 97 rfl
 have I5 := jD.size
 refine oN (R := (aT Val).raw) (m := List.zip [(List.replicate a.b.toNat (⟨0, 0⟩ : Val))] [jq]) h 10 rfl (h.dM 109 rfl) qO rfl rfl rfl (by rw [dP p8, dP rQ]; exact yB.1) (by rw [dP p8, dP rQ]; exact yB.2) fun w jE h yE yF => ?_
 have I6 : ∀ b, ob jE b → b < Ko.heap.size → ob v5 b := fun b hb hl => yF b hb (Nat.lt_of_lt_of_le hl (jD).size)
 replace jD := aP.step jD yE (fun _ hx _ => .inl (hx))
 replace h := (h.wW 11 97 rfl rfl (by decide)).fu 109
 rw [wX p8, ← List.map_append] at h
 obtain ⟨mU, wJ⟩ : ∃ z, z = IY ++ [jq] := ⟨_, rfl⟩
 rw [← wJ] at h
 refine ah (aX jD (bg 10 jD rfl ay (by kernel_rfl) (by kernel_rfl) (by kernel_rfl) (fun w hk => bO rfl) (bg 11 jD rfl ay (by kernel_rfl) (by kernel_rfl) (by kernel_rfl) (fun w hk => ak jZ rfl) (bN 12 (by kernel_rfl) rfl ay (ry h 1 [v2, jE, (.int .i64 (y8)), (.int .i64 (y9))] rfl pz rfl rfl rfl rfl (h.dD 10 rfl).one fun w h yG => ?_)))))
 replace jD := aP.step jD yG (fun _ hx _ => .inr (hx))
 refine ah (aX jD (fU (by kernel_rfl) (aa (ai (ag (ae (aj (v := (.bool (true))) rfl) (ah (aa (aK (cK (v := (.bool (true))) Tryz.results89 rfl ?_))))))))))
 replace h := h.qX 8 9 12 ({ wE with regs := (wE.regs.set (a.a).toNat (⟨2, (y7.length : Int)⟩ : Val)) }) rfl rfl rfl (by decide) (by decide) (by decide) (aJ e13).2 e18 rfl
 replace h := h.pair 1 8 (by decide)
 replace h := h.pair 1 9 (by decide)
 replace h := h.pair 1 10 (by decide)
 replace h := h.pair 1 11 (by decide)
 obtain rfl := Option.some.inj hs
 subst zJ
 obtain ⟨o1, o2, o3⟩ := h.qH 1 (C := (.two (.two (.two (.two (.blk sb [v2, jE, (.int .i64 (y8)), (.int .i64 (y9))]) (.own aB.raw 49 v2 (List.zip (y4.set (((y4.length : Int) - 1)).toNat ({ wE with regs := (wE.regs.set (a.a).toNat (⟨2, (y7.length : Int)⟩ : Val)) })) Mq))) (.bJ (aR aM 51 hn Mq (List.map aB.sub (y4.set (((y4.length : Int) - 1)).toNat ({ wE with regs := (wE.regs.set (a.a).toNat (⟨2, (y7.length : Int)⟩ : Val)) })))))) (.own (aT Val).raw 47 jE (List.zip (y7 ++ [(List.replicate a.b.toNat (⟨0, 0⟩ : Val))]) mU))) (.bJ (aR aM 51 hn mU (List.map (aT Val).sub (y7 ++ [(List.replicate a.b.toNat (⟨0, 0⟩ : Val))])))) : Chunk)) rfl ⟨⟨⟨⟨trivial, trivial⟩, trivial⟩, trivial⟩, trivial⟩
 exact ⟨o2, v2, jE, Mq, mU, rfl, o1, o3⟩
 refine ai (ag (ae (au (v := (.pointer (some ⟨sb, 0, none⟩))) rfl) (ae (bO rfl) (ae (ak jZ rfl) (ae (aF h 1 rfl pz rfl rfl) (ae (qG (N := (aT Val)) gK rfl (h.dM 4 rfl) (h.iB 5 rfl)) (ae (bI rfl rfl) (ah (aa (aI hs rfl (fun c38 hs => ?_) (fun c38 hs => ?_)))))))))))
 refine ag (ae (au (v := (.pointer (some ⟨sb, 0, none⟩))) rfl) (ae (au (v := (.pointer (some ⟨sb, 0, none⟩))) rfl) (ae (bO rfl) (ae (dS (vs := [eH, vs1, (.int .i64 (sx.status)), (.int .i64 (sx.aW))]) h 1 rfl cu rfl rfl rfl) ?_))))
 obtain ⟨y39, e40, hs⟩ := aQ hs
 refine bA Xd rfl rfl (Nn N _ BE (fun _ h => h.elim) sx eH vs1 (h.JO (N := aB) (R' := iD) 2 3 rfl rfl (by decide) rfl AX) (h.JO (N := (aT Val)) (R' := (uY aM)) 4 5 rfl rfl (by decide) rfl FI) _ e40) ?_
 rintro _ w ⟨k47, XL, Ux, SK, X6, rfl, h45, h46⟩
 refine ⟨_, rfl, ?_⟩
 replace h := h.V3 181 (C := (.two (.two (.two (.own aB.raw 49 XL (List.zip y39.frames SK)) (.bJ (aR aM 51 hn SK (List.map aB.sub y39.frames)))) (.own (aT Val).raw 47 Ux (List.zip y39.cells X6))) (.bJ (aR aM 51 hn X6 (List.map (aT Val).sub y39.cells))) : Chunk)) k47 ⟨⟨⟨trivial, trivial⟩, trivial⟩, trivial⟩ ⟨⟨⟨(fun _ _ _ _ _ h => h), (AZ (fun _ _ _ _ _ h => h))⟩, (fun _ _ _ _ _ h => h)⟩, (AZ (fun _ _ _ _ _ h => h))⟩ h45 h46
 replace h := h.bU 181 184 (by decide) rfl rfl
 replace h := h.bU 181 183 (by decide) rfl rfl
 replace h := h.bU 181 182 (by decide) rfl rfl
 refine ae (bO rfl) (dm (vs := [XL, Ux, (.int .i64 (y39.status)), (.int .i64 (y39.aW))]) h 1 [XL, Ux, (.int .i64 (y39.status)), (.int .i64 (y39.aW))] rfl cu rfl rfl rfl rfl rfl (ax (h.dD 181 rfl).one (ax (h.dD 183 rfl).one (ax rfl (ax rfl aZ)))) fun w h => ah (az ?_))
 replace h := (h.fu 8).moveC 181 8 rfl rfl (by decide)
 replace h := (h.fu 9).moveC 182 9 rfl rfl (by decide)
 replace h := (h.fu 10).moveC 183 10 rfl rfl (by decide)
 replace h := (h.fu 11).moveC 184 11 rfl rfl (by decide)
 exact bQ (XL, SK, y39.frames, Ux, X6, y39.cells, y39.status, y39.aW) ⟨h.cn _, hs⟩
 refine aG (az ?_)
 replace h := (h.fu 8).moveC 2 8 rfl rfl (by decide)
 replace h := (h.fu 9).moveC 3 9 rfl rfl (by decide)
 replace h := (h.fu 10).moveC 4 10 rfl rfl (by decide)
 replace h := (h.fu 11).moveC 5 11 rfl rfl (by decide)
 exact bQ (eH, eZ, sx.frames, vs1, eD, sx.cells, sx.status, sx.aW) ⟨h.cn _, hs⟩
def tY (sx : LX.State) (i11 : Int) (wE : Int) (y9 : List Val) (nx14 : List Val → Option (Bool × LX.State)) : Option (Bool × LX.State) :=
  gz (jA ((sx.frames.length : Int) - 1)) ((idx sx.frames ((sx.frames.length : Int) - 1)).bind fun xg => (idx xg.regs wE).bind fun yg => (idx y9 i11).bind fun x41 => nx14 (y9.set (i11).toNat yg))
def tZ (sx : LX.State) (b : Ins) (a : List bP) (y9 : List Val) : Option (Bool × LX.State) :=
  gz (Room 48 sx.frames [(⟨b.b, 0, y9, b.a⟩ : LX.Frame)]) (some (true, (⟨(sx.frames ++ [(⟨b.b, 0, y9, b.a⟩ : LX.Frame)]), sx.cells, sx.status, sx.aW⟩ : LX.State)))
def GK (sx : LX.State) (i62 : Int) (pO : Int) (tK : List Val) (J6 : List Val → Option (Bool × LX.State)) : Option (Bool × LX.State) :=
  gz (jA ((sx.frames.length : Int) - 1)) ((idx sx.frames ((sx.frames.length : Int) - 1)).bind fun x74 => (idx x74.regs pO).bind fun x84 => (idx tK i62).bind fun x92 => J6 (tK.set (i62).toNat x84))
def GL (sx : LX.State) (b : Ins) (a : List bP) (tK : List Val) : Option (Bool × LX.State) :=
  gz (Room 48 sx.frames [(⟨b.b, 0, tK, b.a⟩ : LX.Frame)]) (some (true, (⟨(sx.frames ++ [(⟨b.b, 0, tK, b.a⟩ : LX.Frame)]), sx.cells, sx.status, sx.aW⟩ : LX.State)))
def Kq (sx : LX.State) (a : List bP) (b : Ins) : Option (Bool × LX.State) :=
  bif decide (((sx.frames.length : Int) : Int) = 10) then some (false, sx) else (idx a b.b).bind fun Bl => gz (0 ≤ Bl.regs ∧ Bl.regs * 16 ≤ 140737488355328) (fT (tY sx) (tZ sx b a) 0 b.args (List.replicate Bl.regs.toNat (⟨0, 0⟩ : Val)))
theorem I7 (w0 : World) (M : BS) (hM : ∀ b, M b → b < w0.heap.size) (sb : Nat) (sx : LX.State) (eH vs1 : Value) (eZ eD : List Value) (hC : Chunk.holds w0 M (Chunk.own' (.two (.two (.two (.two (.blk sb [eH, vs1, (.int .i64 (sx.status)), (.int .i64 (sx.aW))]) (.own aB.raw 49 eH (List.zip sx.frames eZ))) (.bJ (aR aM 51 hn eZ (List.map aB.sub sx.frames)))) (.own (aT Val).raw 47 vs1 (List.zip sx.cells eD))) (.bJ (aR aM 51 hn eD (List.map (aT Val).sub sx.cells))) : Chunk)) (.two (.two (.two (.two (.blk sb [eH, vs1, (.int .i64 (sx.status)), (.int .i64 (sx.aW))]) (.own aB.raw 49 eH (List.zip sx.frames eZ))) (.bJ (aR aM 51 hn eZ (List.map aB.sub sx.frames)))) (.own (aT Val).raw 47 vs1 (List.zip sx.cells eD))) (.bJ (aR aM 51 hn eD (List.map (aT Val).sub sx.cells))) : Chunk)) (hap : ∀ b, Chunk.own' (.two (.two (.two (.two (.blk sb [eH, vs1, (.int .i64 (sx.status)), (.int .i64 (sx.aW))]) (.own aB.raw 49 eH (List.zip sx.frames eZ))) (.bJ (aR aM 51 hn eZ (List.map aB.sub sx.frames)))) (.own (aT Val).raw 47 vs1 (List.zip sx.cells eD))) (.bJ (aR aM 51 hn eD (List.map (aT Val).sub sx.cells))) : Chunk) b → ¬ M b) (va : Value) (a : List bP) (ha : fo jI w0 (fun b => M b ∨ (.two (.two (.two (.two (.blk sb [eH, vs1, (.int .i64 (sx.status)), (.int .i64 (sx.aW))]) (.own aB.raw 49 eH (List.zip sx.frames eZ))) (.bJ (aR aM 51 hn eZ (List.map aB.sub sx.frames)))) (.own (aT Val).raw 47 vs1 (List.zip sx.cells eD))) (.bJ (aR aM 51 hn eD (List.map (aT Val).sub sx.cells))) : Chunk).own' b) va a) (b : Ins) (YI : Value) (hb4 : fo fF w0 (fun b => M b ∨ (.two (.two (.two (.two (.blk sb [eH, vs1, (.int .i64 (sx.status)), (.int .i64 (sx.aW))]) (.own aB.raw 49 eH (List.zip sx.frames eZ))) (.bJ (aR aM 51 hn eZ (List.map aB.sub sx.frames)))) (.own (aT Val).raw 47 vs1 (List.zip sx.cells eD))) (.bJ (aR aM 51 hn eD (List.map (aT Val).sub sx.cells))) : Chunk).own' b) YI b.args) (r : Bool × LX.State) (hs : Kq sx a b = some r) :
    Calls Tryz.prog 90 #[va, (.pointer (some ⟨sb, 0, none⟩)), (.agg #[(.int .i64 (b.op)), (.int .i64 (b.a)), (.int .i64 (b.b)), (.int .i64 (b.c)), YI])] w0 (fun e w' => aP (Chunk.own' (.two (.two (.two (.two (.blk sb [eH, vs1, (.int .i64 (sx.status)), (.int .i64 (sx.aW))]) (.own aB.raw 49 eH (List.zip sx.frames eZ))) (.bJ (aR aM 51 hn eZ (List.map aB.sub sx.frames)))) (.own (aT Val).raw 47 vs1 (List.zip sx.cells eD))) (.bJ (aR aM 51 hn eD (List.map (aT Val).sub sx.cells))) : Chunk)) w0 w' ∧ ∃ Be, ∃ Bf, ∃ Bg, ∃ Bh, e = .returned (.bool r.1) ∧ Chunk.holds w' M (Chunk.own' (.two (.two (.two (.two (.blk sb [Be, Bf, .int .i64 r.2.status, .int .i64 r.2.aW]) (.own aB.raw 49 Be (List.zip r.2.frames Bg))) (.bJ (aR aM 51 hn Bg (List.map aB.sub r.2.frames)))) (.own (aT Val).raw 47 Bf (List.zip r.2.cells Bh))) (.bJ (aR aM 51 hn Bh (List.map (aT Val).sub r.2.cells))) : Chunk)) (.two (.two (.two (.two (.blk sb [Be, Bf, .int .i64 r.2.status, .int .i64 r.2.aW]) (.own aB.raw 49 Be (List.zip r.2.frames Bg))) (.bJ (aR aM 51 hn Bg (List.map aB.sub r.2.frames)))) (.own (aT Val).raw 47 Bf (List.zip r.2.cells Bh))) (.bJ (aR aM 51 hn Bh (List.map (aT Val).sub r.2.cells))) : Chunk) ∧ (∀ b, Chunk.own' (.two (.two (.two (.two (.blk sb [Be, Bf, .int .i64 r.2.status, .int .i64 r.2.aW]) (.own aB.raw 49 Be (List.zip r.2.frames Bg))) (.bJ (aR aM 51 hn Bg (List.map aB.sub r.2.frames)))) (.own (aT Val).raw 47 Bf (List.zip r.2.cells Bh))) (.bJ (aR aM 51 hn Bh (List.map (aT Val).sub r.2.cells))) : Chunk) b → b < w0.heap.size → Chunk.own' (.two (.two (.two (.two (.blk sb [eH, vs1, (.int .i64 (sx.status)), (.int .i64 (sx.aW))]) (.own aB.raw 49 eH (List.zip sx.frames eZ))) (.bJ (aR aM 51 hn eZ (List.map aB.sub sx.frames)))) (.own (aT Val).raw 47 vs1 (List.zip sx.cells eD))) (.bJ (aR aM 51 hn eD (List.map (aT Val).sub sx.cells))) : Chunk) b)) := by
 refine aS (args := [va, (.pointer (some ⟨sb, 0, none⟩)), (.agg #[(.int .i64 (b.op)), (.int .i64 (b.a)), (.int .i64 (b.b)), (.int .i64 (b.c)), YI])]) Tryz.func90 rfl Tryz.ntmps90 (Nat.le_of_ble_eq_true rfl) ?_
 have h := SH.E5 hM hC hap
 replace h := h.BL 6 ha zG
 replace h := h.BL 7 hb4 (su zG)
 generalize zJ : (.two (.two (.two (.two (.blk sb [eH, vs1, (.int .i64 (sx.status)), (.int .i64 (sx.aW))]) (.own aB.raw 49 eH (List.zip sx.frames eZ))) (.bJ (aR aM 51 hn eZ (List.map aB.sub sx.frames)))) (.own (aT Val).raw 47 vs1 (List.zip sx.cells eD))) (.bJ (aR aM 51 hn eD (List.map (aT Val).sub sx.cells))) : Chunk).own' = K0 at h
 replace h := h.bU 1 5 (by decide) rfl rfl
 replace h := h.bU 1 4 (by decide) rfl rfl
 replace h := h.bU 1 3 (by decide) rfl rfl
 replace h := h.bU 1 2 (by decide) rfl rfl
 have u7 := ha.cO
 refine ai (ag (rF (cs := [(.int .i64 (b.op)), (.int .i64 (b.a)), (.int .i64 (b.b)), (.int .i64 (b.c)), YI]) h 8 rfl rfl fun w b1 h => ae (aj (v := (.bool (false))) rfl) (ah (aa (ai (ai (ag (ae (au (v := (.pointer (some ⟨sb, 0, none⟩))) rfl) (ae (bO rfl) (ae (ak eU rfl) (ae (aF h 1 rfl ji rfl rfl) (ae (qG (N := aB) dQ rfl (h.dM 2 rfl) (h.iB 3 rfl)) (ae (bI rfl rfl) (ah (aa (aI hs rfl (fun c2 hs => ?_) (fun c2 hs => ?_)))))))))))))))))
 refine ai (ag (ae (aj (v := (.bool (false))) rfl) (ah (aa (aK (aC (cK (v := (.bool (false))) Tryz.results90 rfl ?_)))))))
 replace h := h.pair 1 2 (by decide)
 replace h := h.pair 1 3 (by decide)
 replace h := h.pair 1 4 (by decide)
 replace h := h.pair 1 5 (by decide)
 obtain rfl := Option.some.inj hs
 subst zJ
 obtain ⟨o1, o2, o3⟩ := h.qH 1 (C := (.two (.two (.two (.two (.blk sb [eH, vs1, (.int .i64 (sx.status)), (.int .i64 (sx.aW))]) (.own aB.raw 49 eH (List.zip sx.frames eZ))) (.bJ (aR aM 51 hn eZ (List.map aB.sub sx.frames)))) (.own (aT Val).raw 47 vs1 (List.zip sx.cells eD))) (.bJ (aR aM 51 hn eD (List.map (aT Val).sub sx.cells))) : Chunk)) rfl ⟨⟨⟨⟨trivial, trivial⟩, trivial⟩, trivial⟩, trivial⟩
 exact ⟨o2, eH, vs1, eZ, eD, rfl, o1, o3⟩
 refine aG (aa (ai (CP mixed h fun w h => dA 0 (aP.refl BE _) rfl ay (by kernel_rfl) (by kernel_rfl) (by kernel_rfl) (fun w hk => ak iG rfl) (dA 1 (aP.refl BE _) rfl ay (by kernel_rfl) (by kernel_rfl) (by kernel_rfl) (fun w hk => have h := h.grow hk; aF h 8 rfl bz rfl rfl) (dA 2 (aP.refl BE _) rfl ay (by kernel_rfl) (by kernel_rfl) (by kernel_rfl) (fun w hk => au (v := va) rfl) (dA 3 (aP.refl BE _) rfl ay (by kernel_rfl) (by kernel_rfl) (by kernel_rfl) (fun w hk => ak iG rfl) (dA 4 (aP.refl BE _) rfl ay (by kernel_rfl) (by kernel_rfl) (by kernel_rfl) (fun w hk => have h := h.grow hk; aF h 8 rfl bz rfl rfl) ?_)))))))
 obtain ⟨Bl, OE, hs⟩ := aQ hs
 obtain ⟨bq3x5_4, oq3x5_5, csq3x5_6, h, Vp, Vq⟩ := h.DI 6 69 rfl jv rfl (aJ OE).1 (aJ OE).2
 obtain ⟨uq3x5_8, rfl, Vr⟩ := nG Vp
 replace h := h.cZ 70 Vr.up
 refine dA 5 (aP.refl BE _) rfl ay (by kernel_rfl) (by kernel_rfl) (by kernel_rfl) (fun w hk => Vq _ _ _ _ _ _ _ _ _ rfl rfl) (dA 6 (aP.refl BE _) rfl ay (by kernel_rfl) (by kernel_rfl) (by kernel_rfl) (fun w hk => ak yZ rfl) (dA 7 (aP.refl BE _) rfl ay (by kernel_rfl) (by kernel_rfl) (by kernel_rfl) (fun w hk => have h := h.grow hk; eF (k := 1) h 69 rfl bz rfl rfl) (dA 9 (aP.refl BE _) rfl ay (by kernel_rfl) (by kernel_rfl) (by kernel_rfl) (fun w hk => ak j3 rfl) (dA 10 (aP.refl BE _) rfl ay (by kernel_rfl) (by kernel_rfl) (by kernel_rfl) (fun w hk => have h := h.grow hk; aF h 8 rfl bz rfl rfl) ?_))))
 obtain ⟨OG, hs⟩ := bG hs
 obtain ⟨ws4, ws4e⟩ : ∃ x, x = w := ⟨_, rfl⟩
 have hg5 : Grow ws4 w := ws4e ▸ aP.refl BE w
 refine KP ws4e.symm (UE 8 12 (by kernel_rfl) rfl ay rfl ay ?_ ?_)
 refine xR (R := aM) (zs := [(.int .i64 (0)), (.int .i64 (0))]) (a := (⟨0, 0⟩ : Val)) h 105 uz bS rfl (by decide) rfl rfl OG rfl (fun _ _ => rfl) fun w dV h GM GN => ?_
 have Tj : ∀ b, ob dV b → ws4.heap.size ≤ b := fun b hb => Nat.le_trans hg5.size (GN b hb)
 replace hg5 := hg5.trans GM
 refine ah (qW hg5 (dA 11 hg5 rfl ay (by kernel_rfl) (by kernel_rfl) (by kernel_rfl) (fun w hk => dC (pv := [(0, (.int .i64 (b.b))), (2, dV), (3, (.int .i64 (b.a)))]) (out := [(.int .i64 (b.b)), (.int .i64 (0)), dV, (.int .i64 (b.a))]) Gi rfl ⟨0, 1, [(.int .i64 (b.b))], rfl, rfl, rfl, Nat.le_of_ble_eq_true rfl, ⟨2, 1, [dV], rfl, (iT (h.dD 105 rfl).one), rfl, Nat.le_of_ble_eq_true rfl, ⟨3, 1, [(.int .i64 (b.a))], rfl, rfl, rfl, Nat.le_of_ble_eq_true rfl, rfl⟩⟩⟩) (xn 12 (by kernel_rfl) rfl ay (DT h 153 ma fun w Au h En Eo => ?_))))
 have Ep : ws4.heap.size ≤ Au := Nat.le_trans hg5.size Eo
 replace hg5 := hg5.trans En
 refine ah (qW hg5 (xn 13 (by kernel_rfl) rfl ay (xu (vs := [(.int .i64 (b.b)), (.int .i64 (0)), dV, (.int .i64 (b.a))]) h 153 [(.int .i64 (b.b)), (.int .i64 (0)), dV, (.int .i64 (b.a))] rfl ma rfl rfl rfl rfl rfl (ax rfl (ax rfl (ax (h.dD 105 rfl).one (ax rfl aZ)))) fun w h GQ => ?_)))
 replace hg5 := hg5.fresh GQ (fun x hx => hx ▸ Ep)
 refine ah (qW hg5 (vQ (by kernel_rfl) (aa (ai (ai (ag (ae (ak vT rfl) (ae (aF h 8 rfl uC rfl rfl) (ae (bY bW rfl (h.oZ 7 rfl)) (ae (au (v := (.int .i64 (0))) rfl) (ah (aa (aV (gT (σ := Nat × Int × List Val) (inl [8, 9, 31, 32, 33, 34, 35, 36, 37, 38, 39, 40, 41, 42, 43, 44, 45, 46, 47, 48, 49, 50, 51, 52, 53, 54, 55, 56]) (fun ⟨k10, i11, y9⟩ => [(31, (.int .i64 (i11)))]) (fun ⟨k10, i11, y9⟩ w => SH w0 M K0 w (hset [(1, .blk sb [eH, vs1, (.int .i64 (sx.status)), (.int .i64 (sx.aW))]), (2, .own aB.raw 49 eH (List.zip sx.frames eZ)), (3, .bJ (aR aM 51 hn eZ (List.map aB.sub sx.frames))), (4, .own (aT Val).raw 47 vs1 (List.zip sx.cells eD)), (5, .bJ (aR aM 51 hn eD (List.map (aT Val).sub sx.cells))), (7, .rd fF YI b.args), (105, .own aM 51 dV y9), (153, .blk Au [(.int .i64 (b.b)), (.int .i64 (0)), dV, (.int .i64 (b.a))])]) ∧ i11 = (k10 : Int) ∧ fT (tY sx) (tZ sx b a) i11 (b.args.drop k10) y9 = some r) (fun ⟨k10, i11, y9⟩ => b.args.length - k10) ⟨0, 0, (List.replicate Bl.regs.toNat (⟨0, 0⟩ : Val))⟩ ⟨rfl, trivial⟩ ?_ ?_))))))))))))))
 exact ⟨h.cn _, rfl, hs⟩
 rintro ⟨k10, i11, y9⟩ w dz ⟨h, hik, hs⟩
 refine ai (ag ?_)
 refine ae (dN rfl rfl) (ah (aa ?_))
 refine ai (iJ rfl (fun e15 => ?_) (fun e15 => ?_))
 refine aG (aa ?_)
 obtain ⟨wE, e16a, e16b⟩ := gL (hik ▸ e15)
 rw [e16b, jr] at hs
 generalize hnx14 : fT (tY sx) (tZ sx b a) (i11 + 1) (b.args.drop (k10 + 1)) = nx14 at hs
 have e16r := gP ((h.oZ 7 rfl)).cO hik e15
 refine ai (aV (ai (ag (ae (au (v := (.int .i64 (i11))) rfl) ?_))))
 obtain ⟨b18, o19, cs20, h, r21, i17⟩ := h.DI 7 189 rfl bW rfl (jl hik) (gN hik e16a)
 obtain rfl := r21
 refine ae (i17 _ _ _ _ _ _ _ _ _ rfl rfl) (ae (eF (k := 0) h 189 rfl bz rfl rfl) (ae (aj (v := (.int .i64 (i11))) rfl) (ae (aj (v := (.int .i64 (wE))) rfl) (ah (aa (qj 20 mixed (by kernel_rfl) h fun w h => aO (ak oO rfl) (aO (aF h 153 rfl pE rfl rfl) (aO (au (v := (.int .i64 (i11))) rfl) (aO (au (v := (.pointer (some ⟨sb, 0, none⟩))) rfl) (aO (bO rfl) (aO (ak eU rfl) (aO (aF h 1 rfl ji rfl rfl) (aO (au (v := (.pointer (some ⟨sb, 0, none⟩))) rfl) (aO (bO rfl) (aO (ak eU rfl) (aO (aF h 1 rfl ji rfl rfl) (aO (qG (N := aB) dQ rfl (h.dM 2 rfl) (h.iB 3 rfl)) ?_)))))))))))))))))
 obtain ⟨a22, hs⟩ := bG hs
 refine aO (oh rfl rfl a22) ?_
 obtain ⟨xg, e24, hs⟩ := aQ hs
 obtain ⟨u28, e29, h⟩ := h.q8 3 190 xg.regs rfl rfl (by decide) (aJ e24).2 rfl
 obtain ⟨Xq, q27, i25⟩ := h.wo 2 rfl dQ rfl (aJ e24).1 (fA (aJ e24).2 e29)
 refine aO (i25 _ _ _ _ _ _ _ _ _ rfl rfl) (aO (ak oO rfl) ?_)
 obtain ⟨cs30, m31, r32⟩ := h.yN 2 rfl q27 (fA (aJ e24).2 e29)
 obtain ⟨rfl, -⟩ := r32
 refine aO (oL (k := 2) m31 pE rfl rfl) (aO (au (v := (.int .i64 (wE))) rfl) ?_)
 obtain ⟨yg, e34, hs⟩ := aQ hs
 obtain ⟨b36, q37, i35⟩ := h.wo 190 rfl bX rfl (aJ e34).1 (aJ e34).2
 refine aO (i35 _ _ _ _ _ _ _ _ _ rfl rfl) ?_
 obtain ⟨cs38, XP, r40⟩ := h.yN 190 rfl q37 (aJ e34).2
 obtain rfl := r40
 refine aO (oC (k := 0) (vs := [(.int .i64 (yg.kind)), (.int .i64 (yg.n))]) XP bS rfl rfl rfl (Nat.le_of_ble_eq_true rfl)) ?_
 obtain ⟨x41, e42, hs⟩ := aQ hs
 obtain ⟨PU, q45, i43⟩ := h.wo 105 rfl bX rfl (aJ e42).1 (aJ e42).2
 refine aO (i43 _ _ _ _ _ _ _ _ _ rfl rfl) (xP (xw (a' := yg) (vs := [(.int .i64 (yg.kind)), (.int .i64 (yg.n))]) h 105 rfl q45 rfl (aJ e42).2 bS rfl rfl rfl rfl rfl fun w h k46 => ah (aA (aa (ag (ae (dw rfl rfl e16r) (ae (au (v := (.int .i64 ((i11 + 1)))) rfl) (ah ?_))))))))
 replace h := h.iM 3 190 rfl rfl (by decide) (aJ e24).2 e29 rfl
 refine az ?_
 subst hnx14
 exact jV ⟨k10 + 1, i11 + 1, (y9.set (i11).toNat yg)⟩ ⟨h.cn _, by omega, hs⟩ (by have := of_decide_eq_true e15; dsimp only; omega)
 rw [gM (hik ▸ e15), ql] at hs
 refine df (aN (aN (bE (aa (ai (lY (L := (fun b => ob eH b ∨ b = sb)) mixed h fun w h => bg 0 (aP.refl _ _) rfl ay (by kernel_rfl) (by kernel_rfl) (by kernel_rfl) (fun w hk => au (v := (.pointer (some ⟨sb, 0, none⟩))) rfl) (bg 1 (aP.refl _ _) rfl ay (by kernel_rfl) (by kernel_rfl) (by kernel_rfl) (fun w hk => au (v := (.pointer (some ⟨sb, 0, none⟩))) rfl) (bg 2 (aP.refl _ _) rfl ay (by kernel_rfl) (by kernel_rfl) (by kernel_rfl) (fun w hk => bO rfl) (bg 3 (aP.refl _ _) rfl ay (by kernel_rfl) (by kernel_rfl) (by kernel_rfl) (fun w hk => ak eU rfl) (bg 5 (aP.refl _ _) rfl ay (by kernel_rfl) (by kernel_rfl) (by kernel_rfl) (fun w hk => have h := h.DR 2 1 (by decide) rfl rfl hk; dS (vs := [(.int .i64 (b.b)), (.int .i64 (0)), dV, (.int .i64 (b.a))]) h 153 rfl ma rfl rfl rfl) ?_))))))))))
 obtain ⟨Dm, hs⟩ := bG hs
 obtain ⟨Tk, Wn⟩ : ∃ x, x = w := ⟨_, rfl⟩
 have rX : aP (fun b => ob eH b ∨ b = sb) Tk w := Wn ▸ aP.refl (fun b => ob eH b ∨ b = sb) w
 refine sj Wn.symm (om 4 6 (by kernel_rfl) rfl ay rfl ay ?_ ?_)
 refine ae (aF h 1 rfl ji rfl rfl) (ah (aX rX (bN 6 (by kernel_rfl) rfl ay ?_)))
 have Er : (Value.oneCell' dV) = true := (h.dD 105 rfl).one
 refine zB (R := aB.raw) (vs := [(.agg #[(.int .i64 (b.b)), (.int .i64 (0)), dV, (.int .i64 (b.a))])]) (xs := List.zip [(⟨b.b, 0, y9, b.a⟩ : LX.Frame)] [dV]) h 263 pg rfl rfl rfl ⟨⟨rfl, Er⟩, trivial⟩ rfl fun w GR h Et Eu => ?_
 have PX : ∀ b, ob GR b → Tk.heap.size ≤ b := fun b hb => Nat.le_trans rX.size (Eu b hb)
 replace rX := rX.grow Et
 replace h := h.wY (N := aB) 105 (⟨b.b, 0, y9, b.a⟩ : LX.Frame) rfl rfl
 refine ah (aX rX (bN 7 (by kernel_rfl) rfl ay ?_))
 have wK := h.iB 3 rfl
 have yH := h.iB 105 rfl
 have PY := rX.size
 refine oN (R := aB.raw) (m := List.zip [(⟨b.b, 0, y9, b.a⟩ : LX.Frame)] [dV]) h 2 rfl (h.dM 263 rfl) pg rfl rfl rfl (by rw [dP wK, dP yH]; exact Dm.1) (by rw [dP wK, dP yH]; exact Dm.2) fun w p9 h Ev Ew => ?_
 have PZ : ∀ b, ob p9 b → b < Tk.heap.size → ob eH b := fun b hb hl => Ew b hb (Nat.lt_of_lt_of_le hl (rX).size)
 replace rX := aP.step rX Ev (fun _ hx _ => .inl (hx))
 replace h := (h.wW 3 105 rfl rfl (by decide)).fu 263
 rw [wX wK, ← List.map_append] at h
 obtain ⟨uf, Cg⟩ : ∃ z, z = eZ ++ [dV] := ⟨_, rfl⟩
 rw [← Cg] at h
 refine ah (aX rX (bg 8 rX rfl ay (by kernel_rfl) (by kernel_rfl) (by kernel_rfl) (fun w hk => bO rfl) (bg 9 rX rfl ay (by kernel_rfl) (by kernel_rfl) (by kernel_rfl) (fun w hk => ak eU rfl) (bN 10 (by kernel_rfl) rfl ay (ry h 1 [p9, vs1, (.int .i64 (sx.status)), (.int .i64 (sx.aW))] rfl ji rfl rfl rfl rfl (h.dD 2 rfl).one fun w h Ex => ?_)))))
 replace rX := aP.step rX Ex (fun _ hx _ => .inr (hx))
 refine ah (aX rX (fU (by kernel_rfl) (aa (ai (ag (ae (aj (v := (.bool (true))) rfl) (ah (aa (aK (cK (v := (.bool (true))) Tryz.results90 rfl ?_))))))))))
 replace h := h.pair 1 2 (by decide)
 replace h := h.pair 1 3 (by decide)
 replace h := h.pair 1 4 (by decide)
 replace h := h.pair 1 5 (by decide)
 obtain rfl := Option.some.inj hs
 subst zJ
 obtain ⟨o1, o2, o3⟩ := h.qH 1 (C := (.two (.two (.two (.two (.blk sb [p9, vs1, (.int .i64 (sx.status)), (.int .i64 (sx.aW))]) (.own aB.raw 49 p9 (List.zip (sx.frames ++ [(⟨b.b, 0, y9, b.a⟩ : LX.Frame)]) uf))) (.bJ (aR aM 51 hn uf (List.map aB.sub (sx.frames ++ [(⟨b.b, 0, y9, b.a⟩ : LX.Frame)]))))) (.own (aT Val).raw 47 vs1 (List.zip sx.cells eD))) (.bJ (aR aM 51 hn eD (List.map (aT Val).sub sx.cells))) : Chunk)) rfl ⟨⟨⟨⟨trivial, trivial⟩, trivial⟩, trivial⟩, trivial⟩
 exact ⟨o2, p9, vs1, uf, eD, rfl, o1, o3⟩
 have Er : (Value.oneCell' dV) = true := (h.dD 105 rfl).one
 refine zB (R := aB.raw) (vs := [(.agg #[(.int .i64 (b.b)), (.int .i64 (0)), dV, (.int .i64 (b.a))])]) (xs := List.zip [(⟨b.b, 0, y9, b.a⟩ : LX.Frame)] [dV]) h 263 pg rfl rfl rfl ⟨⟨rfl, Er⟩, trivial⟩ rfl fun w GR h Et Eu => ?_
 have PX : ∀ b, ob GR b → Tk.heap.size ≤ b := fun b hb => Nat.le_trans rX.size (Eu b hb)
 replace rX := rX.grow Et
 replace h := h.wY (N := aB) 105 (⟨b.b, 0, y9, b.a⟩ : LX.Frame) rfl rfl
 refine ah (aX rX (bN 4 (by kernel_rfl) rfl ay (ae (aF h 1 rfl ji rfl rfl) (ah (aX rX (bN 7 (by kernel_rfl) rfl ay ?_))))))
 have wK := h.iB 3 rfl
 have yH := h.iB 105 rfl
 have PY := rX.size
 refine oN (R := aB.raw) (m := List.zip [(⟨b.b, 0, y9, b.a⟩ : LX.Frame)] [dV]) h 2 rfl (h.dM 263 rfl) pg rfl rfl rfl (by rw [dP wK, dP yH]; exact Dm.1) (by rw [dP wK, dP yH]; exact Dm.2) fun w p9 h Ev Ew => ?_
 have PZ : ∀ b, ob p9 b → b < Tk.heap.size → ob eH b := fun b hb hl => Ew b hb (Nat.lt_of_lt_of_le hl (rX).size)
 replace rX := aP.step rX Ev (fun _ hx _ => .inl (hx))
 replace h := (h.wW 3 105 rfl rfl (by decide)).fu 263
 rw [wX wK, ← List.map_append] at h
 obtain ⟨uf, Cg⟩ : ∃ z, z = eZ ++ [dV] := ⟨_, rfl⟩
 rw [← Cg] at h
 refine ah (aX rX (bg 8 rX rfl ay (by kernel_rfl) (by kernel_rfl) (by kernel_rfl) (fun w hk => bO rfl) (bg 9 rX rfl ay (by kernel_rfl) (by kernel_rfl) (by kernel_rfl) (fun w hk => ak eU rfl) (bN 10 (by kernel_rfl) rfl ay (ry h 1 [p9, vs1, (.int .i64 (sx.status)), (.int .i64 (sx.aW))] rfl ji rfl rfl rfl rfl (h.dD 2 rfl).one fun w h Ex => ?_)))))
 replace rX := aP.step rX Ex (fun _ hx _ => .inr (hx))
 refine ah (aX rX (fU (by kernel_rfl) (aa (ai (ag (ae (aj (v := (.bool (true))) rfl) (ah (aa (aK (cK (v := (.bool (true))) Tryz.results90 rfl ?_))))))))))
 replace h := h.pair 1 2 (by decide)
 replace h := h.pair 1 3 (by decide)
 replace h := h.pair 1 4 (by decide)
 replace h := h.pair 1 5 (by decide)
 obtain rfl := Option.some.inj hs
 subst zJ
 obtain ⟨o1, o2, o3⟩ := h.qH 1 (C := (.two (.two (.two (.two (.blk sb [p9, vs1, (.int .i64 (sx.status)), (.int .i64 (sx.aW))]) (.own aB.raw 49 p9 (List.zip (sx.frames ++ [(⟨b.b, 0, y9, b.a⟩ : LX.Frame)]) uf))) (.bJ (aR aM 51 hn uf (List.map aB.sub (sx.frames ++ [(⟨b.b, 0, y9, b.a⟩ : LX.Frame)]))))) (.own (aT Val).raw 47 vs1 (List.zip sx.cells eD))) (.bJ (aR aM 51 hn eD (List.map (aT Val).sub sx.cells))) : Chunk)) rfl ⟨⟨⟨⟨trivial, trivial⟩, trivial⟩, trivial⟩, trivial⟩
 exact ⟨o2, p9, vs1, uf, eD, rfl, o1, o3⟩
 refine DT h 153 ma fun w Au h En Eo => ?_
 have Ep : ws4.heap.size ≤ Au := Nat.le_trans hg5.size Eo
 replace hg5 := hg5.trans En
 refine ah (qW hg5 (xn 8 (by kernel_rfl) rfl ay (xR (R := aM) (zs := [(.int .i64 (0)), (.int .i64 (0))]) (a := (⟨0, 0⟩ : Val)) h 105 uz bS rfl (by decide) rfl rfl OG rfl (fun _ _ => rfl) fun w dV h GM GN => ?_)))
 have Tj : ∀ b, ob dV b → ws4.heap.size ≤ b := fun b hb => Nat.le_trans hg5.size (GN b hb)
 replace hg5 := hg5.trans GM
 refine ah (qW hg5 (dA 11 hg5 rfl ay (by kernel_rfl) (by kernel_rfl) (by kernel_rfl) (fun w hk => dC (pv := [(0, (.int .i64 (b.b))), (2, dV), (3, (.int .i64 (b.a)))]) (out := [(.int .i64 (b.b)), (.int .i64 (0)), dV, (.int .i64 (b.a))]) Gi rfl ⟨0, 1, [(.int .i64 (b.b))], rfl, rfl, rfl, Nat.le_of_ble_eq_true rfl, ⟨2, 1, [dV], rfl, (iT (h.dD 105 rfl).one), rfl, Nat.le_of_ble_eq_true rfl, ⟨3, 1, [(.int .i64 (b.a))], rfl, rfl, rfl, Nat.le_of_ble_eq_true rfl, rfl⟩⟩⟩) (xn 13 (by kernel_rfl) rfl ay (xu (vs := [(.int .i64 (b.b)), (.int .i64 (0)), dV, (.int .i64 (b.a))]) h 153 [(.int .i64 (b.b)), (.int .i64 (0)), dV, (.int .i64 (b.a))] rfl ma rfl rfl rfl rfl rfl (ax rfl (ax rfl (ax (h.dD 105 rfl).one (ax rfl aZ)))) fun w h GQ => ?_))))
 replace hg5 := hg5.fresh GQ (fun x hx => hx ▸ Ep)
 refine ah (qW hg5 (vQ (by kernel_rfl) (aa (ai (ai (ag (ae (ak vT rfl) (ae (aF h 8 rfl uC rfl rfl) (ae (bY bW rfl (h.oZ 7 rfl)) (ae (au (v := (.int .i64 (0))) rfl) (ah (aa (aV (gT (σ := Nat × Int × List Val) (inl [8, 9, 31, 32, 33, 34, 35, 36, 37, 38, 39, 40, 41, 42, 43, 44, 45, 46, 47, 48, 49, 50, 51, 52, 53, 54, 55, 56]) (fun ⟨Vs, i62, tK⟩ => [(31, (.int .i64 (i62)))]) (fun ⟨Vs, i62, tK⟩ w => SH w0 M K0 w (hset [(1, .blk sb [eH, vs1, (.int .i64 (sx.status)), (.int .i64 (sx.aW))]), (2, .own aB.raw 49 eH (List.zip sx.frames eZ)), (3, .bJ (aR aM 51 hn eZ (List.map aB.sub sx.frames))), (4, .own (aT Val).raw 47 vs1 (List.zip sx.cells eD)), (5, .bJ (aR aM 51 hn eD (List.map (aT Val).sub sx.cells))), (7, .rd fF YI b.args), (105, .own aM 51 dV tK), (153, .blk Au [(.int .i64 (b.b)), (.int .i64 (0)), dV, (.int .i64 (b.a))])]) ∧ i62 = (Vs : Int) ∧ fT (GK sx) (GL sx b a) i62 (b.args.drop Vs) tK = some r) (fun ⟨Vs, i62, tK⟩ => b.args.length - Vs) ⟨0, 0, (List.replicate Bl.regs.toNat (⟨0, 0⟩ : Val))⟩ ⟨rfl, trivial⟩ ?_ ?_))))))))))))))
 exact ⟨h.cn _, rfl, hs⟩
 rintro ⟨Vs, i62, tK⟩ w dz ⟨h, hik, hs⟩
 refine ai (ag ?_)
 refine ae (dN rfl rfl) (ah (aa ?_))
 refine ai (iJ rfl (fun e66 => ?_) (fun e66 => ?_))
 refine aG (aa ?_)
 obtain ⟨pO, e67a, e67b⟩ := gL (hik ▸ e66)
 rw [e67b, jr] at hs
 generalize Sr : fT (GK sx) (GL sx b a) (i62 + 1) (b.args.drop (Vs + 1)) = J6 at hs
 have e67r := gP ((h.oZ 7 rfl)).cO hik e66
 refine ai (aV (ai (ag (ae (au (v := (.int .i64 (i62))) rfl) ?_))))
 obtain ⟨b69, o70, cs71, h, r72, i68⟩ := h.DI 7 335 rfl bW rfl (jl hik) (gN hik e67a)
 obtain rfl := r72
 refine ae (i68 _ _ _ _ _ _ _ _ _ rfl rfl) (ae (eF (k := 0) h 335 rfl bz rfl rfl) (ae (aj (v := (.int .i64 (i62))) rfl) (ae (aj (v := (.int .i64 (pO))) rfl) (ah (aa (qj 20 mixed (by kernel_rfl) h fun w h => aO (ak oO rfl) (aO (aF h 153 rfl pE rfl rfl) (aO (au (v := (.int .i64 (i62))) rfl) (aO (au (v := (.pointer (some ⟨sb, 0, none⟩))) rfl) (aO (bO rfl) (aO (ak eU rfl) (aO (aF h 1 rfl ji rfl rfl) (aO (au (v := (.pointer (some ⟨sb, 0, none⟩))) rfl) (aO (bO rfl) (aO (ak eU rfl) (aO (aF h 1 rfl ji rfl rfl) (aO (qG (N := aB) dQ rfl (h.dM 2 rfl) (h.iB 3 rfl)) ?_)))))))))))))))))
 obtain ⟨a73, hs⟩ := bG hs
 refine aO (oh rfl rfl a73) ?_
 obtain ⟨x74, e75, hs⟩ := aQ hs
 obtain ⟨u79, XX, h⟩ := h.q8 3 336 x74.regs rfl rfl (by decide) (aJ e75).2 rfl
 obtain ⟨b77, q78, i76⟩ := h.wo 2 rfl dQ rfl (aJ e75).1 (fA (aJ e75).2 XX)
 refine aO (i76 _ _ _ _ _ _ _ _ _ rfl rfl) (aO (ak oO rfl) ?_)
 obtain ⟨cs81, m82, r83⟩ := h.yN 2 rfl q78 (fA (aJ e75).2 XX)
 obtain ⟨rfl, -⟩ := r83
 refine aO (oL (k := 2) m82 pE rfl rfl) (aO (au (v := (.int .i64 (pO))) rfl) ?_)
 obtain ⟨x84, YH, hs⟩ := aQ hs
 obtain ⟨OB, q88, i86⟩ := h.wo 336 rfl bX rfl (aJ YH).1 (aJ YH).2
 refine aO (i86 _ _ _ _ _ _ _ _ _ rfl rfl) ?_
 obtain ⟨cs89, m90, r91⟩ := h.yN 336 rfl q88 (aJ YH).2
 obtain rfl := r91
 refine aO (oC (k := 0) (vs := [(.int .i64 (x84.kind)), (.int .i64 (x84.n))]) m90 bS rfl rfl rfl (Nat.le_of_ble_eq_true rfl)) ?_
 obtain ⟨x92, e93, hs⟩ := aQ hs
 obtain ⟨b95, q96, i94⟩ := h.wo 105 rfl bX rfl (aJ e93).1 (aJ e93).2
 refine aO (i94 _ _ _ _ _ _ _ _ _ rfl rfl) (xP (xw (a' := x84) (vs := [(.int .i64 (x84.kind)), (.int .i64 (x84.n))]) h 105 rfl q96 rfl (aJ e93).2 bS rfl rfl rfl rfl rfl fun w h k97 => ah (aA (aa (ag (ae (dw rfl rfl e67r) (ae (au (v := (.int .i64 ((i62 + 1)))) rfl) (ah ?_))))))))
 replace h := h.iM 3 336 rfl rfl (by decide) (aJ e75).2 XX rfl
 refine az ?_
 subst Sr
 exact jV ⟨Vs + 1, i62 + 1, (tK.set (i62).toNat x84)⟩ ⟨h.cn _, by omega, hs⟩ (by have := of_decide_eq_true e66; dsimp only; omega)
 rw [gM (hik ▸ e66), ql] at hs
 refine df (aN (aN (bE (aa (ai (lY (L := (fun b => ob eH b ∨ b = sb)) mixed h fun w h => bg 0 (aP.refl _ _) rfl ay (by kernel_rfl) (by kernel_rfl) (by kernel_rfl) (fun w hk => au (v := (.pointer (some ⟨sb, 0, none⟩))) rfl) (bg 1 (aP.refl _ _) rfl ay (by kernel_rfl) (by kernel_rfl) (by kernel_rfl) (fun w hk => au (v := (.pointer (some ⟨sb, 0, none⟩))) rfl) (bg 2 (aP.refl _ _) rfl ay (by kernel_rfl) (by kernel_rfl) (by kernel_rfl) (fun w hk => bO rfl) (bg 3 (aP.refl _ _) rfl ay (by kernel_rfl) (by kernel_rfl) (by kernel_rfl) (fun w hk => ak eU rfl) (bg 5 (aP.refl _ _) rfl ay (by kernel_rfl) (by kernel_rfl) (by kernel_rfl) (fun w hk => have h := h.DR 2 1 (by decide) rfl rfl hk; dS (vs := [(.int .i64 (b.b)), (.int .i64 (0)), dV, (.int .i64 (b.a))]) h 153 rfl ma rfl rfl rfl) ?_))))))))))
 obtain ⟨Bn, hs⟩ := bG hs
 obtain ⟨LD, Tm⟩ : ∃ x, x = w := ⟨_, rfl⟩
 have lH : aP (fun b => ob eH b ∨ b = sb) LD w := Tm ▸ aP.refl (fun b => ob eH b ∨ b = sb) w
 refine sj Tm.symm (om 4 6 (by kernel_rfl) rfl ay rfl ay ?_ ?_)
 refine ae (aF h 1 rfl ji rfl rfl) (ah (aX lH (bN 6 (by kernel_rfl) rfl ay ?_)))
 have Ch : (Value.oneCell' dV) = true := (h.dD 105 rfl).one
 refine zB (R := aB.raw) (vs := [(.agg #[(.int .i64 (b.b)), (.int .i64 (0)), dV, (.int .i64 (b.a))])]) (xs := List.zip [(⟨b.b, 0, tK, b.a⟩ : LX.Frame)] [dV]) h 409 pg rfl rfl rfl ⟨⟨rfl, Ch⟩, trivial⟩ rfl fun w Ey h Ci Cj => ?_
 have Np : ∀ b, ob Ey b → LD.heap.size ≤ b := fun b hb => Nat.le_trans lH.size (Cj b hb)
 replace lH := lH.grow Ci
 replace h := h.wY (N := aB) 105 (⟨b.b, 0, tK, b.a⟩ : LX.Frame) rfl rfl
 refine ah (aX lH (bN 7 (by kernel_rfl) rfl ay ?_))
 have ug := h.iB 3 rfl
 have wL := h.iB 105 rfl
 have Nq := lH.size
 refine oN (R := aB.raw) (m := List.zip [(⟨b.b, 0, tK, b.a⟩ : LX.Frame)] [dV]) h 2 rfl (h.dM 409 rfl) pg rfl rfl rfl (by rw [dP ug, dP wL]; exact Bn.1) (by rw [dP ug, dP wL]; exact Bn.2) fun w mV h Ck Cm => ?_
 have Nr : ∀ b, ob mV b → b < LD.heap.size → ob eH b := fun b hb hl => Cm b hb (Nat.lt_of_lt_of_le hl (lH).size)
 replace lH := aP.step lH Ck (fun _ hx _ => .inl (hx))
 replace h := (h.wW 3 105 rfl rfl (by decide)).fu 409
 rw [wX ug, ← List.map_append] at h
 obtain ⟨rC, Av⟩ : ∃ z, z = eZ ++ [dV] := ⟨_, rfl⟩
 rw [← Av] at h
 refine ah (aX lH (bg 8 lH rfl ay (by kernel_rfl) (by kernel_rfl) (by kernel_rfl) (fun w hk => bO rfl) (bg 9 lH rfl ay (by kernel_rfl) (by kernel_rfl) (by kernel_rfl) (fun w hk => ak eU rfl) (bN 10 (by kernel_rfl) rfl ay (ry h 1 [mV, vs1, (.int .i64 (sx.status)), (.int .i64 (sx.aW))] rfl ji rfl rfl rfl rfl (h.dD 2 rfl).one fun w h Cn => ?_)))))
 replace lH := aP.step lH Cn (fun _ hx _ => .inr (hx))
 refine ah (aX lH (fU (by kernel_rfl) (aa (ai (ag (ae (aj (v := (.bool (true))) rfl) (ah (aa (aK (cK (v := (.bool (true))) Tryz.results90 rfl ?_))))))))))
 replace h := h.pair 1 2 (by decide)
 replace h := h.pair 1 3 (by decide)
 replace h := h.pair 1 4 (by decide)
 replace h := h.pair 1 5 (by decide)
 obtain rfl := Option.some.inj hs
 subst zJ
 obtain ⟨o1, o2, o3⟩ := h.qH 1 (C := (.two (.two (.two (.two (.blk sb [mV, vs1, (.int .i64 (sx.status)), (.int .i64 (sx.aW))]) (.own aB.raw 49 mV (List.zip (sx.frames ++ [(⟨b.b, 0, tK, b.a⟩ : LX.Frame)]) rC))) (.bJ (aR aM 51 hn rC (List.map aB.sub (sx.frames ++ [(⟨b.b, 0, tK, b.a⟩ : LX.Frame)]))))) (.own (aT Val).raw 47 vs1 (List.zip sx.cells eD))) (.bJ (aR aM 51 hn eD (List.map (aT Val).sub sx.cells))) : Chunk)) rfl ⟨⟨⟨⟨trivial, trivial⟩, trivial⟩, trivial⟩, trivial⟩
 exact ⟨o2, mV, vs1, rC, eD, rfl, o1, o3⟩
 have Ch : (Value.oneCell' dV) = true := (h.dD 105 rfl).one
 refine zB (R := aB.raw) (vs := [(.agg #[(.int .i64 (b.b)), (.int .i64 (0)), dV, (.int .i64 (b.a))])]) (xs := List.zip [(⟨b.b, 0, tK, b.a⟩ : LX.Frame)] [dV]) h 409 pg rfl rfl rfl ⟨⟨rfl, Ch⟩, trivial⟩ rfl fun w Ey h Ci Cj => ?_
 have Np : ∀ b, ob Ey b → LD.heap.size ≤ b := fun b hb => Nat.le_trans lH.size (Cj b hb)
 replace lH := lH.grow Ci
 replace h := h.wY (N := aB) 105 (⟨b.b, 0, tK, b.a⟩ : LX.Frame) rfl rfl
 refine ah (aX lH (bN 4 (by kernel_rfl) rfl ay (ae (aF h 1 rfl ji rfl rfl) (ah (aX lH (bN 7 (by kernel_rfl) rfl ay ?_))))))
 have ug := h.iB 3 rfl
 have wL := h.iB 105 rfl
 have Nq := lH.size
 refine oN (R := aB.raw) (m := List.zip [(⟨b.b, 0, tK, b.a⟩ : LX.Frame)] [dV]) h 2 rfl (h.dM 409 rfl) pg rfl rfl rfl (by rw [dP ug, dP wL]; exact Bn.1) (by rw [dP ug, dP wL]; exact Bn.2) fun w mV h Ck Cm => ?_
 have Nr : ∀ b, ob mV b → b < LD.heap.size → ob eH b := fun b hb hl => Cm b hb (Nat.lt_of_lt_of_le hl (lH).size)
 replace lH := aP.step lH Ck (fun _ hx _ => .inl (hx))
 replace h := (h.wW 3 105 rfl rfl (by decide)).fu 409
 rw [wX ug, ← List.map_append] at h
 obtain ⟨rC, Av⟩ : ∃ z, z = eZ ++ [dV] := ⟨_, rfl⟩
 rw [← Av] at h
 refine ah (aX lH (bg 8 lH rfl ay (by kernel_rfl) (by kernel_rfl) (by kernel_rfl) (fun w hk => bO rfl) (bg 9 lH rfl ay (by kernel_rfl) (by kernel_rfl) (by kernel_rfl) (fun w hk => ak eU rfl) (bN 10 (by kernel_rfl) rfl ay (ry h 1 [mV, vs1, (.int .i64 (sx.status)), (.int .i64 (sx.aW))] rfl ji rfl rfl rfl rfl (h.dD 2 rfl).one fun w h Cn => ?_)))))
 replace lH := aP.step lH Cn (fun _ hx _ => .inr (hx))
 refine ah (aX lH (fU (by kernel_rfl) (aa (ai (ag (ae (aj (v := (.bool (true))) rfl) (ah (aa (aK (cK (v := (.bool (true))) Tryz.results90 rfl ?_))))))))))
 replace h := h.pair 1 2 (by decide)
 replace h := h.pair 1 3 (by decide)
 replace h := h.pair 1 4 (by decide)
 replace h := h.pair 1 5 (by decide)
 obtain rfl := Option.some.inj hs
 subst zJ
 obtain ⟨o1, o2, o3⟩ := h.qH 1 (C := (.two (.two (.two (.two (.blk sb [mV, vs1, (.int .i64 (sx.status)), (.int .i64 (sx.aW))]) (.own aB.raw 49 mV (List.zip (sx.frames ++ [(⟨b.b, 0, tK, b.a⟩ : LX.Frame)]) rC))) (.bJ (aR aM 51 hn rC (List.map aB.sub (sx.frames ++ [(⟨b.b, 0, tK, b.a⟩ : LX.Frame)]))))) (.own (aT Val).raw 47 vs1 (List.zip sx.cells eD))) (.bJ (aR aM 51 hn eD (List.map (aT Val).sub sx.cells))) : Chunk)) rfl ⟨⟨⟨⟨trivial, trivial⟩, trivial⟩, trivial⟩, trivial⟩
 exact ⟨o2, mV, vs1, rC, eD, rfl, o1, o3⟩
def Kr (sx : LX.State) (a : Val) (b : Int) : Option LX.State :=
  gz (jA ((sx.frames.length : Int) - 1)) ((sub? sx.frames 0 ((sx.frames.length : Int) - 1)).bind fun x3 => bif decide ((((sx.frames.take (((sx.frames.length : Int) - 1)).toNat).length : Int) : Int) = 0) then some (⟨(sx.frames.take (((sx.frames.length : Int) - 1)).toNat), sx.cells, 1, sx.aW⟩ : LX.State) else gz (jA (((sx.frames.take (((sx.frames.length : Int) - 1)).toNat).length : Int) - 1)) ((idx (sx.frames.take (((sx.frames.length : Int) - 1)).toNat) (((sx.frames.take (((sx.frames.length : Int) - 1)).toNat).length : Int) - 1)).bind fun fQ => (idx fQ.regs b).bind fun Ce => some (⟨((sx.frames.take (((sx.frames.length : Int) - 1)).toNat).set ((((sx.frames.take (((sx.frames.length : Int) - 1)).toNat).length : Int) - 1)).toNat ({ fQ with regs := (fQ.regs.set (b).toNat a) })), sx.cells, sx.status, sx.aW⟩ : LX.State)))
theorem P5 (w0 : World) (M : BS) (hM : ∀ b, M b → b < w0.heap.size) (sb : Nat) (sx : LX.State) (eH vs1 : Value) (eZ eD : List Value) (hC : Chunk.holds w0 M (Chunk.own' (.two (.two (.two (.two (.blk sb [eH, vs1, (.int .i64 (sx.status)), (.int .i64 (sx.aW))]) (.own aB.raw 49 eH (List.zip sx.frames eZ))) (.bJ (aR aM 51 hn eZ (List.map aB.sub sx.frames)))) (.own (aT Val).raw 47 vs1 (List.zip sx.cells eD))) (.bJ (aR aM 51 hn eD (List.map (aT Val).sub sx.cells))) : Chunk)) (.two (.two (.two (.two (.blk sb [eH, vs1, (.int .i64 (sx.status)), (.int .i64 (sx.aW))]) (.own aB.raw 49 eH (List.zip sx.frames eZ))) (.bJ (aR aM 51 hn eZ (List.map aB.sub sx.frames)))) (.own (aT Val).raw 47 vs1 (List.zip sx.cells eD))) (.bJ (aR aM 51 hn eD (List.map (aT Val).sub sx.cells))) : Chunk)) (hap : ∀ b, Chunk.own' (.two (.two (.two (.two (.blk sb [eH, vs1, (.int .i64 (sx.status)), (.int .i64 (sx.aW))]) (.own aB.raw 49 eH (List.zip sx.frames eZ))) (.bJ (aR aM 51 hn eZ (List.map aB.sub sx.frames)))) (.own (aT Val).raw 47 vs1 (List.zip sx.cells eD))) (.bJ (aR aM 51 hn eD (List.map (aT Val).sub sx.cells))) : Chunk) b → ¬ M b) (a : Val) (b : Int) (r : LX.State) (hs : Kr sx a b = some r) :
    Calls Tryz.prog 91 #[(.pointer (some ⟨sb, 0, none⟩)), (.agg #[(.int .i64 (a.kind)), (.int .i64 (a.n))]), (.int .i64 (b))] w0 (fun e w' => aP (Chunk.own' (.two (.two (.two (.two (.blk sb [eH, vs1, (.int .i64 (sx.status)), (.int .i64 (sx.aW))]) (.own aB.raw 49 eH (List.zip sx.frames eZ))) (.bJ (aR aM 51 hn eZ (List.map aB.sub sx.frames)))) (.own (aT Val).raw 47 vs1 (List.zip sx.cells eD))) (.bJ (aR aM 51 hn eD (List.map (aT Val).sub sx.cells))) : Chunk)) w0 w' ∧ ∃ Be, ∃ Bf, ∃ Bg, ∃ Bh, e = .returned (.tuple #[]) ∧ Chunk.holds w' M (Chunk.own' (.two (.two (.two (.two (.blk sb [Be, Bf, .int .i64 r.status, .int .i64 r.aW]) (.own aB.raw 49 Be (List.zip r.frames Bg))) (.bJ (aR aM 51 hn Bg (List.map aB.sub r.frames)))) (.own (aT Val).raw 47 Bf (List.zip r.cells Bh))) (.bJ (aR aM 51 hn Bh (List.map (aT Val).sub r.cells))) : Chunk)) (.two (.two (.two (.two (.blk sb [Be, Bf, .int .i64 r.status, .int .i64 r.aW]) (.own aB.raw 49 Be (List.zip r.frames Bg))) (.bJ (aR aM 51 hn Bg (List.map aB.sub r.frames)))) (.own (aT Val).raw 47 Bf (List.zip r.cells Bh))) (.bJ (aR aM 51 hn Bh (List.map (aT Val).sub r.cells))) : Chunk) ∧ (∀ b, Chunk.own' (.two (.two (.two (.two (.blk sb [Be, Bf, .int .i64 r.status, .int .i64 r.aW]) (.own aB.raw 49 Be (List.zip r.frames Bg))) (.bJ (aR aM 51 hn Bg (List.map aB.sub r.frames)))) (.own (aT Val).raw 47 Bf (List.zip r.cells Bh))) (.bJ (aR aM 51 hn Bh (List.map (aT Val).sub r.cells))) : Chunk) b → b < w0.heap.size → Chunk.own' (.two (.two (.two (.two (.blk sb [eH, vs1, (.int .i64 (sx.status)), (.int .i64 (sx.aW))]) (.own aB.raw 49 eH (List.zip sx.frames eZ))) (.bJ (aR aM 51 hn eZ (List.map aB.sub sx.frames)))) (.own (aT Val).raw 47 vs1 (List.zip sx.cells eD))) (.bJ (aR aM 51 hn eD (List.map (aT Val).sub sx.cells))) : Chunk) b)) := by
 refine aS (args := [(.pointer (some ⟨sb, 0, none⟩)), (.agg #[(.int .i64 (a.kind)), (.int .i64 (a.n))]), (.int .i64 (b))]) Tryz.func91 rfl Tryz.ntmps91 (Nat.le_of_ble_eq_true rfl) ?_
 have h := SH.E5 hM hC hap
 generalize zJ : (.two (.two (.two (.two (.blk sb [eH, vs1, (.int .i64 (sx.status)), (.int .i64 (sx.aW))]) (.own aB.raw 49 eH (List.zip sx.frames eZ))) (.bJ (aR aM 51 hn eZ (List.map aB.sub sx.frames)))) (.own (aT Val).raw 47 vs1 (List.zip sx.cells eD))) (.bJ (aR aM 51 hn eD (List.map (aT Val).sub sx.cells))) : Chunk).own' = K0 at h
 replace h := h.bU 1 5 (by decide) rfl rfl
 replace h := h.bU 1 4 (by decide) rfl rfl
 replace h := h.bU 1 3 (by decide) rfl rfl
 replace h := h.bU 1 2 (by decide) rfl rfl
 refine ai (ag (rF (cs := [(.int .i64 (a.kind)), (.int .i64 (a.n))]) h 6 rfl rfl fun w b1 h => ah (aa (ai (qj 14 mixed (by kernel_rfl) h fun w h => aO (au (v := (.pointer (some ⟨sb, 0, none⟩))) rfl) (aO (au (v := (.pointer (some ⟨sb, 0, none⟩))) rfl) (aO (bO rfl) (aO (ak eU rfl) (aO (aF h 1 rfl ji rfl rfl) (aO (au (v := (.pointer (some ⟨sb, 0, none⟩))) rfl) (aO (bO rfl) (aO (ak eU rfl) (aO (aF h 1 rfl ji rfl rfl) (aO (qG (N := aB) dQ rfl (h.dM 2 rfl) (h.iB 3 rfl)) ?_))))))))))))))
 obtain ⟨a2, hs⟩ := bG hs
 refine aO (oh rfl rfl a2) ?_
 obtain ⟨x3, e4, hs⟩ := aQ hs
 obtain ⟨e7, e7a, Zq, e7c⟩ := Iy e4
 have us8z := h.iB 3 rfl
 obtain ⟨u5, h, i6⟩ := h.Y0 2 rfl dQ rfl Zq (by rw [dP us8z]; exact e7c)
 rw [Pb] at h
 rw [dP us8z] at i6
 replace h := h.UK 3 (((sx.frames.length : Int) - 1)).toNat rfl
 generalize List.take (((sx.frames.length : Int) - 1)).toNat eZ = V8 at h
 refine aO (i6 _ _ _ _ _ _ _ _ _ _ rfl (.inl ⟨rfl, rfl⟩) (.inr (congrArg some rfl))) (aO (bO rfl) (aO (ak eU rfl) (xP (fq h 1 [u5, vs1, (.int .i64 (sx.status)), (.int .i64 (sx.aW))] rfl ji rfl rfl rfl rfl (h.dD 2 rfl).one fun w h => ah (aa (ai (ai (ag (ae (au (v := (.pointer (some ⟨sb, 0, none⟩))) rfl) (ae (bO rfl) (ae (ak eU rfl) (ae (aF h 1 rfl ji rfl rfl) (ae (qG (N := aB) dQ rfl (h.dM 2 rfl) (h.iB 3 rfl)) (ae (bI rfl rfl) (ah (aa (aI hs rfl (fun c9 hs => ?_) (fun c9 hs => ?_))))))))))))))))))
 refine ai (ag (ae (au (v := (.pointer (some ⟨sb, 0, none⟩))) rfl) (ae (bO rfl) (ae (ak iN rfl) (fq h 1 [u5, vs1, (.int .i64 (1)), (.int .i64 (sx.aW))] rfl bz rfl rfl rfl rfl rfl fun w h => ah (aa (aK (aC (fin0 Tryz.results91 ?_)))))))))
 replace h := h.pair 1 2 (by decide)
 replace h := h.pair 1 3 (by decide)
 replace h := h.pair 1 4 (by decide)
 replace h := h.pair 1 5 (by decide)
 obtain rfl := Option.some.inj hs
 subst zJ
 obtain ⟨o1, o2, o3⟩ := h.qH 1 (C := (.two (.two (.two (.two (.blk sb [u5, vs1, (.int .i64 (1)), (.int .i64 (sx.aW))]) (.own aB.raw 49 u5 (List.zip (sx.frames.take (((sx.frames.length : Int) - 1)).toNat) V8))) (.bJ (aR aM 51 hn V8 (List.map aB.sub (sx.frames.take (((sx.frames.length : Int) - 1)).toNat))))) (.own (aT Val).raw 47 vs1 (List.zip sx.cells eD))) (.bJ (aR aM 51 hn eD (List.map (aT Val).sub sx.cells))) : Chunk)) rfl ⟨⟨⟨⟨trivial, trivial⟩, trivial⟩, trivial⟩, trivial⟩
 exact ⟨o2, u5, vs1, V8, eD, rfl, o1, o3⟩
 refine aG (aa (qj 16 mixed (by kernel_rfl) h fun w h => aO (au (v := (.pointer (some ⟨sb, 0, none⟩))) rfl) (aO (bO rfl) (aO (ak eU rfl) (aO (aF h 1 rfl ji rfl rfl) (aO (au (v := (.pointer (some ⟨sb, 0, none⟩))) rfl) (aO (bO rfl) (aO (ak eU rfl) (aO (aF h 1 rfl ji rfl rfl) (aO (qG (N := aB) dQ rfl (h.dM 2 rfl) (h.iB 3 rfl)) ?_))))))))))
 obtain ⟨a10, hs⟩ := bG hs
 refine aO (oh rfl rfl a10) ?_
 obtain ⟨fQ, e12, hs⟩ := aQ hs
 obtain ⟨u16, e17, h⟩ := h.q8 3 8 fQ.regs rfl rfl (by decide) (aJ e12).2 rfl
 obtain ⟨b14, q15, i13⟩ := h.wo 2 rfl dQ rfl (aJ e12).1 (fA (aJ e12).2 e17)
 refine aO (i13 _ _ _ _ _ _ _ _ _ rfl rfl) (aO (ak oO rfl) ?_)
 obtain ⟨cs18, m19, Ve⟩ := h.yN 2 rfl q15 (fA (aJ e12).2 e17)
 obtain ⟨rfl, -⟩ := Ve
 refine aO (oL (k := 2) m19 pE rfl rfl) (aO (au (v := (.int .i64 (b))) rfl) (aO (dS (vs := [(.int .i64 (a.kind)), (.int .i64 (a.n))]) h 6 rfl bS rfl rfl rfl) ?_))
 obtain ⟨Ce, e22, hs⟩ := aQ hs
 obtain ⟨YC, q25, i23⟩ := h.wo 8 rfl bX rfl (aJ e22).1 (aJ e22).2
 refine aO (i23 _ _ _ _ _ _ _ _ _ rfl rfl) (xP (xw (a' := a) (vs := [(.int .i64 (a.kind)), (.int .i64 (a.n))]) h 8 rfl q25 rfl (aJ e22).2 bS rfl rfl rfl rfl rfl fun w h k26 => ah (Iw Tryz.results91 ?_)))
 replace h := h.qX 2 3 8 ({ fQ with regs := (fQ.regs.set (b).toNat a) }) rfl rfl rfl (by decide) (by decide) (by decide) (aJ e12).2 e17 rfl
 replace h := h.pair 1 2 (by decide)
 replace h := h.pair 1 3 (by decide)
 replace h := h.pair 1 4 (by decide)
 replace h := h.pair 1 5 (by decide)
 obtain rfl := Option.some.inj hs
 subst zJ
 obtain ⟨o1, o2, o3⟩ := h.qH 1 (C := (.two (.two (.two (.two (.blk sb [u5, vs1, (.int .i64 (sx.status)), (.int .i64 (sx.aW))]) (.own aB.raw 49 u5 (List.zip ((sx.frames.take (((sx.frames.length : Int) - 1)).toNat).set ((((sx.frames.take (((sx.frames.length : Int) - 1)).toNat).length : Int) - 1)).toNat ({ fQ with regs := (fQ.regs.set (b).toNat a) })) V8))) (.bJ (aR aM 51 hn V8 (List.map aB.sub ((sx.frames.take (((sx.frames.length : Int) - 1)).toNat).set ((((sx.frames.take (((sx.frames.length : Int) - 1)).toNat).length : Int) - 1)).toNat ({ fQ with regs := (fQ.regs.set (b).toNat a) })))))) (.own (aT Val).raw 47 vs1 (List.zip sx.cells eD))) (.bJ (aR aM 51 hn eD (List.map (aT Val).sub sx.cells))) : Chunk)) rfl ⟨⟨⟨⟨trivial, trivial⟩, trivial⟩, trivial⟩, trivial⟩
 exact ⟨o2, u5, vs1, V8, eD, rfl, o1, o3⟩
def jQ (y31 : Bool) (y34 : List LX.Frame) (Vt : List (List Val)) (y38 : Int) (y39 : Int) : Option (BM × Bool × LX.State) :=
  some ((⟨false, 0, y31⟩ : BM), true, (⟨y34, Vt, y38, y39⟩ : LX.State))
def zu (sx : LX.State) (pO : Bool) (H9 : List LX.Frame) : Option (BM × Bool × LX.State) :=
  some ((⟨false, 0, false⟩ : BM), pO, (⟨H9, sx.cells, sx.status, sx.aW⟩ : LX.State))
def iI (N : Nat) (sx : LX.State) (x3 : LX.Frame) (aU : bP) (aL : Ins) (a : List bP) (YJ : Bool) : Option (BM × Bool × LX.State) :=
  bif YJ then (Dj (⟨(sx.frames.set (((sx.frames.length : Int) - 1)).toNat ({ x3 with at_ := (min (x3.at_ + 1) ((aU.code.length : Int) - 1)) })), sx.cells, sx.status, sx.aW⟩ : LX.State) aL ((sx.frames.length : Int) - 1) ({ x3 with at_ := (min (x3.at_ + 1) ((aU.code.length : Int) - 1)) })).bind fun ed => some ((⟨false, 0, false⟩ : BM), ed.1, ed.2) else bif decide ((aL.op : Int) = 5) then (GI N (⟨(sx.frames.set (((sx.frames.length : Int) - 1)).toNat ({ x3 with at_ := (min (x3.at_ + 1) ((aU.code.length : Int) - 1)) })), sx.cells, sx.status, sx.aW⟩ : LX.State) aL).bind fun ek => some ((⟨false, 0, false⟩ : BM), ek.1, ek.2) else bif decide ((aL.op : Int) = 7) then (Kq (⟨(sx.frames.set (((sx.frames.length : Int) - 1)).toNat ({ x3 with at_ := (min (x3.at_ + 1) ((aU.code.length : Int) - 1)) })), sx.cells, sx.status, sx.aW⟩ : LX.State) a aL).bind fun dI => some ((⟨false, 0, false⟩ : BM), dI.1, dI.2) else bif decide ((aL.op : Int) = 8) then (idx x3.regs aL.a).bind fun Tn => (Kr (⟨(sx.frames.set (((sx.frames.length : Int) - 1)).toNat ({ x3 with at_ := (min (x3.at_ + 1) ((aU.code.length : Int) - 1)) })), sx.cells, sx.status, sx.aW⟩ : LX.State) Tn x3.qY).bind fun Co => jQ false Co.frames Co.cells Co.status Co.aW else bif decide ((aL.op : Int) = 9) then (idx x3.regs aL.a).bind fun mW => some ((⟨true, mW.n, false⟩ : BM), decide ((mW.kind : Int) = 1), (⟨(sx.frames.set (((sx.frames.length : Int) - 1)).toNat ({ x3 with at_ := (min (x3.at_ + 1) ((aU.code.length : Int) - 1)) })), sx.cells, sx.status, sx.aW⟩ : LX.State)) else bif decide ((aL.op : Int) = 10) then jQ true (sx.frames.set (((sx.frames.length : Int) - 1)).toNat ({ x3 with at_ := (min (x3.at_ + 1) ((aU.code.length : Int) - 1)) })) sx.cells sx.status sx.aW else bif decide ((aL.op : Int) = 11) then (idx x3.regs aL.a).bind fun Tp => bif decide ((Tp.kind : Int) ≠ 1) then some ((⟨false, 0, false⟩ : BM), false, (⟨(sx.frames.set (((sx.frames.length : Int) - 1)).toNat ({ x3 with at_ := (min (x3.at_ + 1) ((aU.code.length : Int) - 1)) })), sx.cells, sx.status, sx.aW⟩ : LX.State)) else jQ true (sx.frames.set (((sx.frames.length : Int) - 1)).toNat ({ x3 with at_ := (min (x3.at_ + 1) ((aU.code.length : Int) - 1)) })) sx.cells 3 Tp.n else bif decide ((aL.op : Int) = 12) then jQ false ((sx.frames.set (((sx.frames.length : Int) - 1)).toNat ({ x3 with at_ := (min (x3.at_ + 1) ((aU.code.length : Int) - 1)) })).set (((sx.frames.length : Int) - 1)).toNat ({ x3 with at_ := aL.b })) sx.cells sx.status sx.aW else bif decide ((aL.op : Int) = 13) then (idx x3.regs aL.a).bind fun Cq => bif (decide ((Cq.kind : Int) = 0) || (decide ((Cq.kind : Int) = 1) && decide ((Cq.n : Int) = 0))) then jQ false ((sx.frames.set (((sx.frames.length : Int) - 1)).toNat ({ x3 with at_ := (min (x3.at_ + 1) ((aU.code.length : Int) - 1)) })).set (((sx.frames.length : Int) - 1)).toNat ({ x3 with at_ := aL.b })) sx.cells sx.status sx.aW else jQ false (sx.frames.set (((sx.frames.length : Int) - 1)).toNat ({ x3 with at_ := (min (x3.at_ + 1) ((aU.code.length : Int) - 1)) })) sx.cells sx.status sx.aW else jQ false (sx.frames.set (((sx.frames.length : Int) - 1)).toNat ({ x3 with at_ := (min (x3.at_ + 1) ((aU.code.length : Int) - 1)) })) sx.cells sx.status sx.aW
def nW (N : Nat) (sx : LX.State) (a : List bP) : Option (BM × Bool × LX.State) :=
  gz (jA ((sx.frames.length : Int) - 1)) ((idx sx.frames ((sx.frames.length : Int) - 1)).bind fun x3 => (idx a x3.proc).bind fun aU => (idx aU.code x3.at_).bind fun aL => gz (jA (x3.at_ + 1)) (gz (jA ((aU.code.length : Int) - 1)) (bif decide ((aL.op : Int) = 1) then (idx x3.regs aL.a).bind fun x41 => jQ false ((sx.frames.set (((sx.frames.length : Int) - 1)).toNat ({ x3 with at_ := (min (x3.at_ + 1) ((aU.code.length : Int) - 1)) })).set (((sx.frames.length : Int) - 1)).toNat ({ x3 with at_ := (min (x3.at_ + 1) ((aU.code.length : Int) - 1)), regs := (x3.regs.set (aL.a).toNat (⟨1, aL.b⟩ : Val)) })) sx.cells sx.status sx.aW else bif decide ((aL.op : Int) = 2) then (idx x3.regs aL.b).bind fun Cz => (idx x3.regs aL.a).bind fun Vu => jQ false ((sx.frames.set (((sx.frames.length : Int) - 1)).toNat ({ x3 with at_ := (min (x3.at_ + 1) ((aU.code.length : Int) - 1)) })).set (((sx.frames.length : Int) - 1)).toNat ({ x3 with at_ := (min (x3.at_ + 1) ((aU.code.length : Int) - 1)), regs := (x3.regs.set (aL.a).toNat Cz) })) sx.cells sx.status sx.aW else bif decide ((aL.op : Int) = 3) then (idx aL.args 0).bind fun Dn => (idx x3.regs aL.b).bind fun rR => (idx x3.regs aL.c).bind fun rT => (Lu Dn rR rT).bind fun fJ => (idx x3.regs aL.a).bind fun P6 => zu sx fJ.2 ((sx.frames.set (((sx.frames.length : Int) - 1)).toNat ({ x3 with at_ := (min (x3.at_ + 1) ((aU.code.length : Int) - 1)) })).set (((sx.frames.length : Int) - 1)).toNat ({ x3 with at_ := (min (x3.at_ + 1) ((aU.code.length : Int) - 1)), regs := (x3.regs.set (aL.a).toNat fJ.1) })) else bif decide ((aL.op : Int) = 4) then iI N sx x3 aU aL a (decide ((aL.op : Int) = 4)) else iI N sx x3 aU aL a (decide ((aL.op : Int) = 6)))))
end
end Go.Proofs.YtfclkapelkhlpaaGreatDoor
