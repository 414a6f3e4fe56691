/-
  What the law VmSwept needs of our own library and of the walks, no more.
-/
import Derived.Test.YtfclkapelkhlpaaGreatDoorProg
import Derived.Test.YtfclkapelkhlpaaGreatDoorVmSweptTd
set_option linter.unusedSimpArgs false
set_option linter.unusedVariables false
set_option maxRecDepth 10000
namespace Go.Proofs.YtfclkapelkhlpaaGreatDoor
open Go Go.Proofs Go.LX
noncomputable section
theorem Ou (w0 : World) (M : BS) (hM : ∀ b, M b → b < w0.heap.size) (a : Int) (b : Val) (c : Val) (r : Val × Bool) (hs : VA a b c = some r) :
    Calls Tryz.prog 87 #[(.int .i64 (a)), (.agg #[(.int .i64 (b.kind)), (.int .i64 (b.n))]), (.agg #[(.int .i64 (c.kind)), (.int .i64 (c.n))])] w0 (fun e w' => Grow w0 w' ∧ e = .returned (.tuple #[.agg #[.int .i64 r.1.kind, .int .i64 r.1.n], .bool r.2])) := by
 refine aS (args := [(.int .i64 (a)), (.agg #[(.int .i64 (b.kind)), (.int .i64 (b.n))]), (.agg #[(.int .i64 (c.kind)), (.int .i64 (c.n))])]) Tryz.func87 rfl Tryz.ntmps87 (Nat.le_of_ble_eq_true rfl) ?_
 have h := SH.init hM
 refine ai (ag (oD (cs := [(.int .i64 (b.kind)), (.int .i64 (b.n))]) h 1 rfl rfl fun w b1 h => oD (cs := [(.int .i64 (c.kind)), (.int .i64 (c.n))]) h 2 rfl rfl fun w b2 h => bY h 3 bV fun w b3 h => ae (aj (v := (.bool (false))) rfl) (ah (aa (ai (ag (ae (aj (v := (.func (.func 117) #[] #[])) rfl) (ah (aa (ai (ai (ag (ae (au (v := (.int .i64 (a))) rfl) (ae (bJ rfl rfl) (ah (aa (aN hs rfl (fun c4 hs => ?_) (fun c4 hs => ?_))))))))))))))))))
 refine ai (ag (ae (au (v := (.func (.func 117) #[] #[])) rfl) (ae (dE (vs := [(.int .i64 (b.kind)), (.int .i64 (b.n))]) h 1 rfl bV rfl rfl rfl) (ae (dE (vs := [(.int .i64 (c.kind)), (.int .i64 (c.n))]) h 2 rfl bV rfl rfl rfl) (ae (VU Oo rfl rfl) (jE (args := [(.bool ((decide (b.kind = c.kind) && decide (b.n = c.n))))]) Og rfl rfl (aS (args := [(.bool ((decide (b.kind = c.kind) && decide (b.n = c.n))))]) Tryz.func117 rfl Tryz.ntmps117 (Nat.le_of_ble_eq_true rfl) (ai (ag (bY h 4 bV fun w b5 h => ae (aj (v := (.bool (false))) rfl) (ah (aa (ai (ai (ag (ae (au (v := (.bool ((decide (b.kind = c.kind) && decide (b.n = c.n))))) rfl) (ah (aa (aN hs rfl (fun c6 hs => ?_) (fun c6 hs => ?_))))))))))))))))))))
 refine ai (ag (ae (dV (pv := [(0, (.int .i64 (1))), (1, (.int .i64 (1)))]) (out := [(.int .i64 (1)), (.int .i64 (1))]) uu rfl ⟨0, 1, [(.int .i64 (1))], rfl, rfl, rfl, Nat.le_of_ble_eq_true rfl, ⟨1, 1, [(.int .i64 (1))], rfl, rfl, rfl, Nat.le_of_ble_eq_true rfl, rfl⟩⟩) (dB (vs := [(.int .i64 (1)), (.int .i64 (1))]) h 4 [(.int .i64 (1)), (.int .i64 (1))] rfl bV rfl rfl rfl rfl rfl (ay rfl (ay rfl bg)) fun w h => ae (aj (v := (.bool (true))) rfl) (ah (aa (aK (aC (j3 (vs := [(.int .i64 (1)), (.int .i64 (1))]) (v2 := (.bool (true))) Tryz.results117 rfl rfl h 4 rfl bV rfl (⟨_, rfl, ?_⟩)))))))))
 refine ae (bF rfl rfl) (ae (bF rfl rfl) (dB (vs := [(.int .i64 (1)), (.int .i64 (1))]) h 3 [(.int .i64 (1)), (.int .i64 (1))] rfl bV rfl rfl rfl rfl rfl (ay rfl (ay rfl bg)) fun w h => ae (aj (v := (.bool (true))) rfl) (ah (aa (aK (aC (j3 (vs := [(.int .i64 (1)), (.int .i64 (1))]) (v2 := (.bool (true))) Tryz.results87 rfl rfl h 3 rfl bV rfl ?_)))))))
 obtain rfl := Option.some.inj hs
 exact ⟨h.grown, rfl⟩
 refine aG (aa (ai (ag (ae (dV (pv := [(0, (.int .i64 (1)))]) (out := [(.int .i64 (1)), (.int .i64 (0))]) uu rfl ⟨0, 1, [(.int .i64 (1))], rfl, rfl, rfl, Nat.le_of_ble_eq_true rfl, rfl⟩) (dB (vs := [(.int .i64 (1)), (.int .i64 (0))]) h 4 [(.int .i64 (1)), (.int .i64 (0))] rfl bV rfl rfl rfl rfl rfl (ay rfl (ay rfl bg)) fun w h => ae (aj (v := (.bool (true))) rfl) (ah (aa (aK (j3 (vs := [(.int .i64 (1)), (.int .i64 (0))]) (v2 := (.bool (true))) Tryz.results117 rfl rfl h 4 rfl bV rfl (⟨_, rfl, ?_⟩))))))))))
 refine ae (bF rfl rfl) (ae (bF rfl rfl) (dB (vs := [(.int .i64 (1)), (.int .i64 (0))]) h 3 [(.int .i64 (1)), (.int .i64 (0))] rfl bV rfl rfl rfl rfl rfl (ay rfl (ay rfl bg)) fun w h => ae (aj (v := (.bool (true))) rfl) (ah (aa (aK (aC (j3 (vs := [(.int .i64 (1)), (.int .i64 (0))]) (v2 := (.bool (true))) Tryz.results87 rfl rfl h 3 rfl bV rfl ?_)))))))
 obtain rfl := Option.some.inj hs
 exact ⟨h.grown, rfl⟩
 refine aG (aa (ai (ai (ag (ae (ak nP rfl) (ae (aD h 1 rfl aZ rfl rfl) (ae (gu rfl rfl) (ae (au (v := (.bool (decide ((b.kind : Int) ≠ 1)))) rfl) (aF rfl rfl (fun q => ak nP rfl) (aF rfl rfl (fun q => aD h 2 rfl aZ (dA q) rfl) (aF rfl rfl (fun q => gu (dA q) rfl) (ae (ic rfl rfl ma) (ah (aa (aN hs rfl (fun c7 hs => ?_) (fun c7 hs => ?_))))))))))))))))
 refine ai (ag (ae (dV (pv := []) (out := [(.int .i64 (0)), (.int .i64 (0))]) uu rfl rfl) (dB (vs := [(.int .i64 (0)), (.int .i64 (0))]) h 3 [(.int .i64 (0)), (.int .i64 (0))] rfl bV rfl rfl rfl rfl rfl (ay rfl (ay rfl bg)) fun w h => ae (aj (v := (.bool (false))) rfl) (ah (aa (aK (aC (j3 (vs := [(.int .i64 (0)), (.int .i64 (0))]) (v2 := (.bool (false))) Tryz.results87 rfl rfl h 3 rfl bV rfl ?_))))))))
 obtain rfl := Option.some.inj hs
 exact ⟨h.grown, rfl⟩
 refine aG (aa (ai (ag (ae (aj (v := (.int .i64 (0))) rfl) (ah (aa (cz (σ := Int) (inl [7, 9, 28, 29, 30, 31, 32, 33, 34, 35, 36, 37, 38, 39, 40, 41, 42, 43, 44, 45, 46, 47, 48, 49, 50, 51, 52, 53, 54, 55, 56, 57, 58, 59, 60]) (fun x8 => [(9, (.int .i64 (x8)))]) (fun x8 w => SH w0 M BE w (hset [(3, .blk b3 [(.int .i64 (0)), (.int .i64 (0))])]) ∧ z8 x8 = some r) ?_ ?_)))))))
 rintro x8 w dD ⟨h, hs⟩
 refine ai (ag (ae (au (v := (.int .i64 (x8))) rfl) (ae (dV (pv := [(0, (.int .i64 (1))), (1, (.int .i64 (x8)))]) (out := [(.int .i64 (1)), (.int .i64 (x8))]) uu rfl ⟨0, 1, [(.int .i64 (1))], rfl, rfl, rfl, Nat.le_of_ble_eq_true rfl, ⟨1, 1, [(.int .i64 (x8))], rfl, rfl, rfl, Nat.le_of_ble_eq_true rfl, rfl⟩⟩) (ae (au (v := (.int .i64 (x8))) rfl) (ae (oZ rfl rfl) (ae (au (v := (.bool (decide ((-1000000000 : Int) ≤ x8)))) rfl) (aF rfl rfl (fun q => au (v := (.int .i64 (x8))) rfl) (aF rfl rfl (fun q => Cr (dA q) rfl) (ae (fV rfl rfl ma) (dB (vs := [(.int .i64 (1)), (.int .i64 (x8))]) h 3 [(.int .i64 (1)), (.int .i64 (x8))] rfl bV rfl rfl rfl rfl rfl (ay rfl (ay rfl bg)) fun w h => ae (aj (v := (.bool ((decide ((-1000000000 : Int) ≤ x8) && decide ((x8 : Int) ≤ 1000000000))))) rfl) (ah (aa (aK (j3 (vs := [(.int .i64 (1)), (.int .i64 (x8))]) (v2 := (.bool ((decide ((-1000000000 : Int) ≤ x8) && decide ((x8 : Int) ≤ 1000000000))))) Tryz.results87 rfl rfl h 3 rfl bV rfl ?_))))))))))))))
 obtain rfl := Option.some.inj hs
 exact ⟨h.grown, rfl⟩
 refine ai (ag (ae (au (v := (.int .i64 (a))) rfl) (ah (aa (aU (ai (ag (ae (bJ rfl rfl) (ae (aj (v := (.bool (decide ((a : Int) = 1)))) rfl) (ah (aa (aN hs rfl (fun c9 hs => ?_) (fun c9 hs => ?_)))))))))))))
 refine ag (ae (ak gM rfl) (ae (aD h 1 rfl aZ rfl rfl) (ae (ak gM rfl) (ae (aD h 2 rfl aZ rfl rfl) ?_))))
 obtain ⟨a10, hs⟩ := bM hs
 refine ae (dH rfl rfl a10) (ae (aj (v := (.int .i64 ((b.n + c.n)))) rfl) (ah (aA (az ?_))))
 exact bU (b.n + c.n) ⟨h.cn _, hs⟩
 refine ai (ag (ae (bJ rfl rfl) (ae (aj (v := (.bool (decide ((a : Int) = 2)))) rfl) (ah (aa (aN hs rfl (fun c11 hs => ?_) (fun c11 hs => ?_)))))))
 refine ag (ae (ak gM rfl) (ae (aD h 1 rfl aZ rfl rfl) (ae (ak gM rfl) (ae (aD h 2 rfl aZ rfl rfl) ?_))))
 obtain ⟨a12, hs⟩ := bM hs
 refine ae (oz rfl rfl a12) (ae (aj (v := (.int .i64 ((b.n - c.n)))) rfl) (ah (aA (az ?_))))
 exact bU (b.n - c.n) ⟨h.cn _, hs⟩
 refine ai (ag (ae (bJ rfl rfl) (ae (aj (v := (.bool (decide ((a : Int) = 3)))) rfl) (ah (aa (aN hs rfl (fun c13 hs => ?_) (fun c13 hs => ?_)))))))
 refine ag (ae (ak gM rfl) (ae (aD h 1 rfl aZ rfl rfl) (ae (ak gM rfl) (ae (aD h 2 rfl aZ rfl rfl) ?_))))
 obtain ⟨a14, hs⟩ := bM hs
 refine ae (YV rfl rfl a14) (ae (aj (v := (.int .i64 ((b.n * c.n)))) rfl) (ah (aA (az ?_))))
 exact bU (b.n * c.n) ⟨h.cn _, hs⟩
 refine ai (ag (ae (bJ rfl rfl) (ae (aj (v := (.bool (decide ((a : Int) = 4)))) rfl) (ah (aa (aN hs rfl (fun c15 hs => ?_) (fun c15 hs => ?_)))))))
 refine ai (ag (ae (au (v := (.func (.func 117) #[] #[])) rfl) (ae (ak gM rfl) (ae (aD h 1 rfl aZ rfl rfl) (ae (ak gM rfl) (ae (aD h 2 rfl aZ rfl rfl) (ae (dS rfl rfl) (jE (args := [(.bool (decide ((b.n : Int) < c.n)))]) Og rfl rfl (aS (args := [(.bool (decide ((b.n : Int) < c.n)))]) Tryz.func117 rfl Tryz.ntmps117 (Nat.le_of_ble_eq_true rfl) (ai (ag (bY h 5 bV fun w b16 h => ae (aj (v := (.bool (false))) rfl) (ah (aa (ai (ai (ag (ae (au (v := (.bool (decide ((b.n : Int) < c.n)))) rfl) (ah (aa (aN hs rfl (fun c17 hs => ?_) (fun c17 hs => ?_))))))))))))))))))))))
 refine ai (ag (ae (dV (pv := [(0, (.int .i64 (1))), (1, (.int .i64 (1)))]) (out := [(.int .i64 (1)), (.int .i64 (1))]) uu rfl ⟨0, 1, [(.int .i64 (1))], rfl, rfl, rfl, Nat.le_of_ble_eq_true rfl, ⟨1, 1, [(.int .i64 (1))], rfl, rfl, rfl, Nat.le_of_ble_eq_true rfl, rfl⟩⟩) (dB (vs := [(.int .i64 (1)), (.int .i64 (1))]) h 5 [(.int .i64 (1)), (.int .i64 (1))] rfl bV rfl rfl rfl rfl rfl (ay rfl (ay rfl bg)) fun w h => ae (aj (v := (.bool (true))) rfl) (ah (aa (aK (aC (j3 (vs := [(.int .i64 (1)), (.int .i64 (1))]) (v2 := (.bool (true))) Tryz.results117 rfl rfl h 5 rfl bV rfl (⟨_, rfl, ?_⟩)))))))))
 refine ae (bF rfl rfl) (ae (bF rfl rfl) (dB (vs := [(.int .i64 (1)), (.int .i64 (1))]) h 3 [(.int .i64 (1)), (.int .i64 (1))] rfl bV rfl rfl rfl rfl rfl (ay rfl (ay rfl bg)) fun w h => ae (aj (v := (.bool (true))) rfl) (ah (aa (aK (aH (aC (j3 (vs := [(.int .i64 (1)), (.int .i64 (1))]) (v2 := (.bool (true))) Tryz.results87 rfl rfl h 3 rfl bV rfl ?_))))))))
 obtain rfl := Option.some.inj hs
 exact ⟨h.grown, rfl⟩
 refine aG (aa (ai (ag (ae (dV (pv := [(0, (.int .i64 (1)))]) (out := [(.int .i64 (1)), (.int .i64 (0))]) uu rfl ⟨0, 1, [(.int .i64 (1))], rfl, rfl, rfl, Nat.le_of_ble_eq_true rfl, rfl⟩) (dB (vs := [(.int .i64 (1)), (.int .i64 (0))]) h 5 [(.int .i64 (1)), (.int .i64 (0))] rfl bV rfl rfl rfl rfl rfl (ay rfl (ay rfl bg)) fun w h => ae (aj (v := (.bool (true))) rfl) (ah (aa (aK (j3 (vs := [(.int .i64 (1)), (.int .i64 (0))]) (v2 := (.bool (true))) Tryz.results117 rfl rfl h 5 rfl bV rfl (⟨_, rfl, ?_⟩))))))))))
 refine ae (bF rfl rfl) (ae (bF rfl rfl) (dB (vs := [(.int .i64 (1)), (.int .i64 (0))]) h 3 [(.int .i64 (1)), (.int .i64 (0))] rfl bV rfl rfl rfl rfl rfl (ay rfl (ay rfl bg)) fun w h => ae (aj (v := (.bool (true))) rfl) (ah (aa (aK (aH (aC (j3 (vs := [(.int .i64 (1)), (.int .i64 (0))]) (v2 := (.bool (true))) Tryz.results87 rfl rfl h 3 rfl bV rfl ?_))))))))
 obtain rfl := Option.some.inj hs
 exact ⟨h.grown, rfl⟩
 refine aG (aA (az ?_))
 exact bU 0 ⟨h.cn _, hs⟩
def Aa (sx : LX.State) (a : Ins) (x5 : Val) (xb : LX.Frame) (kb : Int) (Yk : Bool) : Option (Bool × LX.State) :=
  bif Yk then some (false, sx) else bif decide ((a.op : Int) = 6) then (idx sx.cells x5.n).bind fun vR => (idx xb.regs a.b).bind fun x27 => (idx vR a.c).bind fun xB => some (true, (⟨sx.frames, (sx.cells.set (x5.n).toNat (vR.set (a.c).toNat x27)), sx.status, sx.aV⟩ : LX.State)) else (idx sx.cells x5.n).bind fun x41 => (idx x41 a.c).bind fun TM => (idx xb.regs a.a).bind fun Gn => some (true, (⟨(sx.frames.set (kb).toNat ({ xb with regs := (xb.regs.set (a.a).toNat TM) })), sx.cells, sx.status, sx.aV⟩ : LX.State))
def Ab (xb : LX.Frame) (sx : LX.State) (a : Ins) (kb : Int) (x4 : Int) : Option (Bool × LX.State) :=
  (idx xb.regs x4).bind fun x5 => bif decide ((x5.kind : Int) ≠ 2) then Aa sx a x5 xb kb true else (idx sx.cells x5.n).bind fun x66 => Aa sx a x5 xb kb (decide (((x66.length : Int) : Int) ≤ a.c))
def Le (sx : LX.State) (a : Ins) (kb : Int) (xb : LX.Frame) : Option (Bool × LX.State) :=
  bif decide ((a.op : Int) = 6) then Ab xb sx a kb a.a else Ab xb sx a kb a.b
theorem Gp (w0 : World) (M : BS) (hM : ∀ b, M b → b < w0.heap.size) (sb : Nat) (sx : LX.State) (fw vs1 : Value) (fF fq : List Value) (hC : Chunk.holds w0 M (Chunk.own' (.two (.two (.two (.two (.blk sb [fw, vs1, (.int .i64 (sx.status)), (.int .i64 (sx.aV))]) (.own aB.raw 49 fw (List.zip sx.frames fF))) (.bL (aR aM 51 hn fF (List.map aB.sub sx.frames)))) (.own (aT Val).raw 47 vs1 (List.zip sx.cells fq))) (.bL (aR aM 51 hn fq (List.map (aT Val).sub sx.cells))) : Chunk)) (.two (.two (.two (.two (.blk sb [fw, vs1, (.int .i64 (sx.status)), (.int .i64 (sx.aV))]) (.own aB.raw 49 fw (List.zip sx.frames fF))) (.bL (aR aM 51 hn fF (List.map aB.sub sx.frames)))) (.own (aT Val).raw 47 vs1 (List.zip sx.cells fq))) (.bL (aR aM 51 hn fq (List.map (aT Val).sub sx.cells))) : Chunk)) (hap : ∀ b, Chunk.own' (.two (.two (.two (.two (.blk sb [fw, vs1, (.int .i64 (sx.status)), (.int .i64 (sx.aV))]) (.own aB.raw 49 fw (List.zip sx.frames fF))) (.bL (aR aM 51 hn fF (List.map aB.sub sx.frames)))) (.own (aT Val).raw 47 vs1 (List.zip sx.cells fq))) (.bL (aR aM 51 hn fq (List.map (aT Val).sub sx.cells))) : Chunk) b → ¬ M b) (a : Ins) (BM : Value) (ZC : fH fT w0 (fun b => M b ∨ (.two (.two (.two (.two (.blk sb [fw, vs1, (.int .i64 (sx.status)), (.int .i64 (sx.aV))]) (.own aB.raw 49 fw (List.zip sx.frames fF))) (.bL (aR aM 51 hn fF (List.map aB.sub sx.frames)))) (.own (aT Val).raw 47 vs1 (List.zip sx.cells fq))) (.bL (aR aM 51 hn fq (List.map (aT Val).sub sx.cells))) : Chunk).own' b) BM a.args) (kb : Int) (xb : LX.Frame) (gb : 0 ≤ kb) (eb : sx.frames[kb.toNat]? = some xb) (vb : Value) (hb : fF[kb.toNat]? = some vb) (r : Bool × LX.State) (hs : Le sx a kb xb = some r) :
    Calls Tryz.prog 88 #[(.pointer (some ⟨sb, 0, none⟩)), (.agg #[(.int .i64 (a.op)), (.int .i64 (a.a)), (.int .i64 (a.b)), (.int .i64 (a.c)), BM]), vb] w0 (fun e w' => aL (Chunk.own' (.two (.two (.two (.two (.blk sb [fw, vs1, (.int .i64 (sx.status)), (.int .i64 (sx.aV))]) (.own aB.raw 49 fw (List.zip sx.frames fF))) (.bL (aR aM 51 hn fF (List.map aB.sub sx.frames)))) (.own (aT Val).raw 47 vs1 (List.zip sx.cells fq))) (.bL (aR aM 51 hn fq (List.map (aT Val).sub sx.cells))) : Chunk)) w0 w' ∧ ∃ AU, ∃ AV, ∃ AX, ∃ AY, e = .returned (.bool r.1) ∧ Chunk.holds w' M (Chunk.own' (.two (.two (.two (.two (.blk sb [AU, AV, .int .i64 r.2.status, .int .i64 r.2.aV]) (.own aB.raw 49 AU (List.zip r.2.frames AX))) (.bL (aR aM 51 hn AX (List.map aB.sub r.2.frames)))) (.own (aT Val).raw 47 AV (List.zip r.2.cells AY))) (.bL (aR aM 51 hn AY (List.map (aT Val).sub r.2.cells))) : Chunk)) (.two (.two (.two (.two (.blk sb [AU, AV, .int .i64 r.2.status, .int .i64 r.2.aV]) (.own aB.raw 49 AU (List.zip r.2.frames AX))) (.bL (aR aM 51 hn AX (List.map aB.sub r.2.frames)))) (.own (aT Val).raw 47 AV (List.zip r.2.cells AY))) (.bL (aR aM 51 hn AY (List.map (aT Val).sub r.2.cells))) : Chunk) ∧ (∀ b, Chunk.own' (.two (.two (.two (.two (.blk sb [AU, AV, .int .i64 r.2.status, .int .i64 r.2.aV]) (.own aB.raw 49 AU (List.zip r.2.frames AX))) (.bL (aR aM 51 hn AX (List.map aB.sub r.2.frames)))) (.own (aT Val).raw 47 AV (List.zip r.2.cells AY))) (.bL (aR aM 51 hn AY (List.map (aT Val).sub r.2.cells))) : Chunk) b → b < w0.heap.size → Chunk.own' (.two (.two (.two (.two (.blk sb [fw, vs1, (.int .i64 (sx.status)), (.int .i64 (sx.aV))]) (.own aB.raw 49 fw (List.zip sx.frames fF))) (.bL (aR aM 51 hn fF (List.map aB.sub sx.frames)))) (.own (aT Val).raw 47 vs1 (List.zip sx.cells fq))) (.bL (aR aM 51 hn fq (List.map (aT Val).sub sx.cells))) : Chunk) b)) := by
 refine aS (args := [(.pointer (some ⟨sb, 0, none⟩)), (.agg #[(.int .i64 (a.op)), (.int .i64 (a.a)), (.int .i64 (a.b)), (.int .i64 (a.c)), BM]), vb]) Tryz.func88 rfl Tryz.ntmps88 (Nat.le_of_ble_eq_true rfl) ?_
 have h := SH.EJ hM hC hap
 replace h := h.Bw 6 ZC zo
 generalize zt : (.two (.two (.two (.two (.blk sb [fw, vs1, (.int .i64 (sx.status)), (.int .i64 (sx.aV))]) (.own aB.raw 49 fw (List.zip sx.frames fF))) (.bL (aR aM 51 hn fF (List.map aB.sub sx.frames)))) (.own (aT Val).raw 47 vs1 (List.zip sx.cells fq))) (.bL (aR aM 51 hn fq (List.map (aT Val).sub sx.cells))) : Chunk).own' = K0 at h
 replace h := h.bX 1 5 (by decide) rfl rfl
 replace h := h.bX 1 4 (by decide) rfl rfl
 replace h := h.bX 1 3 (by decide) rfl rfl
 replace h := h.bX 1 2 (by decide) rfl rfl
 obtain ⟨u1, e2, h⟩ := h.pq 3 7 xb.regs rfl rfl (by decide) eb rfl
 obtain rfl : vb = u1 := Option.some.inj (hb.symm.trans e2)
 refine ai (ag (oD (cs := [(.int .i64 (a.op)), (.int .i64 (a.a)), (.int .i64 (a.b)), (.int .i64 (a.c)), BM]) h 8 rfl rfl fun w b3 h => ae (aj (v := (.bool (false))) rfl) (ah (aa (ai (ag (ae (ak iX rfl) (ae (aD h 8 rfl aZ rfl rfl) (ae (aj (v := (.int .i64 (a.b))) rfl) (ah (aa (cz (σ := Int) (inl [7, 11, 12, 13, 14, 15]) (fun x4 => [(7, (.int .i64 (x4)))]) (fun x4 w => SH w0 M K0 w (hset [(1, .blk sb [fw, vs1, (.int .i64 (sx.status)), (.int .i64 (sx.aV))]), (2, .own aB.raw 49 fw (List.zip sx.frames fF)), (3, .bL (aR aM 51 (hat (kb).toNat) fF (List.map aB.sub sx.frames))), (4, .own (aT Val).raw 47 vs1 (List.zip sx.cells fq)), (5, .bL (aR aM 51 hn fq (List.map (aT Val).sub sx.cells))), (6, .rd fT BM a.args), (7, .own aM 51 vb xb.regs), (8, .blk b3 [(.int .i64 (a.op)), (.int .i64 (a.a)), (.int .i64 (a.b)), (.int .i64 (a.c)), BM])]) ∧ Ab xb sx a kb x4 = some r) ?_ ?_))))))))))))
 rintro x4 w dD ⟨h, hs⟩
 refine ai (ag (ae (au (v := vb) rfl) (ae (au (v := (.int .i64 (x4))) rfl) ?_)))
 obtain ⟨x5, e6, hs⟩ := aQ hs
 obtain ⟨b8, q9, i7⟩ := h.uR 7 rfl bK rfl (aI e6).1 (aI e6).2
 refine ae (i7 _ _ _ _ _ _ _ _ _ rfl rfl) ?_
 obtain ⟨cs10, m11, Y7⟩ := h.xc 7 rfl q9 (aI e6).2
 obtain rfl := Y7
 refine ae (mM (k := 0) (vs := [(.int .i64 (x5.kind)), (.int .i64 (x5.n))]) m11 bV rfl rfl rfl (Nat.le_of_ble_eq_true rfl)) (bY h 9 bV fun w b13 h => dB (vs := [(.int .i64 (x5.kind)), (.int .i64 (x5.n))]) h 9 [(.int .i64 (x5.kind)), (.int .i64 (x5.n))] rfl bV rfl rfl rfl rfl rfl (ay rfl (ay rfl bg)) fun w h => ah (aa (ai (cz (σ := Bool) (inl [20, 21, 22, 23, 24, 25, 26, 27, 28, 29, 30, 31, 32, 33, 34, 35, 36]) (fun Yk => [(36, (.bool (Yk)))]) (fun Yk w => SH w0 M K0 w (hset [(1, .blk sb [fw, vs1, (.int .i64 (sx.status)), (.int .i64 (sx.aV))]), (2, .own aB.raw 49 fw (List.zip sx.frames fF)), (3, .bL (aR aM 51 (hat (kb).toNat) fF (List.map aB.sub sx.frames))), (4, .own (aT Val).raw 47 vs1 (List.zip sx.cells fq)), (5, .bL (aR aM 51 hn fq (List.map (aT Val).sub sx.cells))), (6, .rd fT BM a.args), (7, .own aM 51 vb xb.regs), (8, .blk b3 [(.int .i64 (a.op)), (.int .i64 (a.a)), (.int .i64 (a.b)), (.int .i64 (a.c)), BM]), (9, .blk b13 [(.int .i64 (x5.kind)), (.int .i64 (x5.n))])]) ∧ Aa sx a x5 xb kb Yk = some r) ?_ ?_))))
 rintro Yk w dD ⟨h, hs⟩
 refine aN hs rfl (fun c15 hs => ?_) (fun c15 hs => ?_)
 refine ai (ag (ae (aj (v := (.bool (false))) rfl) (ah (aa (aK (aC (cu (v := (.bool (false))) Tryz.results88 rfl ?_)))))))
 replace h := h.iO 3 7 rfl rfl (by decide) eb hb rfl
 replace h := h.pair 1 2 (by decide)
 replace h := h.pair 1 3 (by decide)
 replace h := h.pair 1 4 (by decide)
 replace h := h.pair 1 5 (by decide)
 obtain rfl := Option.some.inj hs
 subst zt
 obtain ⟨o1, o2, o3⟩ := h.qD 1 (C := (.two (.two (.two (.two (.blk sb [fw, vs1, (.int .i64 (sx.status)), (.int .i64 (sx.aV))]) (.own aB.raw 49 fw (List.zip sx.frames fF))) (.bL (aR aM 51 hn fF (List.map aB.sub sx.frames)))) (.own (aT Val).raw 47 vs1 (List.zip sx.cells fq))) (.bL (aR aM 51 hn fq (List.map (aT Val).sub sx.cells))) : Chunk)) rfl ⟨⟨⟨⟨trivial, trivial⟩, trivial⟩, trivial⟩, trivial⟩
 exact ⟨o2, fw, vs1, fF, fq, rfl, o1, o3⟩
 refine aG (aa (ai (ai (ag (ae (ak pz rfl) (ae (aD h 8 rfl aZ rfl rfl) (ae (bJ rfl rfl) (ah (aa (aN hs rfl (fun c16 hs => ?_) (fun c16 hs => ?_)))))))))))
 refine qP 16 mixed (by kernel_rfl) h fun w h => aJ (au (v := (.pointer (some ⟨sb, 0, none⟩))) rfl) (aJ (bT rfl) (aJ (ak iW rfl) (aJ (aD h 1 rfl mg rfl rfl) (aJ (ak gM rfl) (aJ (aD h 9 rfl aZ rfl rfl) ?_)))))
 obtain ⟨vR, e18, hs⟩ := aQ hs
 obtain ⟨u22, e23, h⟩ := h.pq 5 10 vR rfl rfl (by decide) (aI e18).2 rfl
 obtain ⟨b20, q21, i19⟩ := h.uR 4 rfl dZ rfl (aI e18).1 (fe (aI e18).2 e23)
 refine aJ (i19 _ _ _ _ _ _ _ _ _ rfl rfl) ?_
 obtain ⟨cs24, m25, r26⟩ := h.xc 4 rfl q21 (fe (aI e18).2 e23)
 obtain ⟨rfl, -⟩ := r26
 refine aJ (oC (k := 0) m25 kg rfl rfl) (aJ (ak qo rfl) (aJ (aD h 8 rfl aZ rfl rfl) (aJ (au (v := vb) rfl) (aJ (ak iX rfl) (aJ (aD h 8 rfl aZ rfl rfl) ?_)))))
 obtain ⟨x27, e28, hs⟩ := aQ hs
 obtain ⟨b30, q31, i29⟩ := h.uR 7 rfl bK rfl (aI e28).1 (aI e28).2
 refine aJ (i29 _ _ _ _ _ _ _ _ _ rfl rfl) ?_
 obtain ⟨cs32, m33, r34⟩ := h.xc 7 rfl q31 (aI e28).2
 obtain rfl := r34
 refine aJ (mM (k := 0) (vs := [(.int .i64 (x27.kind)), (.int .i64 (x27.n))]) m33 bV rfl rfl rfl (Nat.le_of_ble_eq_true rfl)) ?_
 obtain ⟨xB, e36, hs⟩ := aQ hs
 obtain ⟨b38, q39, i37⟩ := h.uR 10 rfl bK rfl (aI e36).1 (aI e36).2
 refine aJ (i37 _ _ _ _ _ _ _ _ _ rfl rfl) (zi (xg (a' := x27) (vs := [(.int .i64 (x27.kind)), (.int .i64 (x27.n))]) h 10 rfl q39 rfl (aI e36).2 bV rfl rfl rfl rfl rfl fun w h k40 => ah (aa (ai (ag (ae (aj (v := (.bool (true))) rfl) (ah (aa (aK (cu (v := (.bool (true))) Tryz.results88 rfl ?_))))))))))
 replace h := h.iO 3 7 rfl rfl (by decide) eb hb rfl
 replace h := h.qQ 4 5 10 (vR.set (a.c).toNat x27) rfl rfl rfl (by decide) (by decide) (by decide) (aI e18).2 e23 rfl
 replace h := h.pair 1 2 (by decide)
 replace h := h.pair 1 3 (by decide)
 replace h := h.pair 1 4 (by decide)
 replace h := h.pair 1 5 (by decide)
 obtain rfl := Option.some.inj hs
 subst zt
 obtain ⟨o1, o2, o3⟩ := h.qD 1 (C := (.two (.two (.two (.two (.blk sb [fw, vs1, (.int .i64 (sx.status)), (.int .i64 (sx.aV))]) (.own aB.raw 49 fw (List.zip sx.frames fF))) (.bL (aR aM 51 hn fF (List.map aB.sub sx.frames)))) (.own (aT Val).raw 47 vs1 (List.zip (sx.cells.set (x5.n).toNat (vR.set (a.c).toNat x27)) fq))) (.bL (aR aM 51 hn fq (List.map (aT Val).sub (sx.cells.set (x5.n).toNat (vR.set (a.c).toNat x27))))) : Chunk)) rfl ⟨⟨⟨⟨trivial, trivial⟩, trivial⟩, trivial⟩, trivial⟩
 exact ⟨o2, fw, vs1, fF, fq, rfl, o1, o3⟩
 refine qP 16 mixed (by kernel_rfl) h fun w h => aJ (au (v := vb) rfl) (aJ (ak kv rfl) (aJ (aD h 8 rfl aZ rfl rfl) (aJ (au (v := (.pointer (some ⟨sb, 0, none⟩))) rfl) (aJ (bT rfl) (aJ (ak iW rfl) (aJ (aD h 1 rfl mg rfl rfl) (aJ (ak gM rfl) (aJ (aD h 9 rfl aZ rfl rfl) ?_))))))))
 obtain ⟨x41, e42, hs⟩ := aQ hs
 obtain ⟨u46, e47, h⟩ := h.pq 5 11 x41 rfl rfl (by decide) (aI e42).2 rfl
 obtain ⟨Md, ZR, i43⟩ := h.uR 4 rfl dZ rfl (aI e42).1 (fe (aI e42).2 e47)
 refine aJ (i43 _ _ _ _ _ _ _ _ _ rfl rfl) ?_
 obtain ⟨cs48, m49, r50⟩ := h.xc 4 rfl ZR (fe (aI e42).2 e47)
 obtain ⟨rfl, -⟩ := r50
 refine aJ (oC (k := 0) m49 kg rfl rfl) (aJ (ak qo rfl) (aJ (aD h 8 rfl aZ rfl rfl) ?_))
 obtain ⟨TM, e52, hs⟩ := aQ hs
 obtain ⟨b54, q55, i53⟩ := h.uR 11 rfl bK rfl (aI e52).1 (aI e52).2
 refine aJ (i53 _ _ _ _ _ _ _ _ _ rfl rfl) ?_
 obtain ⟨cs56, m57, r58⟩ := h.xc 11 rfl q55 (aI e52).2
 obtain rfl := r58
 refine aJ (mM (k := 0) (vs := [(.int .i64 (TM.kind)), (.int .i64 (TM.n))]) m57 bV rfl rfl rfl (Nat.le_of_ble_eq_true rfl)) ?_
 obtain ⟨Gn, e60, hs⟩ := aQ hs
 obtain ⟨b62, q63, i61⟩ := h.uR 7 rfl bK rfl (aI e60).1 (aI e60).2
 refine aJ (i61 _ _ _ _ _ _ _ _ _ rfl rfl) (zi (xg (a' := TM) (vs := [(.int .i64 (TM.kind)), (.int .i64 (TM.n))]) h 7 rfl q63 rfl (aI e60).2 bV rfl rfl rfl rfl rfl fun w h k64 => ah (aa (ai (ag (ae (aj (v := (.bool (true))) rfl) (ah (aa (aK (cu (v := (.bool (true))) Tryz.results88 rfl ?_))))))))))
 replace h := h.qQ 2 3 7 ({ xb with regs := (xb.regs.set (a.a).toNat TM) }) rfl rfl rfl (by decide) (by decide) (by decide) eb hb rfl
 replace h := h.iO 5 11 rfl rfl (by decide) (aI e42).2 e47 rfl
 replace h := h.pair 1 2 (by decide)
 replace h := h.pair 1 3 (by decide)
 replace h := h.pair 1 4 (by decide)
 replace h := h.pair 1 5 (by decide)
 obtain rfl := Option.some.inj hs
 subst zt
 obtain ⟨o1, o2, o3⟩ := h.qD 1 (C := (.two (.two (.two (.two (.blk sb [fw, vs1, (.int .i64 (sx.status)), (.int .i64 (sx.aV))]) (.own aB.raw 49 fw (List.zip (sx.frames.set (kb).toNat ({ xb with regs := (xb.regs.set (a.a).toNat TM) })) fF))) (.bL (aR aM 51 hn fF (List.map aB.sub (sx.frames.set (kb).toNat ({ xb with regs := (xb.regs.set (a.a).toNat TM) })))))) (.own (aT Val).raw 47 vs1 (List.zip sx.cells fq))) (.bL (aR aM 51 hn fq (List.map (aT Val).sub sx.cells))) : Chunk)) rfl ⟨⟨⟨⟨trivial, trivial⟩, trivial⟩, trivial⟩, trivial⟩
 exact ⟨o2, fw, vs1, fF, fq, rfl, o1, o3⟩
 refine xG mixed (by kernel_rfl) h fun w h => aJ (ak nP rfl) (aJ (aD h 9 rfl aZ rfl rfl) (aJ (gu rfl rfl) (aJ (au (v := (.bool (decide ((x5.kind : Int) ≠ 2)))) rfl) (iQ (b := decide ((x5.kind : Int) ≠ 2)) hs (fun Bf hs => ?_) (fun Bf hs => ?_)))))
 refine dG (b' := true) rfl (congrArg Value.bool Bf) rfl (dG (b' := true) rfl (congrArg Value.bool Bf) rfl (dG (b' := true) rfl (congrArg Value.bool Bf) rfl (dG (b' := true) rfl (congrArg Value.bool Bf) rfl (dG (b' := true) rfl (congrArg Value.bool Bf) rfl (dG (b' := true) rfl (congrArg Value.bool Bf) rfl (dG (b' := true) rfl (congrArg Value.bool Bf) rfl (dG (b' := true) rfl (congrArg Value.bool Bf) rfl (dG (b' := true) rfl (congrArg Value.bool Bf) rfl (dG (b' := true) rfl (congrArg Value.bool Bf) rfl (dG (b' := true) rfl (congrArg Value.bool Bf) rfl (dG (b' := true) rfl (congrArg Value.bool Bf) rfl (aJ (cK (b := true) (v := (.bool (true))) (congrArg Value.bool Bf) rfl) (uS (az ?_))))))))))))))
 exact bU true ⟨h.cn _, hs⟩
 refine eY rfl (congrArg Value.bool Bf) (aJ (ak qo rfl) (eY rfl (congrArg Value.bool Bf) (aJ (aD h 8 rfl aZ rfl rfl) (eY rfl (congrArg Value.bool Bf) (aJ (au (v := (.pointer (some ⟨sb, 0, none⟩))) rfl) (eY rfl (congrArg Value.bool Bf) (aJ (bT rfl) (eY rfl (congrArg Value.bool Bf) (aJ (ak iW rfl) (eY rfl (congrArg Value.bool Bf) (aJ (aD h 1 rfl mg rfl rfl) (eY rfl (congrArg Value.bool Bf) (aJ (ak gM rfl) (eY rfl (congrArg Value.bool Bf) (aJ (aD h 9 rfl aZ rfl rfl) (eY rfl (congrArg Value.bool Bf) ?_))))))))))))))))
 obtain ⟨x66, Xx, hs⟩ := aQ hs
 obtain ⟨u71, e72, h⟩ := h.pq 5 12 x66 rfl rfl (by decide) (aI Xx).2 rfl
 obtain ⟨b69, q70, i68⟩ := h.uR 4 rfl dZ rfl (aI Xx).1 (fe (aI Xx).2 e72)
 refine aJ (i68 _ _ _ _ _ _ _ _ _ rfl rfl) (eY rfl (congrArg Value.bool Bf) ?_)
 obtain ⟨cs73, Xy, r75⟩ := h.xc 4 rfl q70 (fe (aI Xx).2 e72)
 obtain ⟨rfl, -⟩ := r75
 refine aJ (oC (k := 0) Xy kg rfl rfl) (eY rfl (congrArg Value.bool Bf) (aJ (bW bK rfl (h.eF 12 rfl)) (eY rfl (congrArg Value.bool Bf) (aJ (oZ rfl rfl) (aJ (cK (b := false) (v := (.bool (decide (((x66.length : Int) : Int) ≤ a.c)))) (congrArg Value.bool Bf) rfl) (uS ?_))))))
 replace h := h.iO 5 12 rfl rfl (by decide) (aI Xx).2 e72 rfl
 refine az ?_
 exact bU (decide (((x66.length : Int) : Int) ≤ a.c)) ⟨h.cn _, hs⟩
 refine ai (ag (ae (ak pz rfl) (ae (aD h 8 rfl aZ rfl rfl) (ae (bJ rfl rfl) (ah (aa (aN hs rfl (fun c76 hs => ?_) (fun c76 hs => ?_))))))))
 refine ag (ae (ak kv rfl) (ae (aD h 8 rfl aZ rfl rfl) (ae (aj (v := (.int .i64 (a.a))) rfl) (ah (az ?_)))))
 exact bU a.a ⟨h.cn _, hs⟩
 refine aG (az ?_)
 exact bU a.b ⟨h.cn _, hs⟩
def sO (J2 : (List Int × List (Int × Bool)) → Option (List Int × Int)) (wu : List Int) (yQ : List (Int × Bool)) : Option (List Int × Int) :=
  J2 (wu, yQ)
def sP (IL : (List Int × List (Int × Bool)) → Option (List Int × Int)) (Nf : List Int) (D5 : List (Int × Bool)) : Option (List Int × Int) :=
  IL (Nf, D5)
def ng (tL : Val) (s : List Int × List (Int × Bool)) (IL : List Int × List (Int × Bool) → Option (List Int × Int)) : Option (List Int × Int) :=
  match s with | (gN, oI) => bif (decide ((tL.kind : Int) = 2) && (!((lk tL.n oI).getD false))) then ib (Room 8 gN [tL.n]) (sP IL (gN ++ [tL.n]) (yL tL.n true oI)) else sP IL gN oI
def ni (Gq : Int) (Lf : (Int × List Int × List (Int × Bool)) → Option (List Int × Int)) (s : List Int × List (Int × Bool)) : Option (List Int × Int) :=
  match s with | (gN, oI) => ib (jO (Gq + 1)) (Lf ((Gq + 1), gN, oI))
def lH (a : List (List Val)) (s : Int × List Int × List (Int × Bool)) (Lf : Int × List Int × List (Int × Bool) → Option (List Int × Int)) : Option (List Int × Int) :=
  match s with | (Gq, AJ, wK) => bif decide ((Gq : Int) < (AJ.length : Int)) then (idx AJ Gq).bind fun x79 => (idx a x79).bind fun x87 => each ng (ni Gq Lf) x87 (AJ, wK) else some (AJ, 0)
def p9 (r9 : Val) (s : List Int × List (Int × Bool)) (J2 : List Int × List (Int × Bool) → Option (List Int × Int)) : Option (List Int × Int) :=
  match s with | (y32, Me) => bif (decide ((r9.kind : Int) = 2) && (!((lk r9.n Me).getD false))) then ib (Room 8 y32 [r9.n]) (sO J2 (y32 ++ [r9.n]) (yL r9.n true Me)) else sO J2 y32 Me
def sQ (N : Nat) (a : List (List Val)) (s : List Int × List (Int × Bool)) : Option (List Int × Int) :=
  match s with | (y32, Me) => again (lH a) N (0, y32, Me)
def qa (a : List (List Val)) (x6 : Val) (s : Unit) (nx8 : Unit → Option (List Int × Int)) : Option (List Int × Int) :=
  bif decide (((df x6 (a.length : Int)) : Int) ≠ 0) then some ([], (df x6 (a.length : Int))) else nx8 ()
def nk (N : Nat) (a : List (List Val)) (b : List Val) (s : Unit) : Option (List Int × Int) :=
  each p9 (sQ N a) b ([], ([] : List (Int × Bool)))
def zb (N : Nat) (a : List (List Val)) (b : List Val) : Option (List Int × Int) :=
  bif decide (((dL a) : Int) ≠ 0) then some ([], (dL a)) else bif decide ((400 : Int) < (b.length : Int)) then some ([], 2) else each (qa a) (nk N a b) b ()
theorem J5 (N : Nat) (w0 : World) (M : BS) (hM : ∀ b, M b → b < w0.heap.size) (va : Value) (a : List (List Val)) (ha : gL (qj aM) w0 BE M va a) (vb : Value) (b : List Val) (hb : gL aM w0 BE M vb b) (r : List Int × Int) (hs : zb N a b = some r) :
    Calls Tryz.prog 48 #[va, vb] w0 (fun e w' => Grow w0 w' ∧ ∃ u0, e = .returned (.tuple #[u0, .int .i64 r.2]) ∧ ek fT 3 w' M u0 r.1 ∧ (∀ b, ob u0 b → w0.heap.size ≤ b)) := by
 refine aS (args := [va, vb]) Tryz.func48 rfl Tryz.ntmps48 (Nat.le_of_ble_eq_true rfl) ?_
 have h := SH.init hM
 replace h := h.fI 1 ha bN
 replace h := h.fI 2 hb (dn bN)
 have uw := ha.cB
 have JM := hb.cB
 refine ai (ag (ae (aj (v := (.slice none 0 0)) rfl) (ae (aj (v := (.int .i64 (0))) rfl) (ah (aa (ai (ai (ag (ae (au (v := va) rfl) (bA Ri rfl rfl (zn _ _ h.lt va a (h.iI 1 rfl) _ rfl) ?_))))))))))
 rintro _ w ⟨k1, rfl⟩
 refine ⟨_, rfl, ?_⟩
 replace h := h.grow k1
 refine ae (aj (v := (.int .i64 ((dL a)))) rfl) (ah (aa (ai (ag (ae (au (v := (.int .i64 ((dL a)))) rfl) (ae (gu rfl rfl) (ah (aa (aN hs rfl (fun c2 hs => ?_) (fun c2 hs => ?_))))))))))
 refine ai (ag (ae (au (v := (.int .i64 ((dL a)))) rfl) (ae (aj (v := (.slice none 0 0)) rfl) (ae (aj (v := (.int .i64 ((dL a)))) rfl) (ah (aa (aK (aC (Dq (v1 := (.slice none 0 0)) (v2 := (.int .i64 ((dL a)))) Tryz.results48 rfl rfl ?_)))))))))
 obtain rfl := Option.some.inj hs
 exact ⟨h.grown, _, rfl, ek.nil, l8⟩
 refine aG (aa (ai (ai (ag (ae (au (v := vb) rfl) (ae (bW bK rfl (h.iI 2 rfl)) (ae (j6 rfl rfl) (ah (aa (aN hs rfl (fun c3 hs => ?_) (fun c3 hs => ?_)))))))))))
 refine ai (ag (ae (aj (v := (.slice none 0 0)) rfl) (ae (aj (v := (.int .i64 (2))) rfl) (ah (aa (aK (aC (Dq (v1 := (.slice none 0 0)) (v2 := (.int .i64 (2))) Tryz.results48 rfl rfl ?_))))))))
 obtain rfl := Option.some.inj hs
 exact ⟨h.grown, _, rfl, ek.nil, l8⟩
 refine aG (aa (ai (ai (ag (ae (au (v := vb) rfl) (ae (bW bK rfl (h.iI 2 rfl)) (ae (au (v := (.int .i64 (0))) rfl) (ah (aa (aU (gP (σ := Nat × Int) (inl [4, 5, 8, 9, 28, 29, 30, 31, 32, 33, 34, 35, 36, 37, 38, 39]) (fun ⟨k4, i5⟩ => [(28, (.int .i64 (i5)))]) (fun ⟨k4, i5⟩ w => SH w0 M BE w (hset [(1, .sr (qj aM) va a), (2, .sr aM vb b)]) ∧ i5 = (k4 : Int) ∧ each (qa a) (nk N a b) (b.drop k4) () = some r) (fun ⟨k4, i5⟩ => b.length - k4) ⟨0, 0⟩ ⟨rfl, trivial⟩ ?_ ?_)))))))))))
 exact ⟨h.cn _, rfl, hs⟩
 rintro ⟨k4, i5⟩ w dD ⟨h, hik, hs⟩
 refine ai (ag ?_)
 refine ae (dS rfl rfl) (ah (aa ?_))
 refine ai (iJ rfl (fun e9 => ?_) (fun e9 => ?_))
 refine aG (aa ?_)
 obtain ⟨x6, e10a, e10b⟩ := gy (hik ▸ e9)
 rw [e10b, dW] at hs
 generalize hnx8 : each (qa a) (nk N a b) (b.drop (k4 + 1)) = nx8 at hs
 have e10r := gD ((h.iI 2 rfl)).cB hik e9
 refine ai (aU (ai (ag ?_)))
 obtain ⟨b12, o13, ZT, h, Xz, i11⟩ := h.xD 2 3 rfl bK rfl (iU hik) (gB hik e10a)
 obtain rfl := Xz
 refine ae (i11 _ _ _ _ _ _ _ _ _ rfl rfl) (ae (jg (k := 0) (vs := [(.int .i64 (x6.kind)), (.int .i64 (x6.n))]) h 3 rfl bV rfl rfl rfl (Nat.le_of_ble_eq_true rfl)) (bY h 4 bV fun w b16 h => dB (vs := [(.int .i64 (x6.kind)), (.int .i64 (x6.n))]) h 4 [(.int .i64 (x6.kind)), (.int .i64 (x6.n))] rfl bV rfl rfl rfl rfl rfl (ay rfl (ay rfl bg)) fun w h => ah (aa (ai (ag (ae (dE (vs := [(.int .i64 (x6.kind)), (.int .i64 (x6.n))]) h 4 rfl bV rfl rfl rfl) (ae (au (v := va) rfl) (ae (bW dZ rfl (h.iI 1 rfl)) (bA MB rfl rfl (yX _ _ h.lt x6 (a.length : Int) _ rfl) ?_)))))))))
 rintro _ w ⟨k17, rfl⟩
 refine ⟨_, rfl, ?_⟩
 replace h := h.grow k17
 refine ae (aj (v := (.int .i64 ((df x6 (a.length : Int))))) rfl) (ah (aa (ai (ag (ae (au (v := (.int .i64 ((df x6 (a.length : Int))))) rfl) (ae (gu rfl rfl) (ah (aa (aN hs rfl (fun c18 hs => ?_) (fun c18 hs => ?_))))))))))
 refine ai (ag (ae (au (v := (.int .i64 ((df x6 (a.length : Int))))) rfl) (ae (aj (v := (.slice none 0 0)) rfl) (ae (aj (v := (.int .i64 ((df x6 (a.length : Int))))) rfl) (ah (aa (aK (aH (aC (aC (aH (aC (Dq (v1 := (.slice none 0 0)) (v2 := (.int .i64 ((df x6 (a.length : Int))))) Tryz.results48 rfl rfl ?_)))))))))))))
 obtain rfl := Option.some.inj hs
 exact ⟨h.grown, _, rfl, ek.nil, l8⟩
 refine aG (aA (aa (ag (ae (dH rfl rfl e10r) (ae (au (v := (.int .i64 ((i5 + 1)))) rfl) (ah (az ?_)))))))
 subst hnx8
 exact jN ⟨k4 + 1, i5 + 1⟩ ⟨h.cn _, by omega, hs⟩ (by have := of_decide_eq_true e9; dsimp only; omega)
 rw [gz (hik ▸ e9), iw] at hs
 refine dh (aO (aO (bE (aa (ai (ag (Au h 5 fun w b19 h => pG h 6 DF fun w b20 h => fJ h 6 [(.map (some b19))] rfl DF rfl rfl rfl rfl rfl fun w h => ah (aa (ai (ag (pG h 7 uq fun w Hz h => ah (aa (ai (ag (ae (qW (c1 := []) (c2 := [(.pointer (some ⟨b20, 0, none⟩)), (.pointer (some ⟨Hz, 0, none⟩))]) rfl rfl) (ae (aj (v := (.func (.func 82) #[] #[(.pointer (some ⟨b20, 0, none⟩)), (.pointer (some ⟨Hz, 0, none⟩))])) rfl) (ah (aa (ai ?_)))))))))))))))))))
 refine ai (ag (ae (au (v := vb) rfl) (ae (bW bK rfl (h.iI 2 rfl)) (ae (au (v := (.int .i64 (0))) rfl) (ah (aa (aU ?_)))))))
 replace h := h.yF (R := fT) (E := 3) 11
 refine gP (σ := Nat × Int × Value × List Int × List (Int × Bool)) (inl [14, 44, 45, 46, 47, 48, 49, 50, 51]) (fun ⟨K9, i35, v31, y32, Me⟩ => [(44, (.int .i64 (i35)))]) (fun ⟨K9, i35, v31, y32, Me⟩ w => SH w0 M BE w (hset [(1, .sr (qj aM) va a), (2, .sr aM vb b), (5, .mp b19 (List.map (fun p => (p.1, (fun x => Value.bool x) p.2)) Me)), (6, .blk b20 [(.map (some b19))]), (7, .blk Hz [v31]), (11, .own fT 3 v31 y32)]) ∧ i35 = (K9 : Int) ∧ each p9 (sQ N a) (b.drop K9) (y32, Me) = some r) (fun ⟨K9, i35, v31, y32, Me⟩ => b.length - K9) ⟨0, 0, (.slice none 0 0), [], ([] : List (Int × Bool))⟩ ⟨rfl, trivial⟩ ?_ ?_
 exact ⟨h.cn _, rfl, hs⟩
 rintro ⟨K9, i35, v31, y32, Me⟩ w dD ⟨h, hik, hs⟩
 refine ai (ag ?_)
 refine ae (dS rfl rfl) (ah (aa ?_))
 refine ai (iJ rfl (fun e39 => ?_) (fun e39 => ?_))
 refine aG (aa ?_)
 obtain ⟨r9, Xu, Xv⟩ := gy (hik ▸ e39)
 rw [Xv, dW] at hs
 generalize Sc : each p9 (sQ N a) (b.drop (K9 + 1)) = J2 at hs
 have Xw := gD ((h.iI 2 rfl)).cB hik e39
 refine cz (σ := Value × List Int × List (Int × Bool)) (inl [14, 46, 47, 48, 49, 50]) (fun ⟨v41, wu, yQ⟩ => []) (fun ⟨v41, wu, yQ⟩ w => SH w0 M BE w (hset [(1, .sr (qj aM) va a), (2, .sr aM vb b), (5, .mp b19 (List.map (fun p => (p.1, (fun x => Value.bool x) p.2)) yQ)), (6, .blk b20 [(.map (some b19))]), (7, .blk Hz [v41]), (11, .own fT 3 v41 wu)]) ∧ sO J2 wu yQ = some r) ?_ ?_
 rintro ⟨v41, wu, yQ⟩ w dD ⟨h, hs⟩
 refine ag (ae (dH rfl rfl Xw) (ae (au (v := (.int .i64 ((i35 + 1)))) rfl) (ah (az ?_))))
 subst Sc
 exact jN ⟨K9 + 1, i35 + 1, v41, wu, yQ⟩ ⟨h.cn _, by omega, hs⟩ (by have := of_decide_eq_true e39; dsimp only; omega)
 refine aU (ai (ag ?_))
 obtain ⟨TN, o46, cs47, h, r48, i44⟩ := h.xD 2 12 rfl bK rfl (iU hik) (gB hik Xu)
 obtain rfl := r48
 refine ae (i44 _ _ _ _ _ _ _ _ _ rfl rfl) (ae (jg (k := 0) (vs := [(.int .i64 (r9.kind)), (.int .i64 (r9.n))]) h 12 rfl bV rfl rfl rfl (Nat.le_of_ble_eq_true rfl)) (bY h 13 bV fun w b49 h => dB (vs := [(.int .i64 (r9.kind)), (.int .i64 (r9.n))]) h 13 [(.int .i64 (r9.kind)), (.int .i64 (r9.n))] rfl bV rfl rfl rfl rfl rfl (ay rfl (ay rfl bg)) fun w h => ah (aa (ag (ae (au (v := (.func (.func 82) #[] #[(.pointer (some ⟨b20, 0, none⟩)), (.pointer (some ⟨Hz, 0, none⟩))])) rfl) (ae (dE (vs := [(.int .i64 (r9.kind)), (.int .i64 (r9.n))]) h 13 rfl bV rfl rfl rfl) (jE (args := [(.agg #[(.int .i64 (r9.kind)), (.int .i64 (r9.n))]), (.pointer (some ⟨b20, 0, none⟩)), (.pointer (some ⟨Hz, 0, none⟩))]) Rj rfl rfl (aS (args := [(.agg #[(.int .i64 (r9.kind)), (.int .i64 (r9.n))]), (.pointer (some ⟨b20, 0, none⟩)), (.pointer (some ⟨Hz, 0, none⟩))]) Tryz.func82 rfl Tryz.ntmps82 (Nat.le_of_ble_eq_true rfl) (ai (ag (oD (cs := [(.int .i64 (r9.kind)), (.int .i64 (r9.n))]) h 14 rfl rfl fun w b50 h => ah (aa (ai (ag (ae (ak nP rfl) (ae (aD h 14 rfl aZ rfl rfl) (ae (bJ rfl rfl) (ae (au (v := (.bool (decide ((r9.kind : Int) = 2)))) rfl) (aF rfl rfl (fun q => aD h 6 rfl DF rfl rfl) (aF rfl rfl (fun q => ak gM rfl) ?_))))))))))))))))))))
 refine aF rfl rfl (fun q => aD h 14 rfl aZ (dA q) rfl) (aF rfl rfl (fun q => Vm (f := (fun x => Value.bool x)) (zz := false) Me h 5 rfl CL (dA q) (dA q) rfl rfl) (aF rfl rfl (fun q => gZ (dA q)) (ae (fV rfl rfl ma) (ah (aa (aN hs rfl (fun c51 hs => ?_) (fun c51 hs => ?_)))))))
 refine ai (ag (ae (aD h 6 rfl DF rfl rfl) (ae (ak gM rfl) (ae (aD h 14 rfl aZ rfl rfl) (zG (o8 := (List.map (fun p => (p.1, (fun x => Value.bool x) p.2)) (yL r9.n true Me))) h 5 rfl CL rfl rfl rfl (Az (f := (fun x => Value.bool x)) _) fun w h => ah (aa (ag (ae (aD h 7 rfl uq rfl rfl) (ae (ak gM rfl) (ae (aD h 14 rfl aZ rfl rfl) (tJ (R := fT) (vs := [(.int .i64 (r9.n))]) (xs := [r9.n]) h 15 kK rfl rfl rfl ⟨rfl, trivial⟩ rfl fun w Vu h => ?_)))))))))))
 obtain ⟨a53, hs⟩ := bM hs
 refine mO (R := fT) (m := [r9.n]) h 11 rfl (h.eF 15 rfl) kK rfl rfl rfl a53.1 a53.2 fun w R6 h => fJ h 7 [R6] rfl uq rfl rfl rfl rfl (h.dJ 11 rfl).one fun w h => ah (Ih Tryz.results82 (⟨_, rfl, ?_⟩))
 refine ah (aA (az ?_))
 exact bU (R6, (y32 ++ [r9.n]), (yL r9.n true Me)) ⟨h.cn _, hs⟩
 refine aG (Ih Tryz.results82 (⟨_, rfl, ?_⟩))
 refine ah (aA (az ?_))
 exact bU (v31, y32, Me) ⟨h.cn _, hs⟩
 rw [gz (hik ▸ e39), iw] at hs
 refine dh (aO (aO (bE (aa (ai (ai (ag (ae (aj (v := (.int .i64 (0))) rfl) (ah (aa (aU (gP (σ := Nat × Int × Value × List Int × List (Int × Bool)) (inl [15, 17, 52, 53, 54, 55, 56, 57, 58, 59, 60, 61, 62, 63, 64, 65, 66, 67, 68, 69, 70, 71, 72, 73]) (fun ⟨Xy, Gq, v68, AJ, wK⟩ => [(15, (.int .i64 (Gq)))]) (fun ⟨Xy, Gq, v68, AJ, wK⟩ w => SH w0 M BE w (hset [(1, .sr (qj aM) va a), (5, .mp b19 (List.map (fun p => (p.1, (fun x => Value.bool x) p.2)) wK)), (6, .blk b20 [(.map (some b19))]), (7, .blk Hz [v68]), (11, .own fT 3 v68 AJ)]) ∧ again (lH a) Xy (Gq, AJ, wK) = some r) (fun ⟨Xy, Gq, v68, AJ, wK⟩ => Xy) ⟨N, 0, v31, y32, Me⟩ ⟨rfl, trivial⟩ ?_ ?_))))))))))))
 exact ⟨h.cn _, hs⟩
 rintro ⟨Xy, Gq, v68, AJ, wK⟩ w dD ⟨h, hs⟩
 obtain ⟨ZU, m74e, m74h⟩ := rf hs
 subst m74e
 replace hs := m74h
 generalize ZV : again (lH a) ZU = Lf at hs
 refine ai (ai (ag (ae (au (v := (.int .i64 (Gq))) rfl) (ae (aD h 7 rfl uq rfl rfl) (ae (bW dC rfl (h.eF 11 rfl)) (ae (dS rfl rfl) (ah (aa (aN hs rfl (fun c78 hs => ?_) (fun c78 hs => ?_))))))))))
 refine aG (aa (ai (aU (ai (ag (ae (au (v := va) rfl) (ae (aD h 7 rfl uq rfl rfl) (ae (au (v := (.int .i64 (Gq))) rfl) ?_))))))))
 obtain ⟨x79, XA, hs⟩ := aQ hs
 obtain ⟨b82, q83, i81⟩ := h.uR 11 rfl dC rfl (aI XA).1 (aI XA).2
 refine ae (i81 _ _ _ _ _ _ _ _ _ rfl rfl) ?_
 obtain ⟨cs84, m85, r86⟩ := h.xc 11 rfl q83 (aI XA).2
 obtain rfl := r86
 refine ae (oC (k := 0) m85 aZ rfl rfl) ?_
 obtain ⟨x87, XB, hs⟩ := aQ hs
 obtain ⟨b90, o91, cs92, h, r93, i89⟩ := h.xD 1 16 rfl dZ rfl (aI XB).1 (aI XB).2
 obtain ⟨u94, rfl, g95⟩ := r93
 replace h := h.di 17 g95.up
 refine ae (i89 _ _ _ _ _ _ _ _ _ rfl rfl) (ae (eO (k := 0) h 16 rfl kg rfl rfl) (ae (bW bK rfl (h.mH 17 rfl)) (ae (au (v := (.int .i64 (0))) rfl) (ah (aa (aU (gP (σ := Nat × Int × Value × List Int × List (Int × Bool)) (inl [17, 66, 67, 68, 69, 70, 71, 72, 73]) (fun ⟨HY, i109, v105, gN, oI⟩ => [(66, (.int .i64 (i109)))]) (fun ⟨HY, i109, v105, gN, oI⟩ w => SH w0 M BE w (hset [(1, .sr (qj aM) va a), (5, .mp b19 (List.map (fun p => (p.1, (fun x => Value.bool x) p.2)) oI)), (6, .blk b20 [(.map (some b19))]), (7, .blk Hz [v105]), (11, .own fT 3 v105 gN), (17, .rd aM u94 x87)]) ∧ i109 = (HY : Int) ∧ each ng (ni Gq Lf) (x87.drop HY) (gN, oI) = some r) (fun ⟨HY, i109, v105, gN, oI⟩ => x87.length - HY) ⟨0, 0, v68, AJ, wK⟩ ⟨rfl, trivial⟩ ?_ ?_)))))))
 exact ⟨h.cn _, rfl, hs⟩
 rintro ⟨HY, i109, v105, gN, oI⟩ w dD ⟨h, hik, hs⟩
 refine ai (ag ?_)
 refine ae (dS rfl rfl) (ah (aa ?_))
 refine ai (iJ rfl (fun Su => ?_) (fun Su => ?_))
 refine aG (aa ?_)
 obtain ⟨tL, ZW, ZX⟩ := gy (hik ▸ Su)
 rw [ZX, dW] at hs
 generalize XC : each ng (ni Gq Lf) (x87.drop (HY + 1)) = IL at hs
 have ZY := gD ((h.mH 17 rfl)).cB hik Su
 refine cz (σ := Value × List Int × List (Int × Bool)) (inl [17, 68, 69, 70, 71, 72]) (fun ⟨Sv, Nf, D5⟩ => []) (fun ⟨Sv, Nf, D5⟩ w => SH w0 M BE w (hset [(1, .sr (qj aM) va a), (5, .mp b19 (List.map (fun p => (p.1, (fun x => Value.bool x) p.2)) D5)), (6, .blk b20 [(.map (some b19))]), (7, .blk Hz [Sv]), (11, .own fT 3 Sv Nf), (17, .rd aM u94 x87)]) ∧ sP IL Nf D5 = some r) ?_ ?_
 rintro ⟨Sv, Nf, D5⟩ w dD ⟨h, hs⟩
 refine ag (ae (dH rfl rfl ZY) (ae (au (v := (.int .i64 ((i109 + 1)))) rfl) (ah (az ?_))))
 subst XC
 exact jN ⟨HY + 1, i109 + 1, Sv, Nf, D5⟩ ⟨h.cn _, by omega, hs⟩ (by have := of_decide_eq_true Su; dsimp only; omega)
 refine aU (ai (ag ?_))
 obtain ⟨b119, o120, cs121, h, r122, i118⟩ := h.Dm 17 18 rfl bK rfl (iU hik) (gB hik ZW)
 obtain rfl := r122
 refine ae (i118 _ _ _ _ _ _ _ _ _ rfl rfl) (ae (jg (k := 0) (vs := [(.int .i64 (tL.kind)), (.int .i64 (tL.n))]) h 18 rfl bV rfl rfl rfl (Nat.le_of_ble_eq_true rfl)) (bY h 19 bV fun w b123 h => dB (vs := [(.int .i64 (tL.kind)), (.int .i64 (tL.n))]) h 19 [(.int .i64 (tL.kind)), (.int .i64 (tL.n))] rfl bV rfl rfl rfl rfl rfl (ay rfl (ay rfl bg)) fun w h => ah (aa (ag (ae (au (v := (.func (.func 82) #[] #[(.pointer (some ⟨b20, 0, none⟩)), (.pointer (some ⟨Hz, 0, none⟩))])) rfl) (ae (dE (vs := [(.int .i64 (tL.kind)), (.int .i64 (tL.n))]) h 19 rfl bV rfl rfl rfl) (jE (args := [(.agg #[(.int .i64 (tL.kind)), (.int .i64 (tL.n))]), (.pointer (some ⟨b20, 0, none⟩)), (.pointer (some ⟨Hz, 0, none⟩))]) Rj rfl rfl (aS (args := [(.agg #[(.int .i64 (tL.kind)), (.int .i64 (tL.n))]), (.pointer (some ⟨b20, 0, none⟩)), (.pointer (some ⟨Hz, 0, none⟩))]) Tryz.func82 rfl Tryz.ntmps82 (Nat.le_of_ble_eq_true rfl) (ai (ag (oD (cs := [(.int .i64 (tL.kind)), (.int .i64 (tL.n))]) h 20 rfl rfl fun w b124 h => ah (aa (ai (ag (ae (ak nP rfl) (ae (aD h 20 rfl aZ rfl rfl) (ae (bJ rfl rfl) (ae (au (v := (.bool (decide ((tL.kind : Int) = 2)))) rfl) (aF rfl rfl (fun q => aD h 6 rfl DF rfl rfl) (aF rfl rfl (fun q => ak gM rfl) ?_))))))))))))))))))))
 refine aF rfl rfl (fun q => aD h 20 rfl aZ (dA q) rfl) (aF rfl rfl (fun q => Vm (f := (fun x => Value.bool x)) (zz := false) oI h 5 rfl CL (dA q) (dA q) rfl rfl) (aF rfl rfl (fun q => gZ (dA q)) (ae (fV rfl rfl ma) (ah (aa (aN hs rfl (fun qZ hs => ?_) (fun qZ hs => ?_)))))))
 refine ai (ag (ae (aD h 6 rfl DF rfl rfl) (ae (ak gM rfl) (ae (aD h 20 rfl aZ rfl rfl) (zG (o8 := (List.map (fun p => (p.1, (fun x => Value.bool x) p.2)) (yL tL.n true oI))) h 5 rfl CL rfl rfl rfl (Az (f := (fun x => Value.bool x)) _) fun w h => ah (aa (ag (ae (aD h 7 rfl uq rfl rfl) (ae (ak gM rfl) (ae (aD h 20 rfl aZ rfl rfl) (tJ (R := fT) (vs := [(.int .i64 (tL.n))]) (xs := [tL.n]) h 21 kK rfl rfl rfl ⟨rfl, trivial⟩ rfl fun w u126 h => ?_)))))))))))
 obtain ⟨a127, hs⟩ := bM hs
 refine mO (R := fT) (m := [tL.n]) h 11 rfl (h.eF 21 rfl) kK rfl rfl rfl a127.1 a127.2 fun w ZZ h => fJ h 7 [ZZ] rfl uq rfl rfl rfl rfl (h.dJ 11 rfl).one fun w h => ah (Ih Tryz.results82 (⟨_, rfl, ?_⟩))
 refine ah (aA (az ?_))
 exact bU (ZZ, (gN ++ [tL.n]), (yL tL.n true oI)) ⟨h.cn _, hs⟩
 refine aG (Ih Tryz.results82 (⟨_, rfl, ?_⟩))
 refine ah (aA (az ?_))
 exact bU (v105, gN, oI) ⟨h.cn _, hs⟩
 rw [gz (hik ▸ Su), iw] at hs
 refine dh (aO (aO (bE (aA (aa (ag (ae (au (v := (.int .i64 (Gq))) rfl) ?_)))))))
 obtain ⟨a129, hs⟩ := bM hs
 refine ae (dH rfl rfl a129) (ae (aj (v := (.int .i64 ((Gq + 1)))) rfl) (ah (az ?_)))
 subst ZV
 exact jN ⟨ZU, (Gq + 1), v105, gN, oI⟩ ⟨h.cn _, hs⟩
 refine dh (aO (aO (bE (aa (ai (ag (ae (aD h 7 rfl uq rfl rfl) (ae (aj (v := v68) rfl) (ae (aj (v := (.int .i64 (0))) rfl) (ah (aa (aK (Dq (v1 := v68) (v2 := (.int .i64 (0))) Tryz.results48 rfl rfl ?_)))))))))))))
 obtain rfl := Option.some.inj hs
 exact ⟨h.grown, _, rfl, (h.mP 11 rfl).1, (h.mP 11 rfl).2⟩
def AZ (Fx : List Val → Option (List Val)) (wo : List Val) : Option (List Val) :=
  Fx wo
def A7 (mL : List (Int × Int)) (i6 : Int) (x4 : List Val) (Fx : List Val → Option (List Val)) : Option (List Val) :=
  (idx x4 i6).bind fun CX => bif decide ((CX.kind : Int) = 2) then AZ Fx (x4.set (i6).toNat { CX with n := ((lk CX.n mL).getD (0 : Int)) }) else AZ Fx x4
def D6 (x4 : List Val) : Option (List Val) :=
  some x4
def Gr (sx : List Val) (mL : List (Int × Int)) : Option (List Val) :=
  upto (A7 mL) D6 0 ((sx.length : Int)).toNat sx
theorem Lg (w0 : World) (M : BS) (hM : ∀ b, M b → b < w0.heap.size) (bq bm : Nat) (sv : Value) (sx : List Val) (hC : Chunk.holds w0 M (Chunk.own' (.own aM 51 sv sx : Chunk)) (.own aM 51 sv sx : Chunk)) (hap : ∀ b, Chunk.own' (.own aM 51 sv sx : Chunk) b → ¬ M b) (mL : List (Int × Int)) (hbm : vv w0 bm (List.map (fun p => (p.1, (fun x => Value.int .i64 x) p.2)) mL)) (nbm : ¬ Chunk.own' (.own aM 51 sv sx : Chunk) bm) (hbq : ∃ E, w0.heap[bq]? = some (.cells #[(.map (some bm))] E (0, 0))) (nbq : ¬ Chunk.own' (.own aM 51 sv sx : Chunk) bq) (r : List Val) (hs : Gr sx mL = some r) :
    Calls Tryz.prog 50 #[sv, (.pointer (some ⟨bq, 0, none⟩))] w0 (fun e w' => aL (Chunk.own' (.own aM 51 sv sx : Chunk)) w0 w' ∧ e = .returned (.tuple #[]) ∧ Chunk.holds w' M (Chunk.own' (.own aM 51 sv r : Chunk)) (.own aM 51 sv r : Chunk) ∧ (∀ b, Chunk.own' (.own aM 51 sv r : Chunk) b → b < w0.heap.size → Chunk.own' (.own aM 51 sv sx : Chunk) b)) := by
 refine aS (args := [sv, (.pointer (some ⟨bq, 0, none⟩))]) Tryz.func50 rfl Tryz.ntmps50 (Nat.le_of_ble_eq_true rfl) ?_
 have h := SH.EJ hM hC hap
 replace h := h.yK 3 (cs := [(.map (some bm))]) hbq nbq zo
 have nbqK := nbq
 have Z0 := nbm
 generalize zt : (.own aM 51 sv sx : Chunk).own' = K0 at h nbqK Z0
 refine ai (ag (ae (au (v := sv) rfl) (ae (bW bK rfl (h.eF 1 rfl)) (ae (au (v := (.int .i64 (0))) rfl) (ah (aa (aU ?_)))))))
 have hli6 := (h.eF 1 rfl).cB
 refine gP (σ := Nat × Int × List Val) (inl [3, 4, 7, 8, 9, 10, 11, 12, 13, 14, 15, 16, 17, 18, 19, 20, 21, 22, 23]) (fun ⟨k5, i6, x4⟩ => [(7, (.int .i64 (i6)))]) (fun ⟨k5, i6, x4⟩ w => SH w0 M K0 w (hset [(1, .own aM 51 sv x4), (2, .no), (3, .pt bq 0 [(.map (some bm))])]) ∧ i6 = (k5 : Int) ∧ upto (A7 mL) D6 i6 (((sx.length : Int)).toNat - k5) x4 = some r) (fun ⟨k5, i6, x4⟩ => ((sx.length : Int)).toNat - k5) ⟨0, 0, sx⟩ ⟨rfl, trivial⟩ ?_ ?_
 exact ⟨h.cn _, rfl, hs⟩
 rintro ⟨k5, i6, x4⟩ w dD ⟨h, hik, hs⟩
 refine ai (ag ?_)
 refine ae (dS rfl rfl) (ah (aa ?_))
 refine ai (iJ rfl (fun e10 => ?_) (fun e10 => ?_))
 refine aG (aa ?_)
 rw [tT (by have := of_decide_eq_true e10; omega)] at hs
 generalize Rx : upto (A7 mL) D6 (i6 + 1) (((sx.length : Int)).toNat - (k5 + 1)) = Fx at hs
 have Ry : jO (i6 + 1) := (by have := of_decide_eq_true e10; have := hli6; exact jO.mk (by omega) (by omega))
 refine cz (σ := List Val) (inl [3, 4, 9, 10, 11, 12, 13, 14, 15, 16, 17, 18, 19, 20, 21, 22]) (fun wo => []) (fun wo w => SH w0 M K0 w (hset [(1, .own aM 51 sv wo), (2, .no), (3, .pt bq 0 [(.map (some bm))])]) ∧ AZ Fx wo = some r) ?_ ?_
 rintro wo w dD ⟨h, hs⟩
 refine ag (ae (dH rfl rfl Ry) (ae (au (v := (.int .i64 ((i6 + 1)))) rfl) (ah (az ?_))))
 subst Rx
 exact jN ⟨k5 + 1, i6 + 1, wo⟩ ⟨h.cn _, by omega, hs⟩ (by have := of_decide_eq_true e10; dsimp only; omega)
 refine aU (ai (ag (ae (au (v := (.int .i64 (i6))) rfl) ?_)))
 obtain ⟨CX, e14, hs⟩ := aQ hs
 obtain ⟨b16, q17, i15⟩ := h.uR 1 rfl bK rfl (aI e14).1 (aI e14).2
 refine ae (i15 _ _ _ _ _ _ _ _ _ rfl rfl) ?_
 obtain ⟨cs18, m19, RO⟩ := h.xc 1 rfl q17 (aI e14).2
 obtain rfl := RO
 refine ae (mM (k := 0) (vs := [(.int .i64 (CX.kind)), (.int .i64 (CX.n))]) m19 bV rfl rfl rfl (Nat.le_of_ble_eq_true rfl)) (bY h 4 bV fun w Hz h => ae (aj (v := (.int .i64 (i6))) rfl) (dB (vs := [(.int .i64 (CX.kind)), (.int .i64 (CX.n))]) h 4 [(.int .i64 (CX.kind)), (.int .i64 (CX.n))] rfl bV rfl rfl rfl rfl rfl (ay rfl (ay rfl bg)) fun w h => ah (aa (ai (ag (ae (ak nP rfl) (ae (aD h 4 rfl aZ rfl rfl) (ae (bJ rfl rfl) (ah (aa (aN hs rfl (fun c22 hs => ?_) (fun c22 hs => ?_))))))))))))
 refine ag (ae (au (v := sv) rfl) (ae (au (v := (.int .i64 (i6))) rfl) (ae (eO (k := 0) h 3 rfl Om rfl rfl) (ae (ak gM rfl) (ae (aD h 4 rfl aZ rfl rfl) (ae (Wn (f := (fun x => Value.int .i64 x)) (zz := (0 : Int)) mL ((hbm).keep h.keep Z0) Ol rfl rfl rfl) ?_))))))
 obtain ⟨Yg, q25, i23⟩ := h.uR 1 rfl bK rfl (aI e14).1 (aI e14).2
 refine ae (i23 _ _ _ _ _ _ _ _ _ rfl rfl) (ae (ak gM rfl) (Ij (a' := { CX with n := ((lk CX.n mL).getD (0 : Int)) }) h 1 rfl q25 rfl (aI e14).2 aZ rfl rfl rfl rfl (by rintro _ rfl; rfl) fun w h => ah (aA (az ?_))))
 exact bU (x4.set (i6).toNat { CX with n := ((lk CX.n mL).getD (0 : Int)) }) ⟨h.cn _, hs⟩
 refine aG (aA (az ?_))
 exact bU x4 ⟨h.cn _, hs⟩
 rw [tV (by have := of_decide_eq_false e10; omega)] at hs
 refine dh (aO (aO (bE (Ih Tryz.results50 ?_))))
 obtain rfl := Option.some.inj hs
 subst zt
 obtain ⟨o1, o2, o3⟩ := h.qD 1 (C := (.own aM 51 sv x4 : Chunk)) rfl trivial
 exact ⟨o2, rfl, o1, o3⟩
def uN (yD : List (Int × Int)) (i127 : Int) (CY : List (List Val)) (VB : List (List Val) → Option LX.State) : Option LX.State :=
  (idx CY i127).bind fun BD => (Gr BD yD).bind fun Sw => VB (CY.set (i127).toNat Sw)
def vL (DJ : List LX.Frame) (tu : LX.State) (CY : List (List Val)) : Option LX.State :=
  some (⟨DJ, CY, tu.status, tu.aV⟩ : LX.State)
def sS (yD : List (Int × Int)) (i99 : Int) (DJ : List LX.Frame) (VC : List LX.Frame → Option LX.State) : Option LX.State :=
  (idx DJ i99).bind fun x105 => (Gr x105.regs yD).bind fun D5 => VC (DJ.set (i99).toNat ({ x105 with regs := D5 }))
def vM (yD : List (Int × Int)) (tu : LX.State) (pV : List (List Val)) (DJ : List LX.Frame) : Option LX.State :=
  upto (uN yD) (vL DJ tu) 0 ((pV.length : Int)).toNat pV
def oq (tu : LX.State) (i67 : Int) (Kk : Int) (s : List (List Val) × List Int × List (Int × Int)) (Z4 : List (List Val) × List Int × List (Int × Int) → Option LX.State) : Option LX.State :=
  match s with | (pV, Hq, yD) => (idx tu.cells Kk).bind fun VD => ib (Kk ∉ Hq) (ib (Room 24 pV [VD]) (Z4 ((pV ++ [VD]), (Hq ++ [Kk]), (yL Kk i67 yD))))
def qz (tu : LX.State) (s : List (List Val) × List Int × List (Int × Int)) : Option LX.State :=
  match s with | (pV, Hq, yD) => upto (sS yD) (vM yD tu pV) 0 ((tu.frames.length : Int)).toNat tu.frames
def qA (CX : LX.Frame) (zw : List Val) (Z5 : List Val → Option LX.State) : Option LX.State :=
  ib (Room 16 zw CX.regs) (Z5 (zw ++ CX.regs))
def vN (N : Nat) (a : LX.State) (zw : List Val) : Option LX.State :=
  (zb N a.cells zw).bind fun y28 => bif decide ((y28.2 : Int) ≠ 0) then none else (za a).bind fun tu => dU (oq tu) (qz tu) 0 y28.1 ([], ([] : List Int), ([] : List (Int × Int)))
def yh (N : Nat) (a : LX.State) : Option LX.State :=
  each qA (vN N a) a.frames []
theorem BO (N : Nat) (w0 : World) (M : BS) (hM : ∀ b, M b → b < w0.heap.size) (a : LX.State) (Co CV : Value) (ha0 : gL fo w0 BE M Co a.frames) (ha1 : gL (qj aM) w0 BE M CV a.cells) (r : LX.State) (hs : yh N a = some r) :
    Calls Tryz.prog 20 #[(.agg #[Co, CV, (.int .i64 (a.status)), (.int .i64 (a.aV))])] w0 (fun e w' => Grow w0 w' ∧ ∃ wz, ∃ zx, ∃ yc, ∃ DY, e = .returned (.agg #[wz, zx, .int .i64 r.status, .int .i64 r.aV]) ∧ Chunk.holds w' M (Chunk.own' ((.two (.two (.two (.own aB.raw 49 wz (List.zip r.frames yc)) (.bL (aR aM 51 hn yc (List.map aB.sub r.frames)))) (.own (aT Val).raw 47 zx (List.zip r.cells DY))) (.bL (aR aM 51 hn DY (List.map (aT Val).sub r.cells)))) : Chunk)) ((.two (.two (.two (.own aB.raw 49 wz (List.zip r.frames yc)) (.bL (aR aM 51 hn yc (List.map aB.sub r.frames)))) (.own (aT Val).raw 47 zx (List.zip r.cells DY))) (.bL (aR aM 51 hn DY (List.map (aT Val).sub r.cells)))) : Chunk) ∧ (∀ b, Chunk.own' ((.two (.two (.two (.own aB.raw 49 wz (List.zip r.frames yc)) (.bL (aR aM 51 hn yc (List.map aB.sub r.frames)))) (.own (aT Val).raw 47 zx (List.zip r.cells DY))) (.bL (aR aM 51 hn DY (List.map (aT Val).sub r.cells)))) : Chunk) b → w0.heap.size ≤ b)) := by
 refine aS (args := [(.agg #[Co, CV, (.int .i64 (a.status)), (.int .i64 (a.aV))])]) Tryz.func20 rfl Tryz.ntmps20 (Nat.le_of_ble_eq_true rfl) ?_
 have h := SH.init hM
 replace h := h.fI 1 ha0 bN
 replace h := h.fI 2 ha1 (dn bN)
 refine ai (ag (oD (cs := [Co, CV, (.int .i64 (a.status)), (.int .i64 (a.aV))]) h 3 rfl rfl fun w b1 h => bY h 4 dw fun w b2 h => ah (aa (ai (ag (ae (aj (v := (.slice none 0 0)) rfl) (ah (aa (ai (ai (ag (ae (ak dY rfl) (ae (aD h 3 rfl iR rfl rfl) (ae (bW dm rfl (h.iI 1 rfl)) (ae (au (v := (.int .i64 (0))) rfl) (ah (aa (aU ?_))))))))))))))))))
 replace h := h.yF (R := aM) (E := 51) 8
 refine gP (σ := Nat × Int × Value × List Val) (inl [3, 5, 20, 21, 22, 23, 24, 25, 26, 27, 28]) (fun ⟨k11, i12, v9, zw⟩ => [(3, v9), (20, (.int .i64 (i12)))]) (fun ⟨k11, i12, v9, zw⟩ w => SH w0 M BE w (hset [(1, .sr fo Co a.frames), (2, .sr (qj aM) CV a.cells), (3, .blk b1 [Co, CV, (.int .i64 (a.status)), (.int .i64 (a.aV))]), (4, .blk b2 [(.slice none 0 0), (.slice none 0 0), (.int .i64 (0)), (.int .i64 (0))]), (8, .own aM 51 v9 zw)]) ∧ i12 = (k11 : Int) ∧ each qA (vN N a) (a.frames.drop k11) zw = some r) (fun ⟨k11, i12, v9, zw⟩ => a.frames.length - k11) ⟨0, 0, (.slice none 0 0), []⟩ ⟨rfl, rfl, trivial⟩ ?_ ?_
 exact ⟨h.cn _, rfl, hs⟩
 rintro ⟨k11, i12, v9, zw⟩ w dD ⟨h, hik, hs⟩
 refine ai (ag ?_)
 refine ae (dS rfl rfl) (ah (aa ?_))
 refine ai (iJ rfl (fun e16 => ?_) (fun e16 => ?_))
 refine aG (aa ?_)
 obtain ⟨CX, e17a, e17b⟩ := gy (hik ▸ e16)
 rw [e17b, dW] at hs
 generalize Z6 : each qA (vN N a) (a.frames.drop (k11 + 1)) = Z5 at hs
 have e17r := gD ((h.iI 1 rfl)).cB hik e16
 refine ai (aU (ai (ag ?_)))
 obtain ⟨b19, o20, XD, h, XE, i18⟩ := h.xD 1 9 rfl dm rfl (iU hik) (gB hik e17a)
 obtain ⟨u23, rfl, g24⟩ := ry XE
 replace h := h.di 10 g24.up
 refine ae (i18 _ _ _ _ _ _ _ _ _ rfl rfl) (ae (jg (k := 0) (vs := [(.int .i64 (CX.proc)), (.int .i64 (CX.at_)), u23, (.int .i64 (CX.kG))]) h 9 rfl iy rfl rfl rfl (Nat.le_of_ble_eq_true rfl)) (bY h 11 iy fun w b25 h => dB (vs := [(.int .i64 (CX.proc)), (.int .i64 (CX.at_)), u23, (.int .i64 (CX.kG))]) h 11 [(.int .i64 (CX.proc)), (.int .i64 (CX.at_)), u23, (.int .i64 (CX.kG))] rfl iy rfl rfl rfl rfl rfl (ay rfl (ay rfl (ay (h.iq 10 rfl).one (ay rfl bg)))) fun w h => ah (aa (ag (ae (au (v := v9) rfl) (ae (ak jW rfl) (ae (aD h 11 rfl kg rfl rfl) ?_)))))))
 obtain ⟨a26, hs⟩ := bM hs
 refine mO (R := aM) (m := CX.regs) h 8 rfl (h.mH 10 rfl) uk rfl rfl rfl a26.1 a26.2 fun w u27 h => ae (aj (v := u27) rfl) (ah (aA (aa (ag (ae (dH rfl rfl e17r) (ae (au (v := (.int .i64 ((i12 + 1)))) rfl) (ah (az ?_))))))))
 subst Z6
 exact jN ⟨k11 + 1, i12 + 1, u27, (zw ++ CX.regs)⟩ ⟨h.cn _, by omega, hs⟩ (by have := of_decide_eq_true e16; dsimp only; omega)
 rw [gz (hik ▸ e16), iw] at hs
 refine dh (aO (aO (bE (aa (ai (ag (ae (ak iW rfl) (ae (aD h 3 rfl mg rfl rfl) (ae (au (v := v9) rfl) ?_)))))))))
 obtain ⟨y28, e29, hs⟩ := aQ hs
 refine bA Wx rfl rfl (J5 N _ _ h.lt CV a.cells (h.iI 2 rfl) v9 zw (h.eF 8 rfl) _ e29) ?_
 rintro _ w ⟨TJ, u30, rfl, g31, Xt⟩
 refine ⟨_, rfl, ?_⟩
 replace h := h.kJ 12 TJ g31 Xt
 refine ae (au (v := (.tuple #[u30, (.int .i64 (y28.2))])) rfl) (ae (bF rfl rfl) (ae (bF rfl rfl) (ae (aj (v := u30) rfl) (ae (aj (v := (.int .i64 (y28.2))) rfl) (ah (aa (ai (ai (ag (ae (au (v := (.int .i64 (y28.2))) rfl) (ae (gu rfl rfl) (ah (aa (aN hs rfl (fun c34 hs => ?_) (fun c34 hs => ?_)))))))))))))))
 refine ai (ag (ae (dE (vs := [Co, CV, (.int .i64 (a.status)), (.int .i64 (a.aV))]) h 3 rfl dw rfl rfl rfl) (dB (vs := [Co, CV, (.int .i64 (a.status)), (.int .i64 (a.aV))]) h 4 [Co, CV, (.int .i64 (a.status)), (.int .i64 (a.aV))] rfl dw rfl rfl rfl rfl rfl (ay (h.OT 1 rfl).one (ay (h.OT 2 rfl).one (ay rfl (ay rfl bg)))) fun w h => ah (aa (aK (aC ?_))))))
 cases hs
 refine aG (aa (ai (ag (ae (dE (vs := [Co, CV, (.int .i64 (a.status)), (.int .i64 (a.aV))]) h 3 rfl dw rfl rfl rfl) ?_))))
 obtain ⟨tu, e36, hs⟩ := aQ hs
 refine bA JI rfl rfl (AR _ _ h.lt a Co CV (h.iI 1 rfl) (h.iI 2 rfl) _ e36) ?_
 rintro _ w ⟨k43, u37, Lh, Gs, Li, rfl, h41, h42⟩
 refine ⟨_, rfl, ?_⟩
 replace h := h.KF 13 (C := (.two (.two (.two (.own aB.raw 49 u37 (List.zip tu.frames Gs)) (.bL (aR aM 51 hn Gs (List.map aB.sub tu.frames)))) (.own (aT Val).raw 47 Lh (List.zip tu.cells Li))) (.bL (aR aM 51 hn Li (List.map (aT Val).sub tu.cells))) : Chunk)) k43 ⟨⟨⟨trivial, trivial⟩, trivial⟩, trivial⟩ h41 h42
 replace h := h.bX 13 16 (by decide) rfl rfl
 replace h := h.bX 13 15 (by decide) rfl rfl
 replace h := h.bX 13 14 (by decide) rfl rfl
 refine dB (vs := [u37, Lh, (.int .i64 (tu.status)), (.int .i64 (tu.aV))]) h 3 [u37, Lh, (.int .i64 (tu.status)), (.int .i64 (tu.aV))] rfl dw rfl rfl rfl rfl rfl (ay (h.dJ 13 rfl).one (ay (h.dJ 15 rfl).one (ay rfl (ay rfl bg)))) fun w h => ah (aa (ai (ag (Au h 17 fun w Md h => pG h 18 Om fun w TN h => fJ h 18 [(.map (some Md))] rfl Om rfl rfl rfl rfl rfl fun w h => ah (aa (ai (ag (ae (aj (v := (.slice none 0 0)) rfl) (ah (aa (ai (ai (ag (ae (au (v := u30) rfl) (ae (bW dC rfl (h.eF 12 rfl)) (ae (au (v := (.int .i64 (0))) rfl) (ah (aa (aU ?_)))))))))))))))))))
 replace h := h.freeze 12 rfl
 replace h := h.Wj 16 rfl
 replace h := h.yF (R := (aT Val).raw) (E := 47) 25
 replace h := h.We (R := aM) (Es := 51) 26
 refine gP (σ := Nat × Int × Value × List Value × List (List Val) × List Int × List (Int × Int)) (inl [9, 10, 11, 44, 45, 46, 47, 48, 49, 50, 51, 52, 53, 54, 55, 56, 57, 58, 59, 60]) (fun ⟨VE, i67, v61, D7, pV, Hq, yD⟩ => [(9, v61), (44, (.int .i64 (i67)))]) (fun ⟨VE, i67, v61, D7, pV, Hq, yD⟩ w => SH w0 M BE w (hset [(3, .blk b1 [u37, Lh, (.int .i64 (tu.status)), (.int .i64 (tu.aV))]), (4, .blk b2 [(.slice none 0 0), (.slice none 0 0), (.int .i64 (0)), (.int .i64 (0))]), (12, .rd fT u30 y28.1), (13, .own aB.raw 49 u37 (List.zip tu.frames Gs)), (14, .bL (aR aM 51 hn Gs (List.map aB.sub tu.frames))), (15, .own (aT Val).raw 47 Lh (List.zip tu.cells Li)), (16, .bL (aR aM 51 (hmv Hq) Li (List.map (aT Val).sub tu.cells))), (17, .mp Md (List.map (fun p => (p.1, (fun x => Value.int .i64 x) p.2)) yD)), (18, .blk TN [(.map (some Md))]), (25, .own (aT Val).raw 47 v61 (List.zip pV D7)), (26, .bL (aR aM 51 hn D7 (List.map (aT Val).sub pV)))]) ∧ i67 = (VE : Int) ∧ dU (oq tu) (qz tu) i67 (y28.1.drop VE) (pV, Hq, yD) = some r) (fun ⟨VE, i67, v61, D7, pV, Hq, yD⟩ => y28.1.length - VE) ⟨0, 0, (.slice none 0 0), ([] : List Value), [], ([] : List Int), ([] : List (Int × Int))⟩ ⟨rfl, rfl, trivial⟩ ?_ ?_
 exact ⟨h.cn _, rfl, hs⟩
 rintro ⟨VE, i67, v61, D7, pV, Hq, yD⟩ w dD ⟨h, hik, hs⟩
 refine ai (ag ?_)
 refine ae (dS rfl rfl) (ah (aa ?_))
 refine ai (iJ rfl (fun R7 => ?_) (fun R7 => ?_))
 refine aG (aa ?_)
 obtain ⟨Kk, e72a, e72b⟩ := gy (hik ▸ R7)
 rw [e72b, gU] at hs
 generalize Z7 : dU (oq tu) (qz tu) (i67 + 1) (y28.1.drop (VE + 1)) = Z4 at hs
 have e72r := gD ((h.mH 12 rfl)).cB hik R7
 refine ai (aU (ai (ag (ae (au (v := (.int .i64 (i67))) rfl) ?_))))
 obtain ⟨b74, o75, cs76, h, r77, i73⟩ := h.Dm 12 27 rfl dC rfl (iU hik) (gB hik e72a)
 obtain rfl := r77
 refine ae (i73 _ _ _ _ _ _ _ _ _ rfl rfl) (ae (eO (k := 0) h 27 rfl aZ rfl rfl) (ae (aj (v := (.int .i64 (i67))) rfl) (ae (aj (v := (.int .i64 (Kk))) rfl) (ah (aa (ai (ag (ae (aD h 18 rfl Om rfl rfl) (ae (au (v := (.int .i64 (Kk))) rfl) (ae (au (v := (.int .i64 (i67))) rfl) (zG (o8 := (List.map (fun p => (p.1, (fun x => Value.int .i64 x) p.2)) (yL Kk i67 yD))) h 17 rfl Ol rfl rfl rfl (Az (f := (fun x => Value.int .i64 x)) _) fun w h => ah (aa (ag (ae (au (v := v61) rfl) (ae (ak iW rfl) (ae (aD h 3 rfl mg rfl rfl) (ae (au (v := (.int .i64 (Kk))) rfl) ?_)))))))))))))))))
 obtain ⟨VD, Z8, hs⟩ := aQ hs
 obtain ⟨a83, hs⟩ := bM hs
 obtain ⟨Z9, Yl, h⟩ := h.Uh 16 28 VD rfl rfl (by decide) (aI Z8).1 (aI Z8).2 a83 rfl
 obtain ⟨b81, q82, i80⟩ := h.uR 15 rfl dZ rfl (aI Z8).1 (fe (aI Z8).2 Yl)
 refine ae (i80 _ _ _ _ _ _ _ _ _ rfl rfl) ?_
 obtain ⟨cs86, m87, r88⟩ := h.xc 15 rfl q82 (fe (aI Z8).2 Yl)
 obtain ⟨rfl, -⟩ := r88
 refine ae (oC (k := 0) m87 kg rfl rfl) ?_
 have aaa : (Value.oneCell' Z9) = true := (h.dJ 28 rfl).one
 refine tJ (R := (aT Val).raw) (vs := [Z9]) (xs := List.zip [VD] [Z9]) h 29 qK rfl rfl rfl ⟨⟨jh aaa, aaa⟩, trivial⟩ rfl fun w u89 h => ?_
 replace h := h.wQ (N := (aT Val)) 28 VD rfl rfl
 obtain ⟨a90, hs⟩ := bM hs
 have z92 := h.iK 26 rfl
 have aab := h.iK 28 rfl
 refine mO (R := (aT Val).raw) (m := List.zip [VD] [Z9]) h 25 rfl (h.eF 29 rfl) qK rfl rfl rfl (by rw [dX z92, dX aab]; exact a90.1) (by rw [dX z92, dX aab]; exact a90.2) fun w Xb h => ?_
 replace h := (h.wN 26 28 rfl rfl (by decide)).fK 29
 rw [wO z92, ← List.map_append] at h
 obtain ⟨us93, aac⟩ : ∃ z, z = D7 ++ [Z9] := ⟨_, rfl⟩
 rw [← aac] at h
 refine ae (aj (v := Xb) rfl) (ah (aA (aa (ag (ae (dH rfl rfl e72r) (ae (au (v := (.int .i64 ((i67 + 1)))) rfl) (ah (az ?_))))))))
 subst Z7
 exact jN ⟨VE + 1, i67 + 1, Xb, us93, (pV ++ [VD]), (Hq ++ [Kk]), (yL Kk i67 yD)⟩ ⟨h.cn _, by omega, hs⟩ (by have := of_decide_eq_true R7; dsimp only; omega)
 rw [gz (hik ▸ R7), kI] at hs
 refine dh (aO (aO (bE (aa (ai (ag (ae (qW (c1 := []) (c2 := [(.pointer (some ⟨TN, 0, none⟩))]) rfl rfl) (ae (aj (v := (.func (.func 50) #[] #[(.pointer (some ⟨TN, 0, none⟩))])) rfl) (ah (aa (ai (ai (ag (ae (ak dY rfl) (ae (aD h 3 rfl iR rfl rfl) (ae (oM (N := aB) dm rfl (h.eF 13 rfl) (h.iK 14 rfl)) (ae (au (v := (.int .i64 (0))) rfl) (ah (aa (aU ?_))))))))))))))))))))
 have aad := Mt (h.eF 13 rfl) (h.iK 14 rfl)
 refine gP (σ := Nat × Int × List LX.Frame) (inl [14, 65, 66, 67, 68, 69, 70, 71, 72, 73]) (fun ⟨VF, i99, DJ⟩ => [(65, (.int .i64 (i99)))]) (fun ⟨VF, i99, DJ⟩ w => SH w0 M BE w (hset [(3, .blk b1 [u37, Lh, (.int .i64 (tu.status)), (.int .i64 (tu.aV))]), (4, .blk b2 [(.slice none 0 0), (.slice none 0 0), (.int .i64 (0)), (.int .i64 (0))]), (13, .own aB.raw 49 u37 (List.zip DJ Gs)), (14, .bL (aR aM 51 hn Gs (List.map aB.sub DJ))), (15, .own (aT Val).raw 47 Lh (List.zip tu.cells Li)), (16, .bL (aR aM 51 (hmv Hq) Li (List.map (aT Val).sub tu.cells))), (17, .mp Md (List.map (fun p => (p.1, (fun x => Value.int .i64 x) p.2)) yD)), (18, .blk TN [(.map (some Md))]), (25, .own (aT Val).raw 47 v61 (List.zip pV D7)), (26, .bL (aR aM 51 hn D7 (List.map (aT Val).sub pV)))]) ∧ i99 = (VF : Int) ∧ upto (sS yD) (vM yD tu pV) i99 (((tu.frames.length : Int)).toNat - VF) DJ = some r) (fun ⟨VF, i99, DJ⟩ => ((tu.frames.length : Int)).toNat - VF) ⟨0, 0, tu.frames⟩ ⟨rfl, trivial⟩ ?_ ?_
 exact ⟨h.cn _, rfl, hs⟩
 rintro ⟨VF, i99, DJ⟩ w dD ⟨h, hik, hs⟩
 refine ai (ag ?_)
 refine ae (dS rfl rfl) (ah (aa ?_))
 refine ai (iJ rfl (fun Sy => ?_) (fun Sy => ?_))
 refine aG (aa ?_)
 rw [tT (by have := of_decide_eq_true Sy; omega)] at hs
 generalize XF : upto (sS yD) (vM yD tu pV) (i99 + 1) (((tu.frames.length : Int)).toNat - (VF + 1)) = VC at hs
 have aae : jO (i99 + 1) := (by have := of_decide_eq_true Sy; have := aad; exact jO.mk (by omega) (by omega))
 refine ai (aU (ai (ag ?_)))
 obtain ⟨x105, Ng, hs⟩ := aQ hs
 obtain ⟨Ac, XG, h⟩ := h.pq 14 30 x105.regs rfl rfl (by decide) (aI Ng).2 rfl
 obtain ⟨b108, q109, i107⟩ := h.uR 13 rfl dm rfl (aI Ng).1 (fe (aI Ng).2 XG)
 refine ae (i107 _ _ _ _ _ _ _ _ _ rfl rfl) ?_
 obtain ⟨cs112, m113, r114⟩ := h.xc 13 rfl q109 (fe (aI Ng).2 XG)
 obtain ⟨rfl, -⟩ := r114
 refine ae (mM (k := 0) (vs := [(.int .i64 (x105.proc)), (.int .i64 (x105.at_)), Ac, (.int .i64 (x105.kG))]) m113 iy rfl rfl rfl (Nat.le_of_ble_eq_true rfl)) (bY h 31 iy fun w aaf h => dB (vs := [(.int .i64 (x105.proc)), (.int .i64 (x105.at_)), Ac, (.int .i64 (x105.kG))]) h 31 [(.int .i64 (x105.proc)), (.int .i64 (x105.at_)), Ac, (.int .i64 (x105.kG))] rfl iy rfl rfl rfl rfl rfl (ay rfl (ay rfl (ay (h.dJ 30 rfl).one (ay rfl bg)))) fun w h => ah (aa (ag (ae (au (v := (.func (.func 50) #[] #[(.pointer (some ⟨TN, 0, none⟩))])) rfl) (ae (ak jW rfl) (ae (aD h 31 rfl kg rfl rfl) ?_))))))
 obtain ⟨l116a, l116b, aag⟩ := h.vY 30 (C := (.own aM 51 Ac x105.regs : Chunk)) rfl trivial
 obtain ⟨D5, e118, hs⟩ := aQ hs
 refine bA Rf rfl rfl (Lg _ _ aag TN Md Ac x105.regs l116a l116b yD (h.Mh 17 rfl) (fun hb => h.apart 30 17 (by decide) _ hb rfl) (h.qB 18 rfl) (fun hb => h.apart 30 18 (by decide) _ hb rfl) _ e118) ?_
 rintro _ w ⟨k119, rfl, h120, h121⟩
 refine ⟨_, rfl, ?_⟩
 replace h := h.back 30 (C := (.own aM 51 Ac x105.regs : Chunk)) (C' := (.own aM 51 Ac D5 : Chunk)) rfl trivial h120 k119 h121
 refine ah (aA (aa (ag (ae (dH rfl rfl aae) (ae (au (v := (.int .i64 ((i99 + 1)))) rfl) (ah ?_))))))
 replace h := h.qQ 13 14 30 ({ x105 with regs := D5 }) rfl rfl rfl (by decide) (by decide) (by decide) (aI Ng).2 XG rfl
 refine az ?_
 subst XF
 exact jN ⟨VF + 1, i99 + 1, (DJ.set (i99).toNat ({ x105 with regs := D5 }))⟩ ⟨h.cn _, by omega, hs⟩ (by have := of_decide_eq_true Sy; dsimp only; omega)
 rw [tV (by have := of_decide_eq_false Sy; omega)] at hs
 refine dh (aO (aO (bE (aa (ai (ai (ag (ae (au (v := v61) rfl) (ae (oM (N := (aT Val)) dZ rfl (h.eF 25 rfl) (h.iK 26 rfl)) (ae (au (v := (.int .i64 (0))) rfl) (ah (aa (aU ?_)))))))))))))
 have XH := Mt (h.eF 25 rfl) (h.iK 26 rfl)
 refine gP (σ := Nat × Int × List (List Val)) (inl [16, 76, 77, 78, 79, 80, 81, 82, 83]) (fun ⟨Lj, i127, CY⟩ => [(76, (.int .i64 (i127)))]) (fun ⟨Lj, i127, CY⟩ w => SH w0 M BE w (hset [(3, .blk b1 [u37, Lh, (.int .i64 (tu.status)), (.int .i64 (tu.aV))]), (4, .blk b2 [(.slice none 0 0), (.slice none 0 0), (.int .i64 (0)), (.int .i64 (0))]), (13, .own aB.raw 49 u37 (List.zip DJ Gs)), (14, .bL (aR aM 51 hn Gs (List.map aB.sub DJ))), (15, .own (aT Val).raw 47 Lh (List.zip tu.cells Li)), (16, .bL (aR aM 51 (hmv Hq) Li (List.map (aT Val).sub tu.cells))), (17, .mp Md (List.map (fun p => (p.1, (fun x => Value.int .i64 x) p.2)) yD)), (18, .blk TN [(.map (some Md))]), (25, .own (aT Val).raw 47 v61 (List.zip CY D7)), (26, .bL (aR aM 51 hn D7 (List.map (aT Val).sub CY)))]) ∧ i127 = (Lj : Int) ∧ upto (uN yD) (vL DJ tu) i127 (((pV.length : Int)).toNat - Lj) CY = some r) (fun ⟨Lj, i127, CY⟩ => ((pV.length : Int)).toNat - Lj) ⟨0, 0, pV⟩ ⟨rfl, trivial⟩ ?_ ?_
 exact ⟨h.cn _, rfl, hs⟩
 rintro ⟨Lj, i127, CY⟩ w dD ⟨h, hik, hs⟩
 refine ai (ag ?_)
 refine ae (dS rfl rfl) (ah (aa ?_))
 refine ai (iJ rfl (fun Sz => ?_) (fun Sz => ?_))
 refine aG (aa ?_)
 rw [tT (by have := of_decide_eq_true Sz; omega)] at hs
 generalize XI : upto (uN yD) (vL DJ tu) (i127 + 1) (((pV.length : Int)).toNat - (Lj + 1)) = VB at hs
 have aah : jO (i127 + 1) := (by have := of_decide_eq_true Sz; have := XH; exact jO.mk (by omega) (by omega))
 refine ai (aU (ai (ag ?_)))
 obtain ⟨BD, SA, hs⟩ := aQ hs
 obtain ⟨u138, PH, h⟩ := h.pq 26 32 BD rfl rfl (by decide) (aI SA).2 rfl
 obtain ⟨b136, q137, i135⟩ := h.uR 25 rfl dZ rfl (aI SA).1 (fe (aI SA).2 PH)
 refine ae (i135 _ _ _ _ _ _ _ _ _ rfl rfl) ?_
 obtain ⟨aai, m141, r142⟩ := h.xc 25 rfl q137 (fe (aI SA).2 PH)
 obtain ⟨rfl, -⟩ := r142
 refine ae (oC (k := 0) m141 kg rfl rfl) (ae (aj (v := u138) rfl) (ah (aa (ag (ae (au (v := (.func (.func 50) #[] #[(.pointer (some ⟨TN, 0, none⟩))])) rfl) (ae (au (v := u138) rfl) ?_))))))
 obtain ⟨aaj, aak, aal⟩ := h.vY 32 (C := (.own aM 51 u138 BD : Chunk)) rfl trivial
 obtain ⟨Sw, e145, hs⟩ := aQ hs
 refine bA Rf rfl rfl (Lg _ _ aal TN Md u138 BD aaj aak yD (h.Mh 17 rfl) (fun hb => h.apart 32 17 (by decide) _ hb rfl) (h.qB 18 rfl) (fun hb => h.apart 32 18 (by decide) _ hb rfl) _ e145) ?_
 rintro _ w ⟨k146, rfl, h147, h148⟩
 refine ⟨_, rfl, ?_⟩
 replace h := h.back 32 (C := (.own aM 51 u138 BD : Chunk)) (C' := (.own aM 51 u138 Sw : Chunk)) rfl trivial h147 k146 h148
 refine ah (aA (aa (ag (ae (dH rfl rfl aah) (ae (au (v := (.int .i64 ((i127 + 1)))) rfl) (ah ?_))))))
 replace h := h.qQ 25 26 32 Sw rfl rfl rfl (by decide) (by decide) (by decide) (aI SA).2 PH rfl
 refine az ?_
 subst XI
 exact jN ⟨Lj + 1, i127 + 1, (CY.set (i127).toNat Sw)⟩ ⟨h.cn _, by omega, hs⟩ (by have := of_decide_eq_true Sz; dsimp only; omega)
 rw [tV (by have := of_decide_eq_false Sz; omega)] at hs
 refine dh (aO (aO (bE (aa (ai (ag (ae (au (v := v61) rfl) (ae (ak iW rfl) (fJ h 3 [u37, v61, (.int .i64 (tu.status)), (.int .i64 (tu.aV))] rfl mg rfl rfl rfl rfl (h.dJ 25 rfl).one fun w h => ah (aa (ai (ag (ae (dE (vs := [u37, v61, (.int .i64 (tu.status)), (.int .i64 (tu.aV))]) h 3 rfl dw rfl rfl rfl) (dB (vs := [u37, v61, (.int .i64 (tu.status)), (.int .i64 (tu.aV))]) h 4 [u37, v61, (.int .i64 (tu.status)), (.int .i64 (tu.aV))] rfl dw rfl rfl rfl rfl rfl (ay (h.dJ 13 rfl).one (ay (h.dJ 25 rfl).one (ay rfl (ay rfl bg)))) fun w h => ah (aa (aK (Vq (vs := [u37, v61, (.int .i64 (tu.status)), (.int .i64 (tu.aV))]) Tryz.results20 rfl h 4 rfl dw rfl ?_)))))))))))))))))
 replace h := h.pair 13 14 (by decide)
 replace h := h.pair 13 25 (by decide)
 replace h := h.pair 13 26 (by decide)
 obtain rfl := Option.some.inj hs
 obtain ⟨o1, o2, o3⟩ := h.qD 13 (C := (.two (.two (.two (.own aB.raw 49 u37 (List.zip DJ Gs)) (.bL (aR aM 51 hn Gs (List.map aB.sub DJ)))) (.own (aT Val).raw 47 v61 (List.zip CY D7))) (.bL (aR aM 51 hn D7 (List.map (aT Val).sub CY))) : Chunk)) rfl ⟨⟨⟨trivial, trivial⟩, trivial⟩, trivial⟩
 exact ⟨o2, u37, v61, Gs, D7, rfl, o1, Jz o3⟩
def Ad (a : Ins) (y4 : List LX.Frame) (y7 : List (List Val)) (y8 : Int) (y9 : Int) : Option (Bool × LX.State) :=
  bif decide (((y7.length : Int) : Int) = 24) then some (false, (⟨y4, y7, y8, y9⟩ : LX.State)) else ib (jO ((y4.length : Int) - 1)) ((idx y4 ((y4.length : Int) - 1)).bind fun wo => (idx wo.regs a.a).bind fun x22 => ib (0 ≤ a.b ∧ a.b * 16 ≤ 140737488355328) (ib (Room 24 y7 [(List.replicate a.b.toNat (⟨0, 0⟩ : Val))]) (some (true, (⟨(y4.set (((y4.length : Int) - 1)).toNat ({ wo with regs := (wo.regs.set (a.a).toNat (⟨2, (y7.length : Int)⟩ : Val)) })), (y7 ++ [(List.replicate a.b.toNat (⟨0, 0⟩ : Val))]), y8, y9⟩ : LX.State)))))
def Ll (N : Nat) (sx : LX.State) (a : Ins) : Option (Bool × LX.State) :=
  bif decide (((sx.cells.length : Int) : Int) = 24) then (yh N sx).bind fun y39 => Ad a y39.frames y39.cells y39.status y39.aV else Ad a sx.frames sx.cells sx.status sx.aV
theorem Gt (N : Nat) (w0 : World) (M : BS) (hM : ∀ b, M b → b < w0.heap.size) (sb : Nat) (sx : LX.State) (fw vs1 : Value) (fF fq : List Value) (hC : Chunk.holds w0 M (Chunk.own' (.two (.two (.two (.two (.blk sb [fw, vs1, (.int .i64 (sx.status)), (.int .i64 (sx.aV))]) (.own aB.raw 49 fw (List.zip sx.frames fF))) (.bL (aR aM 51 hn fF (List.map aB.sub sx.frames)))) (.own (aT Val).raw 47 vs1 (List.zip sx.cells fq))) (.bL (aR aM 51 hn fq (List.map (aT Val).sub sx.cells))) : Chunk)) (.two (.two (.two (.two (.blk sb [fw, vs1, (.int .i64 (sx.status)), (.int .i64 (sx.aV))]) (.own aB.raw 49 fw (List.zip sx.frames fF))) (.bL (aR aM 51 hn fF (List.map aB.sub sx.frames)))) (.own (aT Val).raw 47 vs1 (List.zip sx.cells fq))) (.bL (aR aM 51 hn fq (List.map (aT Val).sub sx.cells))) : Chunk)) (hap : ∀ b, Chunk.own' (.two (.two (.two (.two (.blk sb [fw, vs1, (.int .i64 (sx.status)), (.int .i64 (sx.aV))]) (.own aB.raw 49 fw (List.zip sx.frames fF))) (.bL (aR aM 51 hn fF (List.map aB.sub sx.frames)))) (.own (aT Val).raw 47 vs1 (List.zip sx.cells fq))) (.bL (aR aM 51 hn fq (List.map (aT Val).sub sx.cells))) : Chunk) b → ¬ M b) (a : Ins) (BM : Value) (ZC : fH fT w0 (fun b => M b ∨ (.two (.two (.two (.two (.blk sb [fw, vs1, (.int .i64 (sx.status)), (.int .i64 (sx.aV))]) (.own aB.raw 49 fw (List.zip sx.frames fF))) (.bL (aR aM 51 hn fF (List.map aB.sub sx.frames)))) (.own (aT Val).raw 47 vs1 (List.zip sx.cells fq))) (.bL (aR aM 51 hn fq (List.map (aT Val).sub sx.cells))) : Chunk).own' b) BM a.args) (r : Bool × LX.State) (hs : Ll N sx a = some r) :
    Calls Tryz.prog 89 #[(.pointer (some ⟨sb, 0, none⟩)), (.agg #[(.int .i64 (a.op)), (.int .i64 (a.a)), (.int .i64 (a.b)), (.int .i64 (a.c)), BM])] w0 (fun e w' => aL (Chunk.own' (.two (.two (.two (.two (.blk sb [fw, vs1, (.int .i64 (sx.status)), (.int .i64 (sx.aV))]) (.own aB.raw 49 fw (List.zip sx.frames fF))) (.bL (aR aM 51 hn fF (List.map aB.sub sx.frames)))) (.own (aT Val).raw 47 vs1 (List.zip sx.cells fq))) (.bL (aR aM 51 hn fq (List.map (aT Val).sub sx.cells))) : Chunk)) w0 w' ∧ ∃ AU, ∃ AV, ∃ AX, ∃ AY, e = .returned (.bool r.1) ∧ Chunk.holds w' M (Chunk.own' (.two (.two (.two (.two (.blk sb [AU, AV, .int .i64 r.2.status, .int .i64 r.2.aV]) (.own aB.raw 49 AU (List.zip r.2.frames AX))) (.bL (aR aM 51 hn AX (List.map aB.sub r.2.frames)))) (.own (aT Val).raw 47 AV (List.zip r.2.cells AY))) (.bL (aR aM 51 hn AY (List.map (aT Val).sub r.2.cells))) : Chunk)) (.two (.two (.two (.two (.blk sb [AU, AV, .int .i64 r.2.status, .int .i64 r.2.aV]) (.own aB.raw 49 AU (List.zip r.2.frames AX))) (.bL (aR aM 51 hn AX (List.map aB.sub r.2.frames)))) (.own (aT Val).raw 47 AV (List.zip r.2.cells AY))) (.bL (aR aM 51 hn AY (List.map (aT Val).sub r.2.cells))) : Chunk) ∧ (∀ b, Chunk.own' (.two (.two (.two (.two (.blk sb [AU, AV, .int .i64 r.2.status, .int .i64 r.2.aV]) (.own aB.raw 49 AU (List.zip r.2.frames AX))) (.bL (aR aM 51 hn AX (List.map aB.sub r.2.frames)))) (.own (aT Val).raw 47 AV (List.zip r.2.cells AY))) (.bL (aR aM 51 hn AY (List.map (aT Val).sub r.2.cells))) : Chunk) b → b < w0.heap.size → Chunk.own' (.two (.two (.two (.two (.blk sb [fw, vs1, (.int .i64 (sx.status)), (.int .i64 (sx.aV))]) (.own aB.raw 49 fw (List.zip sx.frames fF))) (.bL (aR aM 51 hn fF (List.map aB.sub sx.frames)))) (.own (aT Val).raw 47 vs1 (List.zip sx.cells fq))) (.bL (aR aM 51 hn fq (List.map (aT Val).sub sx.cells))) : Chunk) b)) := by
 refine aS (args := [(.pointer (some ⟨sb, 0, none⟩)), (.agg #[(.int .i64 (a.op)), (.int .i64 (a.a)), (.int .i64 (a.b)), (.int .i64 (a.c)), BM])]) Tryz.func89 rfl Tryz.ntmps89 (Nat.le_of_ble_eq_true rfl) ?_
 have h := SH.EJ hM hC hap
 replace h := h.Bw 6 ZC zo
 generalize zt : (.two (.two (.two (.two (.blk sb [fw, vs1, (.int .i64 (sx.status)), (.int .i64 (sx.aV))]) (.own aB.raw 49 fw (List.zip sx.frames fF))) (.bL (aR aM 51 hn fF (List.map aB.sub sx.frames)))) (.own (aT Val).raw 47 vs1 (List.zip sx.cells fq))) (.bL (aR aM 51 hn fq (List.map (aT Val).sub sx.cells))) : Chunk).own' = K0 at h
 replace h := h.bX 1 5 (by decide) rfl rfl
 replace h := h.bX 1 4 (by decide) rfl rfl
 replace h := h.bX 1 3 (by decide) rfl rfl
 replace h := h.bX 1 2 (by decide) rfl rfl
 refine ai (ag (oD (cs := [(.int .i64 (a.op)), (.int .i64 (a.a)), (.int .i64 (a.b)), (.int .i64 (a.c)), BM]) h 7 rfl rfl fun w b1 h => ae (aj (v := (.bool (false))) rfl) (ah (aa (cz (σ := Value × List Value × List LX.Frame × Value × List Value × List (List Val) × Int × Int) (inl [5, 6, 7, 8, 9, 10, 11, 12, 13, 14, 15, 16]) (fun ⟨v2, Mf, y4, v5, IJ, y7, y8, y9⟩ => []) (fun ⟨v2, Mf, y4, v5, IJ, y7, y8, y9⟩ w => SH w0 M K0 w (hset [(1, .blk sb [v2, v5, (.int .i64 (y8)), (.int .i64 (y9))]), (6, .rd fT BM a.args), (7, .blk b1 [(.int .i64 (a.op)), (.int .i64 (a.a)), (.int .i64 (a.b)), (.int .i64 (a.c)), BM]), (8, .own aB.raw 49 v2 (List.zip y4 Mf)), (9, .bL (aR aM 51 hn Mf (List.map aB.sub y4))), (10, .own (aT Val).raw 47 v5 (List.zip y7 IJ)), (11, .bL (aR aM 51 hn IJ (List.map (aT Val).sub y7)))]) ∧ Ad a y4 y7 y8 y9 = some r) ?_ ?_)))))
 rintro ⟨v2, Mf, y4, v5, IJ, y7, y8, y9⟩ w dD ⟨h, hs⟩
 refine ai (ai (ag (ae (au (v := (.pointer (some ⟨sb, 0, none⟩))) rfl) (ae (bT rfl) (ae (ak iW rfl) (ae (aD h 1 rfl mg rfl rfl) (ae (oM (N := (aT Val)) dZ rfl (h.eF 10 rfl) (h.iK 11 rfl)) (ae (bJ rfl rfl) (ah (aa (aN hs rfl (fun c10 hs => ?_) (fun c10 hs => ?_))))))))))))
 refine ai (ag (ae (aj (v := (.bool (false))) rfl) (ah (aa (aK (aC (cu (v := (.bool (false))) Tryz.results89 rfl ?_)))))))
 replace h := h.pair 1 8 (by decide)
 replace h := h.pair 1 9 (by decide)
 replace h := h.pair 1 10 (by decide)
 replace h := h.pair 1 11 (by decide)
 obtain rfl := Option.some.inj hs
 subst zt
 obtain ⟨o1, o2, o3⟩ := h.qD 1 (C := (.two (.two (.two (.two (.blk sb [v2, v5, (.int .i64 (y8)), (.int .i64 (y9))]) (.own aB.raw 49 v2 (List.zip y4 Mf))) (.bL (aR aM 51 hn Mf (List.map aB.sub y4)))) (.own (aT Val).raw 47 v5 (List.zip y7 IJ))) (.bL (aR aM 51 hn IJ (List.map (aT Val).sub y7))) : Chunk)) rfl ⟨⟨⟨⟨trivial, trivial⟩, trivial⟩, trivial⟩, trivial⟩
 exact ⟨o2, v2, v5, Mf, IJ, rfl, o1, o3⟩
 refine aG (aa (ai (qP 22 mixed (by kernel_rfl) h fun w h => aJ (au (v := (.pointer (some ⟨sb, 0, none⟩))) rfl) (aJ (bT rfl) (aJ (ak dY rfl) (aJ (aD h 1 rfl iR rfl rfl) (aJ (au (v := (.pointer (some ⟨sb, 0, none⟩))) rfl) (aJ (bT rfl) (aJ (ak dY rfl) (aJ (aD h 1 rfl iR rfl rfl) (aJ (oM (N := aB) dm rfl (h.eF 8 rfl) (h.iK 9 rfl)) ?_)))))))))))
 obtain ⟨a11, hs⟩ := bM hs
 refine aJ (oz rfl rfl a11) ?_
 obtain ⟨wo, e13, hs⟩ := aQ hs
 obtain ⟨Fw, e18, h⟩ := h.pq 9 12 wo.regs rfl rfl (by decide) (aI e13).2 rfl
 obtain ⟨b15, q16, i14⟩ := h.uR 8 rfl dm rfl (aI e13).1 (fe (aI e13).2 e18)
 refine aJ (i14 _ _ _ _ _ _ _ _ _ rfl rfl) (aJ (ak jW rfl) ?_)
 obtain ⟨UA, m20, r21⟩ := h.xc 8 rfl q16 (fe (aI e13).2 e18)
 obtain ⟨rfl, -⟩ := r21
 refine aJ (oC (k := 2) m20 kg rfl rfl) (aJ (ak kv rfl) (aJ (aD h 7 rfl aZ rfl rfl) (aJ (au (v := (.pointer (some ⟨sb, 0, none⟩))) rfl) (aJ (bT rfl) (aJ (ak iW rfl) (aJ (aD h 1 rfl mg rfl rfl) (aJ (oM (N := (aT Val)) dZ rfl (h.eF 10 rfl) (h.iK 11 rfl)) (aJ (dV (pv := [(0, (.int .i64 (2))), (1, (.int .i64 ((y7.length : Int))))]) (out := [(.int .i64 (2)), (.int .i64 ((y7.length : Int)))]) uu rfl ⟨0, 1, [(.int .i64 (2))], rfl, rfl, rfl, Nat.le_of_ble_eq_true rfl, ⟨1, 1, [(.int .i64 ((y7.length : Int)))], rfl, rfl, rfl, Nat.le_of_ble_eq_true rfl, rfl⟩⟩) ?_))))))))
 obtain ⟨x22, e23, hs⟩ := aQ hs
 obtain ⟨b25, q26, i24⟩ := h.uR 12 rfl bK rfl (aI e23).1 (aI e23).2
 refine aJ (i24 _ _ _ _ _ _ _ _ _ rfl rfl) (zi (xg (a' := (⟨2, (y7.length : Int)⟩ : Val)) (vs := [(.int .i64 (2)), (.int .i64 ((y7.length : Int)))]) h 12 rfl q26 rfl (aI e23).2 bV rfl rfl rfl rfl rfl fun w h k27 => ah (aa (ai (mf (L := (fun b => ob v5 b ∨ b = sb)) mixed h fun w h => bu 0 (aL.refl _ _) rfl ax (by kernel_rfl) (by kernel_rfl) (by kernel_rfl) (fun w hk => au (v := (.pointer (some ⟨sb, 0, none⟩))) rfl) (bu 1 (aL.refl _ _) rfl ax (by kernel_rfl) (by kernel_rfl) (by kernel_rfl) (fun w hk => au (v := (.pointer (some ⟨sb, 0, none⟩))) rfl) (bu 2 (aL.refl _ _) rfl ax (by kernel_rfl) (by kernel_rfl) (by kernel_rfl) (fun w hk => bT rfl) (bu 3 (aL.refl _ _) rfl ax (by kernel_rfl) (by kernel_rfl) (by kernel_rfl) (fun w hk => ak iW rfl) (bu 5 (aL.refl _ _) rfl ax (by kernel_rfl) (by kernel_rfl) (by kernel_rfl) (fun w hk => ak iX rfl) (bu 6 (aL.refl _ _) rfl ax (by kernel_rfl) (by kernel_rfl) (by kernel_rfl) (fun w hk => have h := h.Dv 10 1 (by decide) rfl rfl hk; aD h 7 rfl aZ rfl rfl) ?_))))))))))
 obtain ⟨Lm, hs⟩ := bM hs
 obtain ⟨yj, hs⟩ := bM hs
 obtain ⟨J6, VG⟩ : ∃ x, x = w := ⟨_, rfl⟩
 have jR : aL (fun b => ob v5 b ∨ b = sb) J6 w := VG ▸ aL.refl (fun b => ob v5 b ∨ b = sb) w
 refine rW VG.symm (oF 4 7 (by kernel_rfl) rfl ax rfl ax ?_ ?_)
 refine ae (aD h 1 rfl mg rfl rfl) (ah (aX jR (bS 7 (by kernel_rfl) rfl ax (xI (R := aM) (zs := [(.int .i64 (0)), (.int .i64 (0))]) (a := (⟨0, 0⟩ : Val)) h 97 uk bV rfl (by decide) rfl rfl Lm rfl (fun _ _ => rfl) fun w jG h D8 D9 => ?_))))
 have PN : ∀ b, ob jG b → J6.heap.size ≤ b := fun b hb => Nat.le_trans jR.size (D9 b hb)
 replace jR := jR.grow D8
 refine ah (aX jR (bS 8 (by kernel_rfl) rfl ax ?_))
 have rF : (Value.oneCell' jG) = true := (h.dJ 97 rfl).one
 refine zk (R := (aT Val).raw) (vs := [jG]) (xs := List.zip [(List.replicate a.b.toNat (⟨0, 0⟩ : Val))] [jG]) h 109 qK rfl rfl rfl ⟨⟨jh rF, rF⟩, trivial⟩ rfl fun w Ae h yl ym => ?_
 have IM : ∀ b, ob Ae b → J6.heap.size ≤ b := fun b hb => Nat.le_trans jR.size (ym b hb)
 replace jR := jR.grow yl
 replace h := h.wQ (N := (aT Val)) 97 (List.replicate a.b.toNat (⟨0, 0⟩ : Val)) rfl rfl
 refine ah (aX jR (bS 9 (by kernel_rfl) rfl ax ?_))
 have qb := h.iK 11 rfl
 have rG := h.iK 97 rfl
 have IP := jR.size
 refine pg (R := (aT Val).raw) (m := List.zip [(List.replicate a.b.toNat (⟨0, 0⟩ : Val))] [jG]) h 10 rfl (h.eF 109 rfl) qK rfl rfl rfl (by rw [dX qb, dX rG]; exact yj.1) (by rw [dX qb, dX rG]; exact yj.2) fun w jS h yn yo => ?_
 have IQ : ∀ b, ob jS b → b < J6.heap.size → ob v5 b := fun b hb hl => yo b hb (Nat.lt_of_lt_of_le hl (jR).size)
 replace jR := aL.step jR yn (fun _ hx _ => .inl (hx))
 replace h := (h.wN 11 97 rfl rfl (by decide)).fK 109
 rw [wO qb, ← List.map_append] at h
 obtain ⟨nu, wD⟩ : ∃ z, z = IJ ++ [jG] := ⟨_, rfl⟩
 rw [← wD] at h
 refine ah (aX jR (bu 10 jR rfl ax (by kernel_rfl) (by kernel_rfl) (by kernel_rfl) (fun w hk => bT rfl) (bu 11 jR rfl ax (by kernel_rfl) (by kernel_rfl) (by kernel_rfl) (fun w hk => ak iW rfl) (bS 12 (by kernel_rfl) rfl ax (qX h 1 [v2, jS, (.int .i64 (y8)), (.int .i64 (y9))] rfl mg rfl rfl rfl rfl (h.dJ 10 rfl).one fun w h yt => ?_)))))
 replace jR := aL.step jR yt (fun _ hx _ => .inr (hx))
 refine ah (aX jR (gJ (by kernel_rfl) (aa (ai (ag (ae (aj (v := (.bool (true))) rfl) (ah (aa (aK (cu (v := (.bool (true))) Tryz.results89 rfl ?_))))))))))
 replace h := h.qQ 8 9 12 ({ wo with regs := (wo.regs.set (a.a).toNat (⟨2, (y7.length : Int)⟩ : Val)) }) rfl rfl rfl (by decide) (by decide) (by decide) (aI e13).2 e18 rfl
 replace h := h.pair 1 8 (by decide)
 replace h := h.pair 1 9 (by decide)
 replace h := h.pair 1 10 (by decide)
 replace h := h.pair 1 11 (by decide)
 obtain rfl := Option.some.inj hs
 subst zt
 obtain ⟨o1, o2, o3⟩ := h.qD 1 (C := (.two (.two (.two (.two (.blk sb [v2, jS, (.int .i64 (y8)), (.int .i64 (y9))]) (.own aB.raw 49 v2 (List.zip (y4.set (((y4.length : Int) - 1)).toNat ({ wo with regs := (wo.regs.set (a.a).toNat (⟨2, (y7.length : Int)⟩ : Val)) })) Mf))) (.bL (aR aM 51 hn Mf (List.map aB.sub (y4.set (((y4.length : Int) - 1)).toNat ({ wo with regs := (wo.regs.set (a.a).toNat (⟨2, (y7.length : Int)⟩ : Val)) })))))) (.own (aT Val).raw 47 jS (List.zip (y7 ++ [(List.replicate a.b.toNat (⟨0, 0⟩ : Val))]) nu))) (.bL (aR aM 51 hn nu (List.map (aT Val).sub (y7 ++ [(List.replicate a.b.toNat (⟨0, 0⟩ : Val))])))) : Chunk)) rfl ⟨⟨⟨⟨trivial, trivial⟩, trivial⟩, trivial⟩, trivial⟩
 exact ⟨o2, v2, jS, Mf, nu, rfl, o1, o3⟩
 refine xI (R := aM) (zs := [(.int .i64 (0)), (.int .i64 (0))]) (a := (⟨0, 0⟩ : Val)) h 97 uk bV rfl (by decide) rfl rfl Lm rfl (fun _ _ => rfl) fun w jG h D8 D9 => ?_
 have PN : ∀ b, ob jG b → J6.heap.size ≤ b := fun b hb => Nat.le_trans jR.size (D9 b hb)
 replace jR := jR.grow D8
 refine ah (aX jR (oF 4 8 (by kernel_rfl) rfl ax rfl ax ?_ ?_))
 refine ae (aD h 1 rfl mg rfl rfl) (ah (aX jR (bS 8 (by kernel_rfl) rfl ax ?_)))
 have rF : (Value.oneCell' jG) = true := (h.dJ 97 rfl).one
 refine zk (R := (aT Val).raw) (vs := [jG]) (xs := List.zip [(List.replicate a.b.toNat (⟨0, 0⟩ : Val))] [jG]) h 109 qK rfl rfl rfl ⟨⟨jh rF, rF⟩, trivial⟩ rfl fun w Ae h yl ym => ?_
 have IM : ∀ b, ob Ae b → J6.heap.size ≤ b := fun b hb => Nat.le_trans jR.size (ym b hb)
 replace jR := jR.grow yl
 replace h := h.wQ (N := (aT Val)) 97 (List.replicate a.b.toNat (⟨0, 0⟩ : Val)) rfl rfl
 refine ah (aX jR (bS 9 (by kernel_rfl) rfl ax ?_))
 have qb := h.iK 11 rfl
 have rG := h.iK 97 rfl
 have IP := jR.size
 refine pg (R := (aT Val).raw) (m := List.zip [(List.replicate a.b.toNat (⟨0, 0⟩ : Val))] [jG]) h 10 rfl (h.eF 109 rfl) qK rfl rfl rfl (by rw [dX qb, dX rG]; exact yj.1) (by rw [dX qb, dX rG]; exact yj.2) fun w jS h yn yo => ?_
 have IQ : ∀ b, ob jS b → b < J6.heap.size → ob v5 b := fun b hb hl => yo b hb (Nat.lt_of_lt_of_le hl (jR).size)
 replace jR := aL.step jR yn (fun _ hx _ => .inl (hx))
 replace h := (h.wN 11 97 rfl rfl (by decide)).fK 109
 rw [wO qb, ← List.map_append] at h
 obtain ⟨nu, wD⟩ : ∃ z, z = IJ ++ [jG] := ⟨_, rfl⟩
 rw [← wD] at h
 refine ah (aX jR (bu 10 jR rfl ax (by kernel_rfl) (by kernel_rfl) (by kernel_rfl) (fun w hk => bT rfl) (bu 11 jR rfl ax (by kernel_rfl) (by kernel_rfl) (by kernel_rfl) (fun w hk => ak iW rfl) (bS 12 (by kernel_rfl) rfl ax (qX h 1 [v2, jS, (.int .i64 (y8)), (.int .i64 (y9))] rfl mg rfl rfl rfl rfl (h.dJ 10 rfl).one fun w h yt => ?_)))))
 replace jR := aL.step jR yt (fun _ hx _ => .inr (hx))
 refine ah (aX jR (gJ (by kernel_rfl) (aa (ai (ag (ae (aj (v := (.bool (true))) rfl) (ah (aa (aK (cu (v := (.bool (true))) Tryz.results89 rfl ?_))))))))))
 replace h := h.qQ 8 9 12 ({ wo with regs := (wo.regs.set (a.a).toNat (⟨2, (y7.length : Int)⟩ : Val)) }) rfl rfl rfl (by decide) (by decide) (by decide) (aI e13).2 e18 rfl
 replace h := h.pair 1 8 (by decide)
 replace h := h.pair 1 9 (by decide)
 replace h := h.pair 1 10 (by decide)
 replace h := h.pair 1 11 (by decide)
 obtain rfl := Option.some.inj hs
 subst zt
 obtain ⟨o1, o2, o3⟩ := h.qD 1 (C := (.two (.two (.two (.two (.blk sb [v2, jS, (.int .i64 (y8)), (.int .i64 (y9))]) (.own aB.raw 49 v2 (List.zip (y4.set (((y4.length : Int) - 1)).toNat ({ wo with regs := (wo.regs.set (a.a).toNat (⟨2, (y7.length : Int)⟩ : Val)) })) Mf))) (.bL (aR aM 51 hn Mf (List.map aB.sub (y4.set (((y4.length : Int) - 1)).toNat ({ wo with regs := (wo.regs.set (a.a).toNat (⟨2, (y7.length : Int)⟩ : Val)) })))))) (.own (aT Val).raw 47 jS (List.zip (y7 ++ [(List.replicate a.b.toNat (⟨0, 0⟩ : Val))]) nu))) (.bL (aR aM 51 hn nu (List.map (aT Val).sub (y7 ++ [(List.replicate a.b.toNat (⟨0, 0⟩ : Val))])))) : Chunk)) rfl ⟨⟨⟨⟨trivial, trivial⟩, trivial⟩, trivial⟩, trivial⟩
 exact ⟨o2, v2, jS, Mf, nu, rfl, o1, o3⟩
 have rF : (Value.oneCell' jG) = true := (h.dJ 97 rfl).one
 refine zk (R := (aT Val).raw) (vs := [jG]) (xs := List.zip [(List.replicate a.b.toNat (⟨0, 0⟩ : Val))] [jG]) h 109 qK rfl rfl rfl ⟨⟨jh rF, rF⟩, trivial⟩ rfl fun w Ae h yl ym => ?_
 have IM : ∀ b, ob Ae b → J6.heap.size ≤ b := fun b hb => Nat.le_trans jR.size (ym b hb)
 replace jR := jR.grow yl
 replace h := h.wQ (N := (aT Val)) 97 (List.replicate a.b.toNat (⟨0, 0⟩ : Val)) rfl rfl
 refine ah (aX jR (bS 4 (by kernel_rfl) rfl ax (ae (aD h 1 rfl mg rfl rfl) (ah (aX jR (bS 9 (by kernel_rfl) rfl ax ?_))))))
 have qb := h.iK 11 rfl
 have rG := h.iK 97 rfl
 have IP := jR.size
 refine pg (R := (aT Val).raw) (m := List.zip [(List.replicate a.b.toNat (⟨0, 0⟩ : Val))] [jG]) h 10 rfl (h.eF 109 rfl) qK rfl rfl rfl (by rw [dX qb, dX rG]; exact yj.1) (by rw [dX qb, dX rG]; exact yj.2) fun w jS h yn yo => ?_
 have IQ : ∀ b, ob jS b → b < J6.heap.size → ob v5 b := fun b hb hl => yo b hb (Nat.lt_of_lt_of_le hl (jR).size)
 replace jR := aL.step jR yn (fun _ hx _ => .inl (hx))
 replace h := (h.wN 11 97 rfl rfl (by decide)).fK 109
 rw [wO qb, ← List.map_append] at h
 obtain ⟨nu, wD⟩ : ∃ z, z = IJ ++ [jG] := ⟨_, rfl⟩
 rw [← wD] at h
 refine ah (aX jR (bu 10 jR rfl ax (by kernel_rfl) (by kernel_rfl) (by kernel_rfl) (fun w hk => bT rfl) (bu 11 jR rfl ax (by kernel_rfl) (by kernel_rfl) (by kernel_rfl) (fun w hk => ak iW rfl) (bS 12 (by kernel_rfl) rfl ax (qX h 1 [v2, jS, (.int .i64 (y8)), (.int .i64 (y9))] rfl mg rfl rfl rfl rfl (h.dJ 10 rfl).one fun w h yt => ?_)))))
 replace jR := aL.step jR yt (fun _ hx _ => .inr (hx))
 refine ah (aX jR (gJ (by kernel_rfl) (aa (ai (ag (ae (aj (v := (.bool (true))) rfl) (ah (aa (aK (cu (v := (.bool (true))) Tryz.results89 rfl ?_))))))))))
 replace h := h.qQ 8 9 12 ({ wo with regs := (wo.regs.set (a.a).toNat (⟨2, (y7.length : Int)⟩ : Val)) }) rfl rfl rfl (by decide) (by decide) (by decide) (aI e13).2 e18 rfl
 replace h := h.pair 1 8 (by decide)
 replace h := h.pair 1 9 (by decide)
 replace h := h.pair 1 10 (by decide)
 replace h := h.pair 1 11 (by decide)
 obtain rfl := Option.some.inj hs
 subst zt
 obtain ⟨o1, o2, o3⟩ := h.qD 1 (C := (.two (.two (.two (.two (.blk sb [v2, jS, (.int .i64 (y8)), (.int .i64 (y9))]) (.own aB.raw 49 v2 (List.zip (y4.set (((y4.length : Int) - 1)).toNat ({ wo with regs := (wo.regs.set (a.a).toNat (⟨2, (y7.length : Int)⟩ : Val)) })) Mf))) (.bL (aR aM 51 hn Mf (List.map aB.sub (y4.set (((y4.length : Int) - 1)).toNat ({ wo with regs := (wo.regs.set (a.a).toNat (⟨2, (y7.length : Int)⟩ : Val)) })))))) (.own (aT Val).raw 47 jS (List.zip (y7 ++ [(List.replicate a.b.toNat (⟨0, 0⟩ : Val))]) nu))) (.bL (aR aM 51 hn nu (List.map (aT Val).sub (y7 ++ [(List.replicate a.b.toNat (⟨0, 0⟩ : Val))])))) : Chunk)) rfl ⟨⟨⟨⟨trivial, trivial⟩, trivial⟩, trivial⟩, trivial⟩
 exact ⟨o2, v2, jS, Mf, nu, rfl, o1, o3⟩
 refine ai (ag (ae (au (v := (.pointer (some ⟨sb, 0, none⟩))) rfl) (ae (bT rfl) (ae (ak iW rfl) (ae (aD h 1 rfl mg rfl rfl) (ae (oM (N := (aT Val)) dZ rfl (h.eF 4 rfl) (h.iK 5 rfl)) (ae (bJ rfl rfl) (ah (aa (aN hs rfl (fun KO hs => ?_) (fun KO hs => ?_)))))))))))
 refine ag (ae (au (v := (.pointer (some ⟨sb, 0, none⟩))) rfl) (ae (au (v := (.pointer (some ⟨sb, 0, none⟩))) rfl) (ae (bT rfl) (ae (dE (vs := [fw, vs1, (.int .i64 (sx.status)), (.int .i64 (sx.aV))]) h 1 rfl dw rfl rfl rfl) ?_))))
 obtain ⟨y39, e40, hs⟩ := aQ hs
 refine bA Mv rfl rfl (BO N _ BE (fun _ h => h.elim) sx fw vs1 (h.uU (N := aB) (R' := fo) 2 3 rfl rfl (by decide) rfl rz) (h.uU (N := (aT Val)) (R' := (qj aM)) 4 5 rfl rfl (by decide) rfl wP) _ e40) ?_
 rintro _ w ⟨k47, Xk, u43, Si, XJ, rfl, h45, h46⟩
 refine ⟨_, rfl, ?_⟩
 replace h := h.Q7 181 (C := (.two (.two (.two (.own aB.raw 49 Xk (List.zip y39.frames Si)) (.bL (aR aM 51 hn Si (List.map aB.sub y39.frames)))) (.own (aT Val).raw 47 u43 (List.zip y39.cells XJ))) (.bL (aR aM 51 hn XJ (List.map (aT Val).sub y39.cells))) : Chunk)) k47 ⟨⟨⟨trivial, trivial⟩, trivial⟩, trivial⟩ ⟨⟨⟨(fun _ _ _ _ _ h => h), (vQ (fun _ _ _ _ _ h => h))⟩, (fun _ _ _ _ _ h => h)⟩, (vQ (fun _ _ _ _ _ h => h))⟩ h45 h46
 replace h := h.bX 181 184 (by decide) rfl rfl
 replace h := h.bX 181 183 (by decide) rfl rfl
 replace h := h.bX 181 182 (by decide) rfl rfl
 refine ae (bT rfl) (dB (vs := [Xk, u43, (.int .i64 (y39.status)), (.int .i64 (y39.aV))]) h 1 [Xk, u43, (.int .i64 (y39.status)), (.int .i64 (y39.aV))] rfl dw rfl rfl rfl rfl rfl (ay (h.dJ 181 rfl).one (ay (h.dJ 183 rfl).one (ay rfl (ay rfl bg)))) fun w h => ah (az ?_))
 replace h := (h.fK 8).moveC 181 8 rfl rfl (by decide)
 replace h := (h.fK 9).moveC 182 9 rfl rfl (by decide)
 replace h := (h.fK 10).moveC 183 10 rfl rfl (by decide)
 replace h := (h.fK 11).moveC 184 11 rfl rfl (by decide)
 exact bU (Xk, Si, y39.frames, u43, XJ, y39.cells, y39.status, y39.aV) ⟨h.cn _, hs⟩
 refine aG (az ?_)
 replace h := (h.fK 8).moveC 2 8 rfl rfl (by decide)
 replace h := (h.fK 9).moveC 3 9 rfl rfl (by decide)
 replace h := (h.fK 10).moveC 4 10 rfl rfl (by decide)
 replace h := (h.fK 11).moveC 5 11 rfl rfl (by decide)
 exact bU (fw, fF, sx.frames, vs1, fq, sx.cells, sx.status, sx.aV) ⟨h.cn _, hs⟩
def BP (sx : LX.State) (i11 : Int) (wo : Int) (y9 : List Val) (aam : List Val → Option (Bool × LX.State)) : Option (Bool × LX.State) :=
  ib (jO ((sx.frames.length : Int) - 1)) ((idx sx.frames ((sx.frames.length : Int) - 1)).bind fun wW => (idx wW.regs wo).bind fun yR => (idx y9 i11).bind fun x41 => aam (y9.set (i11).toNat yR))
def BQ (sx : LX.State) (b : Ins) (a : List dx) (y9 : List Val) : Option (Bool × LX.State) :=
  ib (Room 48 sx.frames [(⟨b.b, 0, y9, b.a⟩ : LX.Frame)]) (some (true, (⟨(sx.frames ++ [(⟨b.b, 0, y9, b.a⟩ : LX.Frame)]), sx.cells, sx.status, sx.aV⟩ : LX.State)))
def Gu (sx : LX.State) (i62 : Int) (pV : Int) (sZ : List Val) (JO : List Val → Option (Bool × LX.State)) : Option (Bool × LX.State) :=
  ib (jO ((sx.frames.length : Int) - 1)) ((idx sx.frames ((sx.frames.length : Int) - 1)).bind fun x74 => (idx x74.regs pV).bind fun x84 => (idx sZ i62).bind fun x92 => JO (sZ.set (i62).toNat x84))
def Gv (sx : LX.State) (b : Ins) (a : List dx) (sZ : List Val) : Option (Bool × LX.State) :=
  ib (Room 48 sx.frames [(⟨b.b, 0, sZ, b.a⟩ : LX.Frame)]) (some (true, (⟨(sx.frames ++ [(⟨b.b, 0, sZ, b.a⟩ : LX.Frame)]), sx.cells, sx.status, sx.aV⟩ : LX.State)))
def Ov (sx : LX.State) (a : List dx) (b : Ins) : Option (Bool × LX.State) :=
  bif decide (((sx.frames.length : Int) : Int) = 10) then some (false, sx) else (idx a b.b).bind fun A8 => ib (0 ≤ A8.regs ∧ A8.regs * 16 ≤ 140737488355328) (dU (BP sx) (BQ sx b a) 0 b.args (List.replicate A8.regs.toNat (⟨0, 0⟩ : Val)))
theorem IU (w0 : World) (M : BS) (hM : ∀ b, M b → b < w0.heap.size) (sb : Nat) (sx : LX.State) (fw vs1 : Value) (fF fq : List Value) (hC : Chunk.holds w0 M (Chunk.own' (.two (.two (.two (.two (.blk sb [fw, vs1, (.int .i64 (sx.status)), (.int .i64 (sx.aV))]) (.own aB.raw 49 fw (List.zip sx.frames fF))) (.bL (aR aM 51 hn fF (List.map aB.sub sx.frames)))) (.own (aT Val).raw 47 vs1 (List.zip sx.cells fq))) (.bL (aR aM 51 hn fq (List.map (aT Val).sub sx.cells))) : Chunk)) (.two (.two (.two (.two (.blk sb [fw, vs1, (.int .i64 (sx.status)), (.int .i64 (sx.aV))]) (.own aB.raw 49 fw (List.zip sx.frames fF))) (.bL (aR aM 51 hn fF (List.map aB.sub sx.frames)))) (.own (aT Val).raw 47 vs1 (List.zip sx.cells fq))) (.bL (aR aM 51 hn fq (List.map (aT Val).sub sx.cells))) : Chunk)) (hap : ∀ b, Chunk.own' (.two (.two (.two (.two (.blk sb [fw, vs1, (.int .i64 (sx.status)), (.int .i64 (sx.aV))]) (.own aB.raw 49 fw (List.zip sx.frames fF))) (.bL (aR aM 51 hn fF (List.map aB.sub sx.frames)))) (.own (aT Val).raw 47 vs1 (List.zip sx.cells fq))) (.bL (aR aM 51 hn fq (List.map (aT Val).sub sx.cells))) : Chunk) b → ¬ M b) (va : Value) (a : List dx) (ha : fH kF w0 (fun b => M b ∨ (.two (.two (.two (.two (.blk sb [fw, vs1, (.int .i64 (sx.status)), (.int .i64 (sx.aV))]) (.own aB.raw 49 fw (List.zip sx.frames fF))) (.bL (aR aM 51 hn fF (List.map aB.sub sx.frames)))) (.own (aT Val).raw 47 vs1 (List.zip sx.cells fq))) (.bL (aR aM 51 hn fq (List.map (aT Val).sub sx.cells))) : Chunk).own' b) va a) (b : Ins) (Ym : Value) (hb4 : fH fT w0 (fun b => M b ∨ (.two (.two (.two (.two (.blk sb [fw, vs1, (.int .i64 (sx.status)), (.int .i64 (sx.aV))]) (.own aB.raw 49 fw (List.zip sx.frames fF))) (.bL (aR aM 51 hn fF (List.map aB.sub sx.frames)))) (.own (aT Val).raw 47 vs1 (List.zip sx.cells fq))) (.bL (aR aM 51 hn fq (List.map (aT Val).sub sx.cells))) : Chunk).own' b) Ym b.args) (r : Bool × LX.State) (hs : Ov sx a b = some r) :
    Calls Tryz.prog 90 #[va, (.pointer (some ⟨sb, 0, none⟩)), (.agg #[(.int .i64 (b.op)), (.int .i64 (b.a)), (.int .i64 (b.b)), (.int .i64 (b.c)), Ym])] w0 (fun e w' => aL (Chunk.own' (.two (.two (.two (.two (.blk sb [fw, vs1, (.int .i64 (sx.status)), (.int .i64 (sx.aV))]) (.own aB.raw 49 fw (List.zip sx.frames fF))) (.bL (aR aM 51 hn fF (List.map aB.sub sx.frames)))) (.own (aT Val).raw 47 vs1 (List.zip sx.cells fq))) (.bL (aR aM 51 hn fq (List.map (aT Val).sub sx.cells))) : Chunk)) w0 w' ∧ ∃ AU, ∃ AV, ∃ AX, ∃ AY, e = .returned (.bool r.1) ∧ Chunk.holds w' M (Chunk.own' (.two (.two (.two (.two (.blk sb [AU, AV, .int .i64 r.2.status, .int .i64 r.2.aV]) (.own aB.raw 49 AU (List.zip r.2.frames AX))) (.bL (aR aM 51 hn AX (List.map aB.sub r.2.frames)))) (.own (aT Val).raw 47 AV (List.zip r.2.cells AY))) (.bL (aR aM 51 hn AY (List.map (aT Val).sub r.2.cells))) : Chunk)) (.two (.two (.two (.two (.blk sb [AU, AV, .int .i64 r.2.status, .int .i64 r.2.aV]) (.own aB.raw 49 AU (List.zip r.2.frames AX))) (.bL (aR aM 51 hn AX (List.map aB.sub r.2.frames)))) (.own (aT Val).raw 47 AV (List.zip r.2.cells AY))) (.bL (aR aM 51 hn AY (List.map (aT Val).sub r.2.cells))) : Chunk) ∧ (∀ b, Chunk.own' (.two (.two (.two (.two (.blk sb [AU, AV, .int .i64 r.2.status, .int .i64 r.2.aV]) (.own aB.raw 49 AU (List.zip r.2.frames AX))) (.bL (aR aM 51 hn AX (List.map aB.sub r.2.frames)))) (.own (aT Val).raw 47 AV (List.zip r.2.cells AY))) (.bL (aR aM 51 hn AY (List.map (aT Val).sub r.2.cells))) : Chunk) b → b < w0.heap.size → Chunk.own' (.two (.two (.two (.two (.blk sb [fw, vs1, (.int .i64 (sx.status)), (.int .i64 (sx.aV))]) (.own aB.raw 49 fw (List.zip sx.frames fF))) (.bL (aR aM 51 hn fF (List.map aB.sub sx.frames)))) (.own (aT Val).raw 47 vs1 (List.zip sx.cells fq))) (.bL (aR aM 51 hn fq (List.map (aT Val).sub sx.cells))) : Chunk) b)) := by
 refine aS (args := [va, (.pointer (some ⟨sb, 0, none⟩)), (.agg #[(.int .i64 (b.op)), (.int .i64 (b.a)), (.int .i64 (b.b)), (.int .i64 (b.c)), Ym])]) Tryz.func90 rfl Tryz.ntmps90 (Nat.le_of_ble_eq_true rfl) ?_
 have h := SH.EJ hM hC hap
 replace h := h.Bw 6 ha zo
 replace h := h.Bw 7 hb4 (rX zo)
 generalize zt : (.two (.two (.two (.two (.blk sb [fw, vs1, (.int .i64 (sx.status)), (.int .i64 (sx.aV))]) (.own aB.raw 49 fw (List.zip sx.frames fF))) (.bL (aR aM 51 hn fF (List.map aB.sub sx.frames)))) (.own (aT Val).raw 47 vs1 (List.zip sx.cells fq))) (.bL (aR aM 51 hn fq (List.map (aT Val).sub sx.cells))) : Chunk).own' = K0 at h
 replace h := h.bX 1 5 (by decide) rfl rfl
 replace h := h.bX 1 4 (by decide) rfl rfl
 replace h := h.bX 1 3 (by decide) rfl rfl
 replace h := h.bX 1 2 (by decide) rfl rfl
 have uw := ha.cB
 refine ai (ag (oD (cs := [(.int .i64 (b.op)), (.int .i64 (b.a)), (.int .i64 (b.b)), (.int .i64 (b.c)), Ym]) h 8 rfl rfl fun w b1 h => ae (aj (v := (.bool (false))) rfl) (ah (aa (ai (ai (ag (ae (au (v := (.pointer (some ⟨sb, 0, none⟩))) rfl) (ae (bT rfl) (ae (ak dY rfl) (ae (aD h 1 rfl iR rfl rfl) (ae (oM (N := aB) dm rfl (h.eF 2 rfl) (h.iK 3 rfl)) (ae (bJ rfl rfl) (ah (aa (aN hs rfl (fun c2 hs => ?_) (fun c2 hs => ?_)))))))))))))))))
 refine ai (ag (ae (aj (v := (.bool (false))) rfl) (ah (aa (aK (aC (cu (v := (.bool (false))) Tryz.results90 rfl ?_)))))))
 replace h := h.pair 1 2 (by decide)
 replace h := h.pair 1 3 (by decide)
 replace h := h.pair 1 4 (by decide)
 replace h := h.pair 1 5 (by decide)
 obtain rfl := Option.some.inj hs
 subst zt
 obtain ⟨o1, o2, o3⟩ := h.qD 1 (C := (.two (.two (.two (.two (.blk sb [fw, vs1, (.int .i64 (sx.status)), (.int .i64 (sx.aV))]) (.own aB.raw 49 fw (List.zip sx.frames fF))) (.bL (aR aM 51 hn fF (List.map aB.sub sx.frames)))) (.own (aT Val).raw 47 vs1 (List.zip sx.cells fq))) (.bL (aR aM 51 hn fq (List.map (aT Val).sub sx.cells))) : Chunk)) rfl ⟨⟨⟨⟨trivial, trivial⟩, trivial⟩, trivial⟩, trivial⟩
 exact ⟨o2, fw, vs1, fF, fq, rfl, o1, o3⟩
 refine aG (aa (ai (Cy mixed h fun w h => bZ 0 (aL.refl BE _) rfl ax (by kernel_rfl) (by kernel_rfl) (by kernel_rfl) (fun w hk => ak iX rfl) (bZ 1 (aL.refl BE _) rfl ax (by kernel_rfl) (by kernel_rfl) (by kernel_rfl) (fun w hk => have h := h.grow hk; aD h 8 rfl aZ rfl rfl) (bZ 2 (aL.refl BE _) rfl ax (by kernel_rfl) (by kernel_rfl) (by kernel_rfl) (fun w hk => au (v := va) rfl) (bZ 3 (aL.refl BE _) rfl ax (by kernel_rfl) (by kernel_rfl) (by kernel_rfl) (fun w hk => ak iX rfl) (bZ 4 (aL.refl BE _) rfl ax (by kernel_rfl) (by kernel_rfl) (by kernel_rfl) (fun w hk => have h := h.grow hk; aD h 8 rfl aZ rfl rfl) ?_)))))))
 obtain ⟨A8, Ow, hs⟩ := aQ hs
 obtain ⟨bq3x5_4, oq3x5_5, aan, h, UK, UL⟩ := h.Dm 6 69 rfl jI rfl (aI Ow).1 (aI Ow).2
 obtain ⟨uq3x5_8, rfl, UM⟩ := nN UK
 replace h := h.di 70 UM.up
 refine bZ 5 (aL.refl BE _) rfl ax (by kernel_rfl) (by kernel_rfl) (by kernel_rfl) (fun w hk => UL _ _ _ _ _ _ _ _ _ rfl rfl) (bZ 6 (aL.refl BE _) rfl ax (by kernel_rfl) (by kernel_rfl) (by kernel_rfl) (fun w hk => ak yM rfl) (bZ 7 (aL.refl BE _) rfl ax (by kernel_rfl) (by kernel_rfl) (by kernel_rfl) (fun w hk => have h := h.grow hk; eO (k := 1) h 69 rfl aZ rfl rfl) (bZ 9 (aL.refl BE _) rfl ax (by kernel_rfl) (by kernel_rfl) (by kernel_rfl) (fun w hk => ak kv rfl) (bZ 10 (aL.refl BE _) rfl ax (by kernel_rfl) (by kernel_rfl) (by kernel_rfl) (fun w hk => have h := h.grow hk; aD h 8 rfl aZ rfl rfl) ?_))))
 obtain ⟨Ox, hs⟩ := bM hs
 obtain ⟨ws4, ws4e⟩ : ∃ x, x = w := ⟨_, rfl⟩
 have hg5 : Grow ws4 w := ws4e ▸ aL.refl BE w
 refine Il ws4e.symm (TU 8 12 (by kernel_rfl) rfl ax rfl ax ?_ ?_)
 refine xI (R := aM) (zs := [(.int .i64 (0)), (.int .i64 (0))]) (a := (⟨0, 0⟩ : Val)) h 105 uk bV rfl (by decide) rfl rfl Ox rfl (fun _ _ => rfl) fun w eD h Gw Gx => ?_
 have SB : ∀ b, ob eD b → ws4.heap.size ≤ b := fun b hb => Nat.le_trans hg5.size (Gx b hb)
 replace hg5 := hg5.trans Gw
 refine ah (o7 hg5 (bZ 11 hg5 rfl ax (by kernel_rfl) (by kernel_rfl) (by kernel_rfl) (fun w hk => dV (pv := [(0, (.int .i64 (b.b))), (2, eD), (3, (.int .i64 (b.a)))]) (out := [(.int .i64 (b.b)), (.int .i64 (0)), eD, (.int .i64 (b.a))]) F5 rfl ⟨0, 1, [(.int .i64 (b.b))], rfl, rfl, rfl, Nat.le_of_ble_eq_true rfl, ⟨2, 1, [eD], rfl, (jh (h.dJ 105 rfl).one), rfl, Nat.le_of_ble_eq_true rfl, ⟨3, 1, [(.int .i64 (b.a))], rfl, rfl, rfl, Nat.le_of_ble_eq_true rfl, rfl⟩⟩⟩) (uT 12 (by kernel_rfl) rfl ax (Dw h 153 iy fun w Af h Ea Eb => ?_))))
 have Ec : ws4.heap.size ≤ Af := Nat.le_trans hg5.size Eb
 replace hg5 := hg5.trans Ea
 refine ah (o7 hg5 (uT 13 (by kernel_rfl) rfl ax (xe (vs := [(.int .i64 (b.b)), (.int .i64 (0)), eD, (.int .i64 (b.a))]) h 153 [(.int .i64 (b.b)), (.int .i64 (0)), eD, (.int .i64 (b.a))] rfl iy rfl rfl rfl rfl rfl (ay rfl (ay rfl (ay (h.dJ 105 rfl).one (ay rfl bg)))) fun w h Gy => ?_)))
 replace hg5 := hg5.fresh Gy (fun x hx => hx ▸ Ec)
 refine ah (o7 hg5 (rV (by kernel_rfl) (aa (ai (ai (ag (ae (ak vH rfl) (ae (aD h 8 rfl uq rfl rfl) (ae (bW dC rfl (h.mH 7 rfl)) (ae (au (v := (.int .i64 (0))) rfl) (ah (aa (aU (gP (σ := Nat × Int × List Val) (inl [8, 9, 31, 32, 33, 34, 35, 36, 37, 38, 39, 40, 41, 42, 43, 44, 45, 46, 47, 48, 49, 50, 51, 52, 53, 54, 55, 56]) (fun ⟨k10, i11, y9⟩ => [(31, (.int .i64 (i11)))]) (fun ⟨k10, i11, y9⟩ w => SH w0 M K0 w (hset [(1, .blk sb [fw, vs1, (.int .i64 (sx.status)), (.int .i64 (sx.aV))]), (2, .own aB.raw 49 fw (List.zip sx.frames fF)), (3, .bL (aR aM 51 hn fF (List.map aB.sub sx.frames))), (4, .own (aT Val).raw 47 vs1 (List.zip sx.cells fq)), (5, .bL (aR aM 51 hn fq (List.map (aT Val).sub sx.cells))), (7, .rd fT Ym b.args), (105, .own aM 51 eD y9), (153, .blk Af [(.int .i64 (b.b)), (.int .i64 (0)), eD, (.int .i64 (b.a))])]) ∧ i11 = (k10 : Int) ∧ dU (BP sx) (BQ sx b a) i11 (b.args.drop k10) y9 = some r) (fun ⟨k10, i11, y9⟩ => b.args.length - k10) ⟨0, 0, (List.replicate A8.regs.toNat (⟨0, 0⟩ : Val))⟩ ⟨rfl, trivial⟩ ?_ ?_))))))))))))))
 exact ⟨h.cn _, rfl, hs⟩
 rintro ⟨k10, i11, y9⟩ w dD ⟨h, hik, hs⟩
 refine ai (ag ?_)
 refine ae (dS rfl rfl) (ah (aa ?_))
 refine ai (iJ rfl (fun e15 => ?_) (fun e15 => ?_))
 refine aG (aa ?_)
 obtain ⟨wo, e16a, e16b⟩ := gy (hik ▸ e15)
 rw [e16b, gU] at hs
 generalize hnx14 : dU (BP sx) (BQ sx b a) (i11 + 1) (b.args.drop (k10 + 1)) = aam at hs
 have e16r := gD ((h.mH 7 rfl)).cB hik e15
 refine ai (aU (ai (ag (ae (au (v := (.int .i64 (i11))) rfl) ?_))))
 obtain ⟨b18, o19, cs20, h, r21, i17⟩ := h.Dm 7 189 rfl dC rfl (iU hik) (gB hik e16a)
 obtain rfl := r21
 refine ae (i17 _ _ _ _ _ _ _ _ _ rfl rfl) (ae (eO (k := 0) h 189 rfl aZ rfl rfl) (ae (aj (v := (.int .i64 (i11))) rfl) (ae (aj (v := (.int .i64 (wo))) rfl) (ah (aa (qP 20 mixed (by kernel_rfl) h fun w h => aJ (ak jW rfl) (aJ (aD h 153 rfl kg rfl rfl) (aJ (au (v := (.int .i64 (i11))) rfl) (aJ (au (v := (.pointer (some ⟨sb, 0, none⟩))) rfl) (aJ (bT rfl) (aJ (ak dY rfl) (aJ (aD h 1 rfl iR rfl rfl) (aJ (au (v := (.pointer (some ⟨sb, 0, none⟩))) rfl) (aJ (bT rfl) (aJ (ak dY rfl) (aJ (aD h 1 rfl iR rfl rfl) (aJ (oM (N := aB) dm rfl (h.eF 2 rfl) (h.iK 3 rfl)) ?_)))))))))))))))))
 obtain ⟨a22, hs⟩ := bM hs
 refine aJ (oz rfl rfl a22) ?_
 obtain ⟨wW, e24, hs⟩ := aQ hs
 obtain ⟨u28, e29, h⟩ := h.pq 3 190 wW.regs rfl rfl (by decide) (aI e24).2 rfl
 obtain ⟨WM, q27, i25⟩ := h.uR 2 rfl dm rfl (aI e24).1 (fe (aI e24).2 e29)
 refine aJ (i25 _ _ _ _ _ _ _ _ _ rfl rfl) (aJ (ak jW rfl) ?_)
 obtain ⟨cs30, m31, r32⟩ := h.xc 2 rfl q27 (fe (aI e24).2 e29)
 obtain ⟨rfl, -⟩ := r32
 refine aJ (oC (k := 2) m31 kg rfl rfl) (aJ (au (v := (.int .i64 (wo))) rfl) ?_)
 obtain ⟨yR, e34, hs⟩ := aQ hs
 obtain ⟨b36, q37, i35⟩ := h.uR 190 rfl bK rfl (aI e34).1 (aI e34).2
 refine aJ (i35 _ _ _ _ _ _ _ _ _ rfl rfl) ?_
 obtain ⟨cs38, Xo, r40⟩ := h.xc 190 rfl q37 (aI e34).2
 obtain rfl := r40
 refine aJ (mM (k := 0) (vs := [(.int .i64 (yR.kind)), (.int .i64 (yR.n))]) Xo bV rfl rfl rfl (Nat.le_of_ble_eq_true rfl)) ?_
 obtain ⟨x41, e42, hs⟩ := aQ hs
 obtain ⟨Md, ZR, i43⟩ := h.uR 105 rfl bK rfl (aI e42).1 (aI e42).2
 refine aJ (i43 _ _ _ _ _ _ _ _ _ rfl rfl) (zi (xg (a' := yR) (vs := [(.int .i64 (yR.kind)), (.int .i64 (yR.n))]) h 105 rfl ZR rfl (aI e42).2 bV rfl rfl rfl rfl rfl fun w h Qt => ah (aA (aa (ag (ae (dH rfl rfl e16r) (ae (au (v := (.int .i64 ((i11 + 1)))) rfl) (ah ?_))))))))
 replace h := h.iO 3 190 rfl rfl (by decide) (aI e24).2 e29 rfl
 refine az ?_
 subst hnx14
 exact jN ⟨k10 + 1, i11 + 1, (y9.set (i11).toNat yR)⟩ ⟨h.cn _, by omega, hs⟩ (by have := of_decide_eq_true e15; dsimp only; omega)
 rw [gz (hik ▸ e15), kI] at hs
 refine dh (aO (aO (bE (aa (ai (mf (L := (fun b => ob fw b ∨ b = sb)) mixed h fun w h => bu 0 (aL.refl _ _) rfl ax (by kernel_rfl) (by kernel_rfl) (by kernel_rfl) (fun w hk => au (v := (.pointer (some ⟨sb, 0, none⟩))) rfl) (bu 1 (aL.refl _ _) rfl ax (by kernel_rfl) (by kernel_rfl) (by kernel_rfl) (fun w hk => au (v := (.pointer (some ⟨sb, 0, none⟩))) rfl) (bu 2 (aL.refl _ _) rfl ax (by kernel_rfl) (by kernel_rfl) (by kernel_rfl) (fun w hk => bT rfl) (bu 3 (aL.refl _ _) rfl ax (by kernel_rfl) (by kernel_rfl) (by kernel_rfl) (fun w hk => ak dY rfl) (bu 5 (aL.refl _ _) rfl ax (by kernel_rfl) (by kernel_rfl) (by kernel_rfl) (fun w hk => have h := h.Dv 2 1 (by decide) rfl rfl hk; dE (vs := [(.int .i64 (b.b)), (.int .i64 (0)), eD, (.int .i64 (b.a))]) h 153 rfl iy rfl rfl rfl) ?_))))))))))
 obtain ⟨CZ, hs⟩ := bM hs
 obtain ⟨SC, VH⟩ : ∃ x, x = w := ⟨_, rfl⟩
 have rQ : aL (fun b => ob fw b ∨ b = sb) SC w := VH ▸ aL.refl (fun b => ob fw b ∨ b = sb) w
 refine rW VH.symm (oF 4 6 (by kernel_rfl) rfl ax rfl ax ?_ ?_)
 refine ae (aD h 1 rfl iR rfl rfl) (ah (aX rQ (bS 6 (by kernel_rfl) rfl ax ?_)))
 have Ed : (Value.oneCell' eD) = true := (h.dJ 105 rfl).one
 refine zk (R := aB.raw) (vs := [(.agg #[(.int .i64 (b.b)), (.int .i64 (0)), eD, (.int .i64 (b.a))])]) (xs := List.zip [(⟨b.b, 0, y9, b.a⟩ : LX.Frame)] [eD]) h 263 pJ rfl rfl rfl ⟨⟨rfl, Ed⟩, trivial⟩ rfl fun w Gz h Ee Ef => ?_
 have PO : ∀ b, ob Gz b → SC.heap.size ≤ b := fun b hb => Nat.le_trans rQ.size (Ef b hb)
 replace rQ := rQ.grow Ee
 replace h := h.wQ (N := aB) 105 (⟨b.b, 0, y9, b.a⟩ : LX.Frame) rfl rfl
 refine ah (aX rQ (bS 7 (by kernel_rfl) rfl ax ?_))
 have wE := h.iK 3 rfl
 have yu := h.iK 105 rfl
 have PQ := rQ.size
 refine pg (R := aB.raw) (m := List.zip [(⟨b.b, 0, y9, b.a⟩ : LX.Frame)] [eD]) h 2 rfl (h.eF 263 rfl) pJ rfl rfl rfl (by rw [dX wE, dX yu]; exact CZ.1) (by rw [dX wE, dX yu]; exact CZ.2) fun w qc h Eg Eh => ?_
 have PR : ∀ b, ob qc b → b < SC.heap.size → ob fw b := fun b hb hl => Eh b hb (Nat.lt_of_lt_of_le hl (rQ).size)
 replace rQ := aL.step rQ Eg (fun _ hx _ => .inl (hx))
 replace h := (h.wN 3 105 rfl rfl (by decide)).fK 263
 rw [wO wE, ← List.map_append] at h
 obtain ⟨tN, BR⟩ : ∃ z, z = fF ++ [eD] := ⟨_, rfl⟩
 rw [← BR] at h
 refine ah (aX rQ (bu 8 rQ rfl ax (by kernel_rfl) (by kernel_rfl) (by kernel_rfl) (fun w hk => bT rfl) (bu 9 rQ rfl ax (by kernel_rfl) (by kernel_rfl) (by kernel_rfl) (fun w hk => ak dY rfl) (bS 10 (by kernel_rfl) rfl ax (qX h 1 [qc, vs1, (.int .i64 (sx.status)), (.int .i64 (sx.aV))] rfl iR rfl rfl rfl rfl (h.dJ 2 rfl).one fun w h Ei => ?_)))))
 replace rQ := aL.step rQ Ei (fun _ hx _ => .inr (hx))
 refine ah (aX rQ (gJ (by kernel_rfl) (aa (ai (ag (ae (aj (v := (.bool (true))) rfl) (ah (aa (aK (cu (v := (.bool (true))) Tryz.results90 rfl ?_))))))))))
 replace h := h.pair 1 2 (by decide)
 replace h := h.pair 1 3 (by decide)
 replace h := h.pair 1 4 (by decide)
 replace h := h.pair 1 5 (by decide)
 obtain rfl := Option.some.inj hs
 subst zt
 obtain ⟨o1, o2, o3⟩ := h.qD 1 (C := (.two (.two (.two (.two (.blk sb [qc, vs1, (.int .i64 (sx.status)), (.int .i64 (sx.aV))]) (.own aB.raw 49 qc (List.zip (sx.frames ++ [(⟨b.b, 0, y9, b.a⟩ : LX.Frame)]) tN))) (.bL (aR aM 51 hn tN (List.map aB.sub (sx.frames ++ [(⟨b.b, 0, y9, b.a⟩ : LX.Frame)]))))) (.own (aT Val).raw 47 vs1 (List.zip sx.cells fq))) (.bL (aR aM 51 hn fq (List.map (aT Val).sub sx.cells))) : Chunk)) rfl ⟨⟨⟨⟨trivial, trivial⟩, trivial⟩, trivial⟩, trivial⟩
 exact ⟨o2, qc, vs1, tN, fq, rfl, o1, o3⟩
 have Ed : (Value.oneCell' eD) = true := (h.dJ 105 rfl).one
 refine zk (R := aB.raw) (vs := [(.agg #[(.int .i64 (b.b)), (.int .i64 (0)), eD, (.int .i64 (b.a))])]) (xs := List.zip [(⟨b.b, 0, y9, b.a⟩ : LX.Frame)] [eD]) h 263 pJ rfl rfl rfl ⟨⟨rfl, Ed⟩, trivial⟩ rfl fun w Gz h Ee Ef => ?_
 have PO : ∀ b, ob Gz b → SC.heap.size ≤ b := fun b hb => Nat.le_trans rQ.size (Ef b hb)
 replace rQ := rQ.grow Ee
 replace h := h.wQ (N := aB) 105 (⟨b.b, 0, y9, b.a⟩ : LX.Frame) rfl rfl
 refine ah (aX rQ (bS 4 (by kernel_rfl) rfl ax (ae (aD h 1 rfl iR rfl rfl) (ah (aX rQ (bS 7 (by kernel_rfl) rfl ax ?_))))))
 have wE := h.iK 3 rfl
 have yu := h.iK 105 rfl
 have PQ := rQ.size
 refine pg (R := aB.raw) (m := List.zip [(⟨b.b, 0, y9, b.a⟩ : LX.Frame)] [eD]) h 2 rfl (h.eF 263 rfl) pJ rfl rfl rfl (by rw [dX wE, dX yu]; exact CZ.1) (by rw [dX wE, dX yu]; exact CZ.2) fun w qc h Eg Eh => ?_
 have PR : ∀ b, ob qc b → b < SC.heap.size → ob fw b := fun b hb hl => Eh b hb (Nat.lt_of_lt_of_le hl (rQ).size)
 replace rQ := aL.step rQ Eg (fun _ hx _ => .inl (hx))
 replace h := (h.wN 3 105 rfl rfl (by decide)).fK 263
 rw [wO wE, ← List.map_append] at h
 obtain ⟨tN, BR⟩ : ∃ z, z = fF ++ [eD] := ⟨_, rfl⟩
 rw [← BR] at h
 refine ah (aX rQ (bu 8 rQ rfl ax (by kernel_rfl) (by kernel_rfl) (by kernel_rfl) (fun w hk => bT rfl) (bu 9 rQ rfl ax (by kernel_rfl) (by kernel_rfl) (by kernel_rfl) (fun w hk => ak dY rfl) (bS 10 (by kernel_rfl) rfl ax (qX h 1 [qc, vs1, (.int .i64 (sx.status)), (.int .i64 (sx.aV))] rfl iR rfl rfl rfl rfl (h.dJ 2 rfl).one fun w h Ei => ?_)))))
 replace rQ := aL.step rQ Ei (fun _ hx _ => .inr (hx))
 refine ah (aX rQ (gJ (by kernel_rfl) (aa (ai (ag (ae (aj (v := (.bool (true))) rfl) (ah (aa (aK (cu (v := (.bool (true))) Tryz.results90 rfl ?_))))))))))
 replace h := h.pair 1 2 (by decide)
 replace h := h.pair 1 3 (by decide)
 replace h := h.pair 1 4 (by decide)
 replace h := h.pair 1 5 (by decide)
 obtain rfl := Option.some.inj hs
 subst zt
 obtain ⟨o1, o2, o3⟩ := h.qD 1 (C := (.two (.two (.two (.two (.blk sb [qc, vs1, (.int .i64 (sx.status)), (.int .i64 (sx.aV))]) (.own aB.raw 49 qc (List.zip (sx.frames ++ [(⟨b.b, 0, y9, b.a⟩ : LX.Frame)]) tN))) (.bL (aR aM 51 hn tN (List.map aB.sub (sx.frames ++ [(⟨b.b, 0, y9, b.a⟩ : LX.Frame)]))))) (.own (aT Val).raw 47 vs1 (List.zip sx.cells fq))) (.bL (aR aM 51 hn fq (List.map (aT Val).sub sx.cells))) : Chunk)) rfl ⟨⟨⟨⟨trivial, trivial⟩, trivial⟩, trivial⟩, trivial⟩
 exact ⟨o2, qc, vs1, tN, fq, rfl, o1, o3⟩
 refine Dw h 153 iy fun w Af h Ea Eb => ?_
 have Ec : ws4.heap.size ≤ Af := Nat.le_trans hg5.size Eb
 replace hg5 := hg5.trans Ea
 refine ah (o7 hg5 (uT 8 (by kernel_rfl) rfl ax (xI (R := aM) (zs := [(.int .i64 (0)), (.int .i64 (0))]) (a := (⟨0, 0⟩ : Val)) h 105 uk bV rfl (by decide) rfl rfl Ox rfl (fun _ _ => rfl) fun w eD h Gw Gx => ?_)))
 have SB : ∀ b, ob eD b → ws4.heap.size ≤ b := fun b hb => Nat.le_trans hg5.size (Gx b hb)
 replace hg5 := hg5.trans Gw
 refine ah (o7 hg5 (bZ 11 hg5 rfl ax (by kernel_rfl) (by kernel_rfl) (by kernel_rfl) (fun w hk => dV (pv := [(0, (.int .i64 (b.b))), (2, eD), (3, (.int .i64 (b.a)))]) (out := [(.int .i64 (b.b)), (.int .i64 (0)), eD, (.int .i64 (b.a))]) F5 rfl ⟨0, 1, [(.int .i64 (b.b))], rfl, rfl, rfl, Nat.le_of_ble_eq_true rfl, ⟨2, 1, [eD], rfl, (jh (h.dJ 105 rfl).one), rfl, Nat.le_of_ble_eq_true rfl, ⟨3, 1, [(.int .i64 (b.a))], rfl, rfl, rfl, Nat.le_of_ble_eq_true rfl, rfl⟩⟩⟩) (uT 13 (by kernel_rfl) rfl ax (xe (vs := [(.int .i64 (b.b)), (.int .i64 (0)), eD, (.int .i64 (b.a))]) h 153 [(.int .i64 (b.b)), (.int .i64 (0)), eD, (.int .i64 (b.a))] rfl iy rfl rfl rfl rfl rfl (ay rfl (ay rfl (ay (h.dJ 105 rfl).one (ay rfl bg)))) fun w h Gy => ?_))))
 replace hg5 := hg5.fresh Gy (fun x hx => hx ▸ Ec)
 refine ah (o7 hg5 (rV (by kernel_rfl) (aa (ai (ai (ag (ae (ak vH rfl) (ae (aD h 8 rfl uq rfl rfl) (ae (bW dC rfl (h.mH 7 rfl)) (ae (au (v := (.int .i64 (0))) rfl) (ah (aa (aU (gP (σ := Nat × Int × List Val) (inl [8, 9, 31, 32, 33, 34, 35, 36, 37, 38, 39, 40, 41, 42, 43, 44, 45, 46, 47, 48, 49, 50, 51, 52, 53, 54, 55, 56]) (fun ⟨UN, i62, sZ⟩ => [(31, (.int .i64 (i62)))]) (fun ⟨UN, i62, sZ⟩ w => SH w0 M K0 w (hset [(1, .blk sb [fw, vs1, (.int .i64 (sx.status)), (.int .i64 (sx.aV))]), (2, .own aB.raw 49 fw (List.zip sx.frames fF)), (3, .bL (aR aM 51 hn fF (List.map aB.sub sx.frames))), (4, .own (aT Val).raw 47 vs1 (List.zip sx.cells fq)), (5, .bL (aR aM 51 hn fq (List.map (aT Val).sub sx.cells))), (7, .rd fT Ym b.args), (105, .own aM 51 eD sZ), (153, .blk Af [(.int .i64 (b.b)), (.int .i64 (0)), eD, (.int .i64 (b.a))])]) ∧ i62 = (UN : Int) ∧ dU (Gu sx) (Gv sx b a) i62 (b.args.drop UN) sZ = some r) (fun ⟨UN, i62, sZ⟩ => b.args.length - UN) ⟨0, 0, (List.replicate A8.regs.toNat (⟨0, 0⟩ : Val))⟩ ⟨rfl, trivial⟩ ?_ ?_))))))))))))))
 exact ⟨h.cn _, rfl, hs⟩
 rintro ⟨UN, i62, sZ⟩ w dD ⟨h, hik, hs⟩
 refine ai (ag ?_)
 refine ae (dS rfl rfl) (ah (aa ?_))
 refine ai (iJ rfl (fun e66 => ?_) (fun e66 => ?_))
 refine aG (aa ?_)
 obtain ⟨pV, e67a, e67b⟩ := gy (hik ▸ e66)
 rw [e67b, gU] at hs
 generalize RY : dU (Gu sx) (Gv sx b a) (i62 + 1) (b.args.drop (UN + 1)) = JO at hs
 have e67r := gD ((h.mH 7 rfl)).cB hik e66
 refine ai (aU (ai (ag (ae (au (v := (.int .i64 (i62))) rfl) ?_))))
 obtain ⟨b69, o70, cs71, h, r72, i68⟩ := h.Dm 7 335 rfl dC rfl (iU hik) (gB hik e67a)
 obtain rfl := r72
 refine ae (i68 _ _ _ _ _ _ _ _ _ rfl rfl) (ae (eO (k := 0) h 335 rfl aZ rfl rfl) (ae (aj (v := (.int .i64 (i62))) rfl) (ae (aj (v := (.int .i64 (pV))) rfl) (ah (aa (qP 20 mixed (by kernel_rfl) h fun w h => aJ (ak jW rfl) (aJ (aD h 153 rfl kg rfl rfl) (aJ (au (v := (.int .i64 (i62))) rfl) (aJ (au (v := (.pointer (some ⟨sb, 0, none⟩))) rfl) (aJ (bT rfl) (aJ (ak dY rfl) (aJ (aD h 1 rfl iR rfl rfl) (aJ (au (v := (.pointer (some ⟨sb, 0, none⟩))) rfl) (aJ (bT rfl) (aJ (ak dY rfl) (aJ (aD h 1 rfl iR rfl rfl) (aJ (oM (N := aB) dm rfl (h.eF 2 rfl) (h.iK 3 rfl)) ?_)))))))))))))))))
 obtain ⟨a73, hs⟩ := bM hs
 refine aJ (oz rfl rfl a73) ?_
 obtain ⟨x74, e75, hs⟩ := aQ hs
 obtain ⟨u79, XA, h⟩ := h.pq 3 336 x74.regs rfl rfl (by decide) (aI e75).2 rfl
 obtain ⟨b77, q78, i76⟩ := h.uR 2 rfl dm rfl (aI e75).1 (fe (aI e75).2 XA)
 refine aJ (i76 _ _ _ _ _ _ _ _ _ rfl rfl) (aJ (ak jW rfl) ?_)
 obtain ⟨cs81, m82, r83⟩ := h.xc 2 rfl q78 (fe (aI e75).2 XA)
 obtain ⟨rfl, -⟩ := r83
 refine aJ (oC (k := 2) m82 kg rfl rfl) (aJ (au (v := (.int .i64 (pV))) rfl) ?_)
 obtain ⟨x84, Yl, hs⟩ := aQ hs
 obtain ⟨Oq, q88, i86⟩ := h.uR 336 rfl bK rfl (aI Yl).1 (aI Yl).2
 refine aJ (i86 _ _ _ _ _ _ _ _ _ rfl rfl) ?_
 obtain ⟨cs89, m90, r91⟩ := h.xc 336 rfl q88 (aI Yl).2
 obtain rfl := r91
 refine aJ (mM (k := 0) (vs := [(.int .i64 (x84.kind)), (.int .i64 (x84.n))]) m90 bV rfl rfl rfl (Nat.le_of_ble_eq_true rfl)) ?_
 obtain ⟨x92, e93, hs⟩ := aQ hs
 obtain ⟨b95, q96, i94⟩ := h.uR 105 rfl bK rfl (aI e93).1 (aI e93).2
 refine aJ (i94 _ _ _ _ _ _ _ _ _ rfl rfl) (zi (xg (a' := x84) (vs := [(.int .i64 (x84.kind)), (.int .i64 (x84.n))]) h 105 rfl q96 rfl (aI e93).2 bV rfl rfl rfl rfl rfl fun w h k97 => ah (aA (aa (ag (ae (dH rfl rfl e67r) (ae (au (v := (.int .i64 ((i62 + 1)))) rfl) (ah ?_))))))))
 replace h := h.iO 3 336 rfl rfl (by decide) (aI e75).2 XA rfl
 refine az ?_
 subst RY
 exact jN ⟨UN + 1, i62 + 1, (sZ.set (i62).toNat x84)⟩ ⟨h.cn _, by omega, hs⟩ (by have := of_decide_eq_true e66; dsimp only; omega)
 rw [gz (hik ▸ e66), kI] at hs
 refine dh (aO (aO (bE (aa (ai (mf (L := (fun b => ob fw b ∨ b = sb)) mixed h fun w h => bu 0 (aL.refl _ _) rfl ax (by kernel_rfl) (by kernel_rfl) (by kernel_rfl) (fun w hk => au (v := (.pointer (some ⟨sb, 0, none⟩))) rfl) (bu 1 (aL.refl _ _) rfl ax (by kernel_rfl) (by kernel_rfl) (by kernel_rfl) (fun w hk => au (v := (.pointer (some ⟨sb, 0, none⟩))) rfl) (bu 2 (aL.refl _ _) rfl ax (by kernel_rfl) (by kernel_rfl) (by kernel_rfl) (fun w hk => bT rfl) (bu 3 (aL.refl _ _) rfl ax (by kernel_rfl) (by kernel_rfl) (by kernel_rfl) (fun w hk => ak dY rfl) (bu 5 (aL.refl _ _) rfl ax (by kernel_rfl) (by kernel_rfl) (by kernel_rfl) (fun w hk => have h := h.Dv 2 1 (by decide) rfl rfl hk; dE (vs := [(.int .i64 (b.b)), (.int .i64 (0)), eD, (.int .i64 (b.a))]) h 153 rfl iy rfl rfl rfl) ?_))))))))))
 obtain ⟨A9, hs⟩ := bM hs
 obtain ⟨Lp, SE⟩ : ∃ x, x = w := ⟨_, rfl⟩
 have lT : aL (fun b => ob fw b ∨ b = sb) Lp w := SE ▸ aL.refl (fun b => ob fw b ∨ b = sb) w
 refine rW SE.symm (oF 4 6 (by kernel_rfl) rfl ax rfl ax ?_ ?_)
 refine ae (aD h 1 rfl iR rfl rfl) (ah (aX lT (bS 6 (by kernel_rfl) rfl ax ?_)))
 have BU : (Value.oneCell' eD) = true := (h.dJ 105 rfl).one
 refine zk (R := aB.raw) (vs := [(.agg #[(.int .i64 (b.b)), (.int .i64 (0)), eD, (.int .i64 (b.a))])]) (xs := List.zip [(⟨b.b, 0, sZ, b.a⟩ : LX.Frame)] [eD]) h 409 pJ rfl rfl rfl ⟨⟨rfl, BU⟩, trivial⟩ rfl fun w Ej h BV BX => ?_
 have Nh : ∀ b, ob Ej b → Lp.heap.size ≤ b := fun b hb => Nat.le_trans lT.size (BX b hb)
 replace lT := lT.grow BV
 replace h := h.wQ (N := aB) 105 (⟨b.b, 0, sZ, b.a⟩ : LX.Frame) rfl rfl
 refine ah (aX lT (bS 7 (by kernel_rfl) rfl ax ?_))
 have tO := h.iK 3 rfl
 have wF := h.iK 105 rfl
 have Ni := lT.size
 refine pg (R := aB.raw) (m := List.zip [(⟨b.b, 0, sZ, b.a⟩ : LX.Frame)] [eD]) h 2 rfl (h.eF 409 rfl) pJ rfl rfl rfl (by rw [dX tO, dX wF]; exact A9.1) (by rw [dX tO, dX wF]; exact A9.2) fun w ny h BZ Ca => ?_
 have Nj : ∀ b, ob ny b → b < Lp.heap.size → ob fw b := fun b hb hl => Ca b hb (Nat.lt_of_lt_of_le hl (lT).size)
 replace lT := aL.step lT BZ (fun _ hx _ => .inl (hx))
 replace h := (h.wN 3 105 rfl rfl (by decide)).fK 409
 rw [wO tO, ← List.map_append] at h
 obtain ⟨q8, Ag⟩ : ∃ z, z = fF ++ [eD] := ⟨_, rfl⟩
 rw [← Ag] at h
 refine ah (aX lT (bu 8 lT rfl ax (by kernel_rfl) (by kernel_rfl) (by kernel_rfl) (fun w hk => bT rfl) (bu 9 lT rfl ax (by kernel_rfl) (by kernel_rfl) (by kernel_rfl) (fun w hk => ak dY rfl) (bS 10 (by kernel_rfl) rfl ax (qX h 1 [ny, vs1, (.int .i64 (sx.status)), (.int .i64 (sx.aV))] rfl iR rfl rfl rfl rfl (h.dJ 2 rfl).one fun w h Cb => ?_)))))
 replace lT := aL.step lT Cb (fun _ hx _ => .inr (hx))
 refine ah (aX lT (gJ (by kernel_rfl) (aa (ai (ag (ae (aj (v := (.bool (true))) rfl) (ah (aa (aK (cu (v := (.bool (true))) Tryz.results90 rfl ?_))))))))))
 replace h := h.pair 1 2 (by decide)
 replace h := h.pair 1 3 (by decide)
 replace h := h.pair 1 4 (by decide)
 replace h := h.pair 1 5 (by decide)
 obtain rfl := Option.some.inj hs
 subst zt
 obtain ⟨o1, o2, o3⟩ := h.qD 1 (C := (.two (.two (.two (.two (.blk sb [ny, vs1, (.int .i64 (sx.status)), (.int .i64 (sx.aV))]) (.own aB.raw 49 ny (List.zip (sx.frames ++ [(⟨b.b, 0, sZ, b.a⟩ : LX.Frame)]) q8))) (.bL (aR aM 51 hn q8 (List.map aB.sub (sx.frames ++ [(⟨b.b, 0, sZ, b.a⟩ : LX.Frame)]))))) (.own (aT Val).raw 47 vs1 (List.zip sx.cells fq))) (.bL (aR aM 51 hn fq (List.map (aT Val).sub sx.cells))) : Chunk)) rfl ⟨⟨⟨⟨trivial, trivial⟩, trivial⟩, trivial⟩, trivial⟩
 exact ⟨o2, ny, vs1, q8, fq, rfl, o1, o3⟩
 have BU : (Value.oneCell' eD) = true := (h.dJ 105 rfl).one
 refine zk (R := aB.raw) (vs := [(.agg #[(.int .i64 (b.b)), (.int .i64 (0)), eD, (.int .i64 (b.a))])]) (xs := List.zip [(⟨b.b, 0, sZ, b.a⟩ : LX.Frame)] [eD]) h 409 pJ rfl rfl rfl ⟨⟨rfl, BU⟩, trivial⟩ rfl fun w Ej h BV BX => ?_
 have Nh : ∀ b, ob Ej b → Lp.heap.size ≤ b := fun b hb => Nat.le_trans lT.size (BX b hb)
 replace lT := lT.grow BV
 replace h := h.wQ (N := aB) 105 (⟨b.b, 0, sZ, b.a⟩ : LX.Frame) rfl rfl
 refine ah (aX lT (bS 4 (by kernel_rfl) rfl ax (ae (aD h 1 rfl iR rfl rfl) (ah (aX lT (bS 7 (by kernel_rfl) rfl ax ?_))))))
 have tO := h.iK 3 rfl
 have wF := h.iK 105 rfl
 have Ni := lT.size
 refine pg (R := aB.raw) (m := List.zip [(⟨b.b, 0, sZ, b.a⟩ : LX.Frame)] [eD]) h 2 rfl (h.eF 409 rfl) pJ rfl rfl rfl (by rw [dX tO, dX wF]; exact A9.1) (by rw [dX tO, dX wF]; exact A9.2) fun w ny h BZ Ca => ?_
 have Nj : ∀ b, ob ny b → b < Lp.heap.size → ob fw b := fun b hb hl => Ca b hb (Nat.lt_of_lt_of_le hl (lT).size)
 replace lT := aL.step lT BZ (fun _ hx _ => .inl (hx))
 replace h := (h.wN 3 105 rfl rfl (by decide)).fK 409
 rw [wO tO, ← List.map_append] at h
 obtain ⟨q8, Ag⟩ : ∃ z, z = fF ++ [eD] := ⟨_, rfl⟩
 rw [← Ag] at h
 refine ah (aX lT (bu 8 lT rfl ax (by kernel_rfl) (by kernel_rfl) (by kernel_rfl) (fun w hk => bT rfl) (bu 9 lT rfl ax (by kernel_rfl) (by kernel_rfl) (by kernel_rfl) (fun w hk => ak dY rfl) (bS 10 (by kernel_rfl) rfl ax (qX h 1 [ny, vs1, (.int .i64 (sx.status)), (.int .i64 (sx.aV))] rfl iR rfl rfl rfl rfl (h.dJ 2 rfl).one fun w h Cb => ?_)))))
 replace lT := aL.step lT Cb (fun _ hx _ => .inr (hx))
 refine ah (aX lT (gJ (by kernel_rfl) (aa (ai (ag (ae (aj (v := (.bool (true))) rfl) (ah (aa (aK (cu (v := (.bool (true))) Tryz.results90 rfl ?_))))))))))
 replace h := h.pair 1 2 (by decide)
 replace h := h.pair 1 3 (by decide)
 replace h := h.pair 1 4 (by decide)
 replace h := h.pair 1 5 (by decide)
 obtain rfl := Option.some.inj hs
 subst zt
 obtain ⟨o1, o2, o3⟩ := h.qD 1 (C := (.two (.two (.two (.two (.blk sb [ny, vs1, (.int .i64 (sx.status)), (.int .i64 (sx.aV))]) (.own aB.raw 49 ny (List.zip (sx.frames ++ [(⟨b.b, 0, sZ, b.a⟩ : LX.Frame)]) q8))) (.bL (aR aM 51 hn q8 (List.map aB.sub (sx.frames ++ [(⟨b.b, 0, sZ, b.a⟩ : LX.Frame)]))))) (.own (aT Val).raw 47 vs1 (List.zip sx.cells fq))) (.bL (aR aM 51 hn fq (List.map (aT Val).sub sx.cells))) : Chunk)) rfl ⟨⟨⟨⟨trivial, trivial⟩, trivial⟩, trivial⟩, trivial⟩
 exact ⟨o2, ny, vs1, q8, fq, rfl, o1, o3⟩
def Oy (sx : LX.State) (a : Val) (b : Int) : Option LX.State :=
  ib (jO ((sx.frames.length : Int) - 1)) ((sub? sx.frames 0 ((sx.frames.length : Int) - 1)).bind fun x3 => bif decide ((((sx.frames.take (((sx.frames.length : Int) - 1)).toNat).length : Int) : Int) = 0) then some (⟨(sx.frames.take (((sx.frames.length : Int) - 1)).toNat), sx.cells, 1, sx.aV⟩ : LX.State) else ib (jO (((sx.frames.take (((sx.frames.length : Int) - 1)).toNat).length : Int) - 1)) ((idx (sx.frames.take (((sx.frames.length : Int) - 1)).toNat) (((sx.frames.take (((sx.frames.length : Int) - 1)).toNat).length : Int) - 1)).bind fun eu => (idx eu.regs b).bind fun tq => some (⟨((sx.frames.take (((sx.frames.length : Int) - 1)).toNat).set ((((sx.frames.take (((sx.frames.length : Int) - 1)).toNat).length : Int) - 1)).toNat ({ eu with regs := (eu.regs.set (b).toNat a) })), sx.cells, sx.status, sx.aV⟩ : LX.State)))
theorem PS (w0 : World) (M : BS) (hM : ∀ b, M b → b < w0.heap.size) (sb : Nat) (sx : LX.State) (fw vs1 : Value) (fF fq : List Value) (hC : Chunk.holds w0 M (Chunk.own' (.two (.two (.two (.two (.blk sb [fw, vs1, (.int .i64 (sx.status)), (.int .i64 (sx.aV))]) (.own aB.raw 49 fw (List.zip sx.frames fF))) (.bL (aR aM 51 hn fF (List.map aB.sub sx.frames)))) (.own (aT Val).raw 47 vs1 (List.zip sx.cells fq))) (.bL (aR aM 51 hn fq (List.map (aT Val).sub sx.cells))) : Chunk)) (.two (.two (.two (.two (.blk sb [fw, vs1, (.int .i64 (sx.status)), (.int .i64 (sx.aV))]) (.own aB.raw 49 fw (List.zip sx.frames fF))) (.bL (aR aM 51 hn fF (List.map aB.sub sx.frames)))) (.own (aT Val).raw 47 vs1 (List.zip sx.cells fq))) (.bL (aR aM 51 hn fq (List.map (aT Val).sub sx.cells))) : Chunk)) (hap : ∀ b, Chunk.own' (.two (.two (.two (.two (.blk sb [fw, vs1, (.int .i64 (sx.status)), (.int .i64 (sx.aV))]) (.own aB.raw 49 fw (List.zip sx.frames fF))) (.bL (aR aM 51 hn fF (List.map aB.sub sx.frames)))) (.own (aT Val).raw 47 vs1 (List.zip sx.cells fq))) (.bL (aR aM 51 hn fq (List.map (aT Val).sub sx.cells))) : Chunk) b → ¬ M b) (a : Val) (b : Int) (r : LX.State) (hs : Oy sx a b = some r) :
    Calls Tryz.prog 91 #[(.pointer (some ⟨sb, 0, none⟩)), (.agg #[(.int .i64 (a.kind)), (.int .i64 (a.n))]), (.int .i64 (b))] w0 (fun e w' => aL (Chunk.own' (.two (.two (.two (.two (.blk sb [fw, vs1, (.int .i64 (sx.status)), (.int .i64 (sx.aV))]) (.own aB.raw 49 fw (List.zip sx.frames fF))) (.bL (aR aM 51 hn fF (List.map aB.sub sx.frames)))) (.own (aT Val).raw 47 vs1 (List.zip sx.cells fq))) (.bL (aR aM 51 hn fq (List.map (aT Val).sub sx.cells))) : Chunk)) w0 w' ∧ ∃ AU, ∃ AV, ∃ AX, ∃ AY, e = .returned (.tuple #[]) ∧ Chunk.holds w' M (Chunk.own' (.two (.two (.two (.two (.blk sb [AU, AV, .int .i64 r.status, .int .i64 r.aV]) (.own aB.raw 49 AU (List.zip r.frames AX))) (.bL (aR aM 51 hn AX (List.map aB.sub r.frames)))) (.own (aT Val).raw 47 AV (List.zip r.cells AY))) (.bL (aR aM 51 hn AY (List.map (aT Val).sub r.cells))) : Chunk)) (.two (.two (.two (.two (.blk sb [AU, AV, .int .i64 r.status, .int .i64 r.aV]) (.own aB.raw 49 AU (List.zip r.frames AX))) (.bL (aR aM 51 hn AX (List.map aB.sub r.frames)))) (.own (aT Val).raw 47 AV (List.zip r.cells AY))) (.bL (aR aM 51 hn AY (List.map (aT Val).sub r.cells))) : Chunk) ∧ (∀ b, Chunk.own' (.two (.two (.two (.two (.blk sb [AU, AV, .int .i64 r.status, .int .i64 r.aV]) (.own aB.raw 49 AU (List.zip r.frames AX))) (.bL (aR aM 51 hn AX (List.map aB.sub r.frames)))) (.own (aT Val).raw 47 AV (List.zip r.cells AY))) (.bL (aR aM 51 hn AY (List.map (aT Val).sub r.cells))) : Chunk) b → b < w0.heap.size → Chunk.own' (.two (.two (.two (.two (.blk sb [fw, vs1, (.int .i64 (sx.status)), (.int .i64 (sx.aV))]) (.own aB.raw 49 fw (List.zip sx.frames fF))) (.bL (aR aM 51 hn fF (List.map aB.sub sx.frames)))) (.own (aT Val).raw 47 vs1 (List.zip sx.cells fq))) (.bL (aR aM 51 hn fq (List.map (aT Val).sub sx.cells))) : Chunk) b)) := by
 refine aS (args := [(.pointer (some ⟨sb, 0, none⟩)), (.agg #[(.int .i64 (a.kind)), (.int .i64 (a.n))]), (.int .i64 (b))]) Tryz.func91 rfl Tryz.ntmps91 (Nat.le_of_ble_eq_true rfl) ?_
 have h := SH.EJ hM hC hap
 generalize zt : (.two (.two (.two (.two (.blk sb [fw, vs1, (.int .i64 (sx.status)), (.int .i64 (sx.aV))]) (.own aB.raw 49 fw (List.zip sx.frames fF))) (.bL (aR aM 51 hn fF (List.map aB.sub sx.frames)))) (.own (aT Val).raw 47 vs1 (List.zip sx.cells fq))) (.bL (aR aM 51 hn fq (List.map (aT Val).sub sx.cells))) : Chunk).own' = K0 at h
 replace h := h.bX 1 5 (by decide) rfl rfl
 replace h := h.bX 1 4 (by decide) rfl rfl
 replace h := h.bX 1 3 (by decide) rfl rfl
 replace h := h.bX 1 2 (by decide) rfl rfl
 refine ai (ag (oD (cs := [(.int .i64 (a.kind)), (.int .i64 (a.n))]) h 6 rfl rfl fun w b1 h => ah (aa (ai (qP 14 mixed (by kernel_rfl) h fun w h => aJ (au (v := (.pointer (some ⟨sb, 0, none⟩))) rfl) (aJ (au (v := (.pointer (some ⟨sb, 0, none⟩))) rfl) (aJ (bT rfl) (aJ (ak dY rfl) (aJ (aD h 1 rfl iR rfl rfl) (aJ (au (v := (.pointer (some ⟨sb, 0, none⟩))) rfl) (aJ (bT rfl) (aJ (ak dY rfl) (aJ (aD h 1 rfl iR rfl rfl) (aJ (oM (N := aB) dm rfl (h.eF 2 rfl) (h.iK 3 rfl)) ?_))))))))))))))
 obtain ⟨a2, hs⟩ := bM hs
 refine aJ (oz rfl rfl a2) ?_
 obtain ⟨x3, e4, hs⟩ := aQ hs
 obtain ⟨e7, e7a, Y6, e7c⟩ := QC e4
 have us8z := h.iK 3 rfl
 obtain ⟨u5, h, i6⟩ := h.YJ 2 rfl dm rfl Y6 (by rw [dX us8z]; exact e7c)
 rw [O5] at h
 rw [dX us8z] at i6
 replace h := h.Ua 3 (((sx.frames.length : Int) - 1)).toNat rfl
 generalize List.take (((sx.frames.length : Int) - 1)).toNat fF = Vx at h
 refine aJ (i6 _ _ _ _ _ _ _ _ _ _ rfl (.inl ⟨rfl, rfl⟩) (.inr (congrArg some rfl))) (aJ (bT rfl) (aJ (ak dY rfl) (zi (fJ h 1 [u5, vs1, (.int .i64 (sx.status)), (.int .i64 (sx.aV))] rfl iR rfl rfl rfl rfl (h.dJ 2 rfl).one fun w h => ah (aa (ai (ai (ag (ae (au (v := (.pointer (some ⟨sb, 0, none⟩))) rfl) (ae (bT rfl) (ae (ak dY rfl) (ae (aD h 1 rfl iR rfl rfl) (ae (oM (N := aB) dm rfl (h.eF 2 rfl) (h.iK 3 rfl)) (ae (bJ rfl rfl) (ah (aa (aN hs rfl (fun c9 hs => ?_) (fun c9 hs => ?_))))))))))))))))))
 refine ai (ag (ae (au (v := (.pointer (some ⟨sb, 0, none⟩))) rfl) (ae (bT rfl) (ae (ak nO rfl) (fJ h 1 [u5, vs1, (.int .i64 (1)), (.int .i64 (sx.aV))] rfl aZ rfl rfl rfl rfl rfl fun w h => ah (aa (aK (aC (fin0 Tryz.results91 ?_)))))))))
 replace h := h.pair 1 2 (by decide)
 replace h := h.pair 1 3 (by decide)
 replace h := h.pair 1 4 (by decide)
 replace h := h.pair 1 5 (by decide)
 obtain rfl := Option.some.inj hs
 subst zt
 obtain ⟨o1, o2, o3⟩ := h.qD 1 (C := (.two (.two (.two (.two (.blk sb [u5, vs1, (.int .i64 (1)), (.int .i64 (sx.aV))]) (.own aB.raw 49 u5 (List.zip (sx.frames.take (((sx.frames.length : Int) - 1)).toNat) Vx))) (.bL (aR aM 51 hn Vx (List.map aB.sub (sx.frames.take (((sx.frames.length : Int) - 1)).toNat))))) (.own (aT Val).raw 47 vs1 (List.zip sx.cells fq))) (.bL (aR aM 51 hn fq (List.map (aT Val).sub sx.cells))) : Chunk)) rfl ⟨⟨⟨⟨trivial, trivial⟩, trivial⟩, trivial⟩, trivial⟩
 exact ⟨o2, u5, vs1, Vx, fq, rfl, o1, o3⟩
 refine aG (aa (qP 16 mixed (by kernel_rfl) h fun w h => aJ (au (v := (.pointer (some ⟨sb, 0, none⟩))) rfl) (aJ (bT rfl) (aJ (ak dY rfl) (aJ (aD h 1 rfl iR rfl rfl) (aJ (au (v := (.pointer (some ⟨sb, 0, none⟩))) rfl) (aJ (bT rfl) (aJ (ak dY rfl) (aJ (aD h 1 rfl iR rfl rfl) (aJ (oM (N := aB) dm rfl (h.eF 2 rfl) (h.iK 3 rfl)) ?_))))))))))
 obtain ⟨a10, hs⟩ := bM hs
 refine aJ (oz rfl rfl a10) ?_
 obtain ⟨eu, e12, hs⟩ := aQ hs
 obtain ⟨u16, e17, h⟩ := h.pq 3 8 eu.regs rfl rfl (by decide) (aI e12).2 rfl
 obtain ⟨b14, q15, i13⟩ := h.uR 2 rfl dm rfl (aI e12).1 (fe (aI e12).2 e17)
 refine aJ (i13 _ _ _ _ _ _ _ _ _ rfl rfl) (aJ (ak jW rfl) ?_)
 obtain ⟨cs18, m19, RO⟩ := h.xc 2 rfl q15 (fe (aI e12).2 e17)
 obtain ⟨rfl, -⟩ := RO
 refine aJ (oC (k := 2) m19 kg rfl rfl) (aJ (au (v := (.int .i64 (b))) rfl) (aJ (dE (vs := [(.int .i64 (a.kind)), (.int .i64 (a.n))]) h 6 rfl bV rfl rfl rfl) ?_))
 obtain ⟨tq, e22, hs⟩ := aQ hs
 obtain ⟨Yg, q25, i23⟩ := h.uR 8 rfl bK rfl (aI e22).1 (aI e22).2
 refine aJ (i23 _ _ _ _ _ _ _ _ _ rfl rfl) (zi (xg (a' := a) (vs := [(.int .i64 (a.kind)), (.int .i64 (a.n))]) h 8 rfl q25 rfl (aI e22).2 bV rfl rfl rfl rfl rfl fun w h k26 => ah (Ih Tryz.results91 ?_)))
 replace h := h.qQ 2 3 8 ({ eu with regs := (eu.regs.set (b).toNat a) }) rfl rfl rfl (by decide) (by decide) (by decide) (aI e12).2 e17 rfl
 replace h := h.pair 1 2 (by decide)
 replace h := h.pair 1 3 (by decide)
 replace h := h.pair 1 4 (by decide)
 replace h := h.pair 1 5 (by decide)
 obtain rfl := Option.some.inj hs
 subst zt
 obtain ⟨o1, o2, o3⟩ := h.qD 1 (C := (.two (.two (.two (.two (.blk sb [u5, vs1, (.int .i64 (sx.status)), (.int .i64 (sx.aV))]) (.own aB.raw 49 u5 (List.zip ((sx.frames.take (((sx.frames.length : Int) - 1)).toNat).set ((((sx.frames.take (((sx.frames.length : Int) - 1)).toNat).length : Int) - 1)).toNat ({ eu with regs := (eu.regs.set (b).toNat a) })) Vx))) (.bL (aR aM 51 hn Vx (List.map aB.sub ((sx.frames.take (((sx.frames.length : Int) - 1)).toNat).set ((((sx.frames.take (((sx.frames.length : Int) - 1)).toNat).length : Int) - 1)).toNat ({ eu with regs := (eu.regs.set (b).toNat a) })))))) (.own (aT Val).raw 47 vs1 (List.zip sx.cells fq))) (.bL (aR aM 51 hn fq (List.map (aT Val).sub sx.cells))) : Chunk)) rfl ⟨⟨⟨⟨trivial, trivial⟩, trivial⟩, trivial⟩, trivial⟩
 exact ⟨o2, u5, vs1, Vx, fq, rfl, o1, o3⟩
def mG (y31 : Bool) (y34 : List LX.Frame) (UO : List (List Val)) (y38 : Int) (y39 : Int) : Option (DC × Bool × LX.State) :=
  some ((⟨false, 0, y31⟩ : DC), true, (⟨y34, UO, y38, y39⟩ : LX.State))
def GA (sx : LX.State) (pV : Bool) (Hq : List LX.Frame) : Option (DC × Bool × LX.State) :=
  some ((⟨false, 0, false⟩ : DC), pV, (⟨Hq, sx.cells, sx.status, sx.aV⟩ : LX.State))
def Cc (N : Nat) (sx : LX.State) (x3 : LX.Frame) (aW : dx) (aP : Ins) (a : List dx) (Yn : Bool) : Option (DC × Bool × LX.State) :=
  bif Yn then (Le (⟨(sx.frames.set (((sx.frames.length : Int) - 1)).toNat ({ x3 with at_ := (min (x3.at_ + 1) ((aW.code.length : Int) - 1)) })), sx.cells, sx.status, sx.aV⟩ : LX.State) aP ((sx.frames.length : Int) - 1) ({ x3 with at_ := (min (x3.at_ + 1) ((aW.code.length : Int) - 1)) })).bind fun eT => some ((⟨false, 0, false⟩ : DC), eT.1, eT.2) else bif decide ((aP.op : Int) = 5) then (Ll N (⟨(sx.frames.set (((sx.frames.length : Int) - 1)).toNat ({ x3 with at_ := (min (x3.at_ + 1) ((aW.code.length : Int) - 1)) })), sx.cells, sx.status, sx.aV⟩ : LX.State) aP).bind fun eU => some ((⟨false, 0, false⟩ : DC), eU.1, eU.2) else bif decide ((aP.op : Int) = 7) then (Ov (⟨(sx.frames.set (((sx.frames.length : Int) - 1)).toNat ({ x3 with at_ := (min (x3.at_ + 1) ((aW.code.length : Int) - 1)) })), sx.cells, sx.status, sx.aV⟩ : LX.State) a aP).bind fun dP => some ((⟨false, 0, false⟩ : DC), dP.1, dP.2) else bif decide ((aP.op : Int) = 8) then (idx x3.regs aP.a).bind fun SF => (Oy (⟨(sx.frames.set (((sx.frames.length : Int) - 1)).toNat ({ x3 with at_ := (min (x3.at_ + 1) ((aW.code.length : Int) - 1)) })), sx.cells, sx.status, sx.aV⟩ : LX.State) SF x3.kG).bind fun Ce => mG false Ce.frames Ce.cells Ce.status Ce.aV else bif decide ((aP.op : Int) = 9) then (idx x3.regs aP.a).bind fun nz => some ((⟨true, nz.n, false⟩ : DC), decide ((nz.kind : Int) = 1), (⟨(sx.frames.set (((sx.frames.length : Int) - 1)).toNat ({ x3 with at_ := (min (x3.at_ + 1) ((aW.code.length : Int) - 1)) })), sx.cells, sx.status, sx.aV⟩ : LX.State)) else bif decide ((aP.op : Int) = 10) then mG true (sx.frames.set (((sx.frames.length : Int) - 1)).toNat ({ x3 with at_ := (min (x3.at_ + 1) ((aW.code.length : Int) - 1)) })) sx.cells sx.status sx.aV else bif decide ((aP.op : Int) = 11) then (idx x3.regs aP.a).bind fun SG => bif decide ((SG.kind : Int) ≠ 1) then some ((⟨false, 0, false⟩ : DC), false, (⟨(sx.frames.set (((sx.frames.length : Int) - 1)).toNat ({ x3 with at_ := (min (x3.at_ + 1) ((aW.code.length : Int) - 1)) })), sx.cells, sx.status, sx.aV⟩ : LX.State)) else mG true (sx.frames.set (((sx.frames.length : Int) - 1)).toNat ({ x3 with at_ := (min (x3.at_ + 1) ((aW.code.length : Int) - 1)) })) sx.cells 3 SG.n else bif decide ((aP.op : Int) = 12) then mG false ((sx.frames.set (((sx.frames.length : Int) - 1)).toNat ({ x3 with at_ := (min (x3.at_ + 1) ((aW.code.length : Int) - 1)) })).set (((sx.frames.length : Int) - 1)).toNat ({ x3 with at_ := aP.b })) sx.cells sx.status sx.aV else bif decide ((aP.op : Int) = 13) then (idx x3.regs aP.a).bind fun Cf => bif (decide ((Cf.kind : Int) = 0) || (decide ((Cf.kind : Int) = 1) && decide ((Cf.n : Int) = 0))) then mG false ((sx.frames.set (((sx.frames.length : Int) - 1)).toNat ({ x3 with at_ := (min (x3.at_ + 1) ((aW.code.length : Int) - 1)) })).set (((sx.frames.length : Int) - 1)).toNat ({ x3 with at_ := aP.b })) sx.cells sx.status sx.aV else mG false (sx.frames.set (((sx.frames.length : Int) - 1)).toNat ({ x3 with at_ := (min (x3.at_ + 1) ((aW.code.length : Int) - 1)) })) sx.cells sx.status sx.aV else mG false (sx.frames.set (((sx.frames.length : Int) - 1)).toNat ({ x3 with at_ := (min (x3.at_ + 1) ((aW.code.length : Int) - 1)) })) sx.cells sx.status sx.aV
def Oz (N : Nat) (sx : LX.State) (a : List dx) : Option (DC × Bool × LX.State) :=
  ib (jO ((sx.frames.length : Int) - 1)) ((idx sx.frames ((sx.frames.length : Int) - 1)).bind fun x3 => (idx a x3.proc).bind fun aW => (idx aW.code x3.at_).bind fun aP => ib (jO (x3.at_ + 1)) (ib (jO ((aW.code.length : Int) - 1)) (bif decide ((aP.op : Int) = 1) then (idx x3.regs aP.a).bind fun x41 => mG false ((sx.frames.set (((sx.frames.length : Int) - 1)).toNat ({ x3 with at_ := (min (x3.at_ + 1) ((aW.code.length : Int) - 1)) })).set (((sx.frames.length : Int) - 1)).toNat ({ x3 with at_ := (min (x3.at_ + 1) ((aW.code.length : Int) - 1)), regs := (x3.regs.set (aP.a).toNat (⟨1, aP.b⟩ : Val)) })) sx.cells sx.status sx.aV else bif decide ((aP.op : Int) = 2) then (idx x3.regs aP.b).bind fun ze => (idx x3.regs aP.a).bind fun x56 => mG false ((sx.frames.set (((sx.frames.length : Int) - 1)).toNat ({ x3 with at_ := (min (x3.at_ + 1) ((aW.code.length : Int) - 1)) })).set (((sx.frames.length : Int) - 1)).toNat ({ x3 with at_ := (min (x3.at_ + 1) ((aW.code.length : Int) - 1)), regs := (x3.regs.set (aP.a).toNat ze) })) sx.cells sx.status sx.aV else bif decide ((aP.op : Int) = 3) then (idx aP.args 0).bind fun C8 => (idx x3.regs aP.b).bind fun rH => (idx x3.regs aP.c).bind fun rJ => (VA C8 rH rJ).bind fun gp => (idx x3.regs aP.a).bind fun PT => GA sx gp.2 ((sx.frames.set (((sx.frames.length : Int) - 1)).toNat ({ x3 with at_ := (min (x3.at_ + 1) ((aW.code.length : Int) - 1)) })).set (((sx.frames.length : Int) - 1)).toNat ({ x3 with at_ := (min (x3.at_ + 1) ((aW.code.length : Int) - 1)), regs := (x3.regs.set (aP.a).toNat gp.1) })) else bif decide ((aP.op : Int) = 4) then Cc N sx x3 aW aP a (decide ((aP.op : Int) = 4)) else Cc N sx x3 aW aP a (decide ((aP.op : Int) = 6)))))
end
end Go.Proofs.YtfclkapelkhlpaaGreatDoor
