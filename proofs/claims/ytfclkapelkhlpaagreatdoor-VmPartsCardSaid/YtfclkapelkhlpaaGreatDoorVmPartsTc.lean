/-
  What the law VmParts needs of our own library and of the walks, no more.
-/
import Derived.Test.YtfclkapelkhlpaaGreatDoorProg
import Derived.Test.YtfclkapelkhlpaaGreatDoorVmPartsTb
set_option linter.unusedSimpArgs false
set_option linter.unusedVariables false
set_option maxRecDepth 10000
namespace Go.LX
open Go Go.Proofs
abbrev I6 (n : Int) : Value := .int .i64 n
def rg (a : Nat) : Nat → List Nat
  | 0 => []
  | n + 1 => a :: rg (a + 1) n
abbrev cT (p : Nat) (v0 v1 : Value) (st wh : Int) (f : List Frame) (w0 : List Value) (c : List (List Val)) (w1 : List Value) : Chunk := (.two (.two (.two (.two (.blk p [v0, v1, .int .i64 st, .int .i64 wh]) (.own bR.raw 49 v0 (List.zip f w0))) (.gZ (dC bM 51 hn w0 (List.map bR.sub f)))) (.own (ed Val).raw 47 v1 (List.zip c w1))) (.gZ (dC bM 51 hn w1 (List.map (ed Val).sub c))) : Chunk)
abbrev cU (v0 v1 : Value) (f : List Frame) (w0 : List Value) (c : List (List Val)) (w1 : List Value) : Chunk := (.two (.two (.two (.own bR.raw 49 v0 (List.zip f w0)) (.gZ (dC bM 51 hn w0 (List.map bR.sub f)))) (.own (ed Val).raw 47 v1 (List.zip c w1))) (.gZ (dC bM 51 hn w1 (List.map (ed Val).sub c))) : Chunk)
theorem fJ {α : Type} {a b : α} (h : some a = some b) : a = b := Option.some.inj h
theorem cB {x y : Bool} (c : x = y) : Value.bool x = Value.bool y := congrArg Value.bool c
theorem rq {p : Prop} [Decidable p] (h : decide p = true) : p := of_decide_eq_true h
theorem Sy {a b c : Bool} (h : (a && (b && c)) = true) : a = true ∧ b = true ∧ c = true := by simpa using h
theorem bD {n m : Nat} (h : Nat.ble n m = true) : n ≤ m := Nat.le_of_ble_eq_true h
section
variable {P : Program} {ops : Array Oper} {Q : Exit → Act → World → Prop} {rest : List Oper} {n : Nat} {env : Nat → Value} {w : World} {d : Option Nat} {op : Op} {ty : TypeId} {pos : String} {af : Array Edge}
theorem Ph {j dj : Nat} {b : Bool} (hd : (ops[j]?).bind (·.dst) = some dj) (hv : ev n env (.tmp dj) = .bool true) (hb : (true == b) = false) (h : WL P ops Q rest n (jJ env d undef) w) : WL P ops Q (⟨d, op, ty, pos, af, some (j, b)⟩ :: rest) n env w := gy hd hv hb h
theorem vB {j dj : Nat} {b : Bool} (hd : (ops[j]?).bind (·.dst) = some dj) (hv : ev n env (.tmp dj) = .bool false) (hb : (false == b) = false) (h : WL P ops Q rest n (jJ env d undef) w) : WL P ops Q (⟨d, op, ty, pos, af, some (j, b)⟩ :: rest) n env w := gy hd hv hb h
end
section
variable {P : Program} {Q Q' : Exit → Act → World → Prop} {K1 K2 : Act → World → Prop} {n : Nat} {env : Nat → Value} {w : World} {x y : Code} {l : List Oper} {ops : Array Oper} {id i : Nat}
theorem nG (h : WL P l.toArray (Exit.then (y.wp P Q) Q) l n env w) : WC P (Code.seq (Code.region id l.toArray false) y) Q n env w := aP (aC h)
theorem nN (h : WC P y Q n env w) : WL P ops (Exit.then (y.wp P Q) Q') [] n env w := az (ak h)
theorem nR (h : Q .ret (act n env) w) : WL P ops (Exit.then (Code.ret.wp P Q) Q') [] n env w := az (ak (tK h))
theorem nJ (h : WL P l.toArray (Exit.then (y.wp P Q) Q) l n env w) : WL P ops (Exit.then ((Code.seq (Code.region id l.toArray false) y).wp P Q) Q') [] n env w := nN (nG h)
theorem nK (h : WL P l.toArray (Exit.then (x.wp P (Exit.then (y.wp P Q) Q)) (Exit.then (y.wp P Q) Q)) l n env w) : WL P ops (Exit.then ((Code.seq (Code.seq (Code.region id l.toArray false) x) y).wp P Q) Q') [] n env w := nN (aP (nG h))
theorem nS (h : WL P l.toArray (Exit.then (y.wp P Q) Q) l n env w) : WC P .skip (Exit.then ((Code.seq (Code.region id l.toArray false) y).wp P Q) Q') n env w := aF (ak (nG h))
theorem nE (h : WL P l.toArray (Exit.then (y.wp P Q) Q) l n env w) : WC P (.exit i) (Exit.then K1 (Exit.then K2 (Exit.inBlock i (Exit.then ((Code.seq (Code.region id l.toArray false) y).wp P Q) Q')))) n env w := gV (bA (bA (dE (ak (nG h)))))
end
section
variable {P : Program} {ops : Array Oper} {Q : Exit → Act → World → Prop} {n : Nat} {env : Nat → Value} {w ws : World} {d : Option Nat} {op : Op} {ty : TypeId} {pos : String} {af : Array Edge} {fuel : Nat} {listed : Array Bool} {v : Value} {L : BS}
theorem pJ (i : Nat) (hS : Grow ws w) (hi : ops[i]? = some ⟨d, op, ty, pos, af, none⟩) (h3 : (Region.noSelect ops && (Region.free .any ops listed i && (Region.ready .any ops listed).contains i)) = true) (he : ∀ wq, Grow ws wq → (execOp (ev n env) ⟨d, op, ty, pos, af, none⟩).run P wq = .ok (.value v) wq) (h : WH P ops ws Q fuel (listed.setIfInBounds i true) n (jJ env d v) w) : WH P ops ws Q (fuel + 1) listed n env w := eP i hS hi aj (Sy h3).1 (Sy h3).2.1 (Sy h3).2.2 he h
theorem cO (i : Nat) (hS : aI L ws w) (hi : ops[i]? = some ⟨d, op, ty, pos, af, none⟩) (h3 : (Region.noSelect ops && (Region.free .any ops listed i && (Region.ready .any ops listed).contains i)) = true) (he : ∀ wq, aI L ws wq → (execOp (ev n env) ⟨d, op, ty, pos, af, none⟩).run P wq = .ok (.value v) wq) (h : Sm P ops L ws Q fuel (listed.setIfInBounds i true) n (jJ env d v) w) : Sm P ops L ws Q (fuel + 1) listed n env w := bB i hS hi aj (Sy h3).1 (Sy h3).2.1 (Sy h3).2.2 he h
end
end Go.LX
namespace Go.Proofs.YtfclkapelkhlpaaGreatDoor
open Go Go.Proofs Go.LX
noncomputable section
theorem KO : oh Tryz.prog 111 147 6 112 := ⟨Tryz.underlying111, tN (z := (.agg #[(I6 0), (I6 0), (.slice none 0 0), (.slice none 0 0), (.slice none 0 0), (.slice none 0 0)])) (by kernel_rfl) rfl⟩
theorem KP : oh Tryz.prog 145 160 2 16 := ⟨Tryz.underlying145, tN (z := (.agg #[(I6 0), (I6 0)])) (by kernel_rfl) rfl⟩
theorem KQ : oh Tryz.prog 153 9 1 16 := ⟨Tryz.underlying153, tN (z := (aV [])) (by kernel_rfl) rfl⟩
theorem Sz : oh Tryz.prog 204 111 1 24 := ⟨Tryz.underlying204, tN (z := (.slice none 0 0)) (by kernel_rfl) rfl⟩
theorem NC : oh Tryz.prog 22 57 3 40 := ⟨Tryz.underlying22, tN (z := (.agg #[(I6 0), (I6 0), (.slice none 0 0)])) (by kernel_rfl) rfl⟩
theorem qg : oh Tryz.prog 23 49 4 48 := ⟨Tryz.underlying23, tN (z := (.agg #[(I6 0), (I6 0), (.slice none 0 0), (I6 0)])) (by kernel_rfl) rfl⟩
theorem rE : oh Tryz.prog 24 47 1 24 := ⟨Tryz.underlying24, tN (z := (.slice none 0 0)) (by kernel_rfl) rfl⟩
theorem jg : oh Tryz.prog 27 3 1 8 := ⟨Tryz.underlying27, tN (z := (I6 0)) (by kernel_rfl) rfl⟩
theorem vM : oh Tryz.prog 47 51 2 16 := ⟨Tryz.underlying47, tN (z := (.agg #[(I6 0), (I6 0)])) (by kernel_rfl) rfl⟩
theorem eT : oh Tryz.prog 55 93 5 56 := ⟨Tryz.underlying55, tN (z := (.agg #[(I6 0), (I6 0), (I6 0), (I6 0), (.slice none 0 0)])) (by kernel_rfl) rfl⟩
theorem ND : oh Tryz.prog 67 113 3 40 := ⟨Tryz.underlying67, tN (z := (.agg #[(I6 0), (I6 0), (.slice none 0 0)])) (by kernel_rfl) rfl⟩
theorem Vh : fH Tryz.prog 101 0 0 := ⟨_, _, 0, Tryz.underlying101, rfl, rfl, by kernel_rfl⟩
theorem Vi : fH Tryz.prog 101 1 1 := ⟨_, _, 0, Tryz.underlying101, rfl, rfl, by kernel_rfl⟩
theorem Iz : fH Tryz.prog 101 2 2 := ⟨_, _, 0, Tryz.underlying101, rfl, rfl, by kernel_rfl⟩
theorem vN : fH Tryz.prog 113 0 0 := ⟨_, _, 0, Tryz.underlying113, rfl, rfl, by kernel_rfl⟩
theorem zn : fH Tryz.prog 113 1 1 := ⟨_, _, 0, Tryz.underlying113, rfl, rfl, by kernel_rfl⟩
theorem BK : fH Tryz.prog 113 2 2 := ⟨_, _, 0, Tryz.underlying113, rfl, rfl, by kernel_rfl⟩
theorem jX : fH Tryz.prog 147 0 0 := ⟨_, _, 0, Tryz.underlying147, rfl, rfl, by kernel_rfl⟩
theorem vO : fH Tryz.prog 147 1 1 := ⟨_, _, 0, Tryz.underlying147, rfl, rfl, by kernel_rfl⟩
theorem zo : fH Tryz.prog 147 2 2 := ⟨_, _, 0, Tryz.underlying147, rfl, rfl, by kernel_rfl⟩
theorem BL : fH Tryz.prog 147 3 3 := ⟨_, _, 0, Tryz.underlying147, rfl, rfl, by kernel_rfl⟩
theorem zq : fH Tryz.prog 147 4 4 := ⟨_, _, 0, Tryz.underlying147, rfl, rfl, by kernel_rfl⟩
theorem zt : fH Tryz.prog 147 5 5 := ⟨_, _, 0, Tryz.underlying147, rfl, rfl, by kernel_rfl⟩
theorem Ev : fH Tryz.prog 160 0 0 := ⟨_, _, 0, Tryz.underlying160, rfl, rfl, by kernel_rfl⟩
theorem nz : fH Tryz.prog 160 1 1 := ⟨_, _, 0, Tryz.underlying160, rfl, rfl, by kernel_rfl⟩
theorem eH : fH Tryz.prog 26 0 0 := ⟨_, _, 0, Tryz.underlying26, rfl, rfl, by kernel_rfl⟩
theorem jW : fH Tryz.prog 26 1 1 := ⟨_, _, 0, Tryz.underlying26, rfl, rfl, by kernel_rfl⟩
theorem lQ : fH Tryz.prog 26 2 2 := ⟨_, _, 0, Tryz.underlying26, rfl, rfl, by kernel_rfl⟩
theorem Aw : fH Tryz.prog 26 3 3 := ⟨_, _, 0, Tryz.underlying26, rfl, rfl, by kernel_rfl⟩
theorem yE : fH Tryz.prog 49 0 0 := ⟨_, _, 0, Tryz.underlying49, rfl, rfl, by kernel_rfl⟩
theorem vC : fH Tryz.prog 49 1 1 := ⟨_, _, 0, Tryz.underlying49, rfl, rfl, by kernel_rfl⟩
theorem mV : fH Tryz.prog 49 2 2 := ⟨_, _, 0, Tryz.underlying49, rfl, rfl, by kernel_rfl⟩
theorem CG : fH Tryz.prog 49 3 3 := ⟨_, _, 0, Tryz.underlying49, rfl, rfl, by kernel_rfl⟩
theorem tQ : fH Tryz.prog 51 0 0 := ⟨_, _, 0, Tryz.underlying51, rfl, rfl, by kernel_rfl⟩
theorem iG : fH Tryz.prog 51 1 1 := ⟨_, _, 0, Tryz.underlying51, rfl, rfl, by kernel_rfl⟩
theorem Ew : fH Tryz.prog 57 0 0 := ⟨_, _, 0, Tryz.underlying57, rfl, rfl, by kernel_rfl⟩
theorem Ay : fH Tryz.prog 57 1 1 := ⟨_, _, 0, Tryz.underlying57, rfl, rfl, by kernel_rfl⟩
theorem rU : fH Tryz.prog 57 2 2 := ⟨_, _, 0, Tryz.underlying57, rfl, rfl, by kernel_rfl⟩
theorem qa : fH Tryz.prog 93 0 0 := ⟨_, _, 0, Tryz.underlying93, rfl, rfl, by kernel_rfl⟩
theorem kE : fH Tryz.prog 93 1 1 := ⟨_, _, 0, Tryz.underlying93, rfl, rfl, by kernel_rfl⟩
theorem iR : fH Tryz.prog 93 2 2 := ⟨_, _, 0, Tryz.underlying93, rfl, rfl, by kernel_rfl⟩
theorem qJ : fH Tryz.prog 93 3 3 := ⟨_, _, 0, Tryz.underlying93, rfl, rfl, by kernel_rfl⟩
theorem xe : fH Tryz.prog 93 4 4 := ⟨_, _, 0, Tryz.underlying93, rfl, rfl, by kernel_rfl⟩
theorem Mg : gP Tryz.prog 100 := ⟨_, Tryz.func100, by kernel_rfl, rfl⟩
theorem X8 : gP Tryz.prog 101 := ⟨_, Tryz.func101, by kernel_rfl, rfl⟩
theorem Ex : gP Tryz.prog 102 := ⟨_, Tryz.func102, by kernel_rfl, rfl⟩
theorem Az : gP Tryz.prog 103 := ⟨_, Tryz.func103, by kernel_rfl, rfl⟩
theorem Ru : gP Tryz.prog 104 := ⟨_, Tryz.func104, by kernel_rfl, rfl⟩
theorem X9 : gP Tryz.prog 105 := ⟨_, Tryz.func105, by kernel_rfl, rfl⟩
theorem Mh : gP Tryz.prog 106 := ⟨_, Tryz.func106, by kernel_rfl, rfl⟩
theorem Rv : gP Tryz.prog 107 := ⟨_, Tryz.func107, by kernel_rfl, rfl⟩
theorem Mi : gP Tryz.prog 108 := ⟨_, Tryz.func108, by kernel_rfl, rfl⟩
theorem Mj : gP Tryz.prog 109 := ⟨_, Tryz.func109, by kernel_rfl, rfl⟩
theorem Ya : gP Tryz.prog 110 := ⟨_, Tryz.func110, by kernel_rfl, rfl⟩
theorem Rw : gP Tryz.prog 111 := ⟨_, Tryz.func111, by kernel_rfl, rfl⟩
theorem Yb : gP Tryz.prog 112 := ⟨_, Tryz.func112, by kernel_rfl, rfl⟩
theorem Yc : gP Tryz.prog 113 := ⟨_, Tryz.func113, by kernel_rfl, rfl⟩
theorem Yd : gP Tryz.prog 114 := ⟨_, Tryz.func114, by kernel_rfl, rfl⟩
theorem Ye : gP Tryz.prog 115 := ⟨_, Tryz.func115, by kernel_rfl, rfl⟩
theorem HZ : gP Tryz.prog 116 := ⟨_, Tryz.func116, by kernel_rfl, rfl⟩
theorem Rx : gP Tryz.prog 117 := ⟨_, Tryz.func117, by kernel_rfl, rfl⟩
theorem Yf : gP Tryz.prog 124 := ⟨_, Tryz.func124, by kernel_rfl, rfl⟩
theorem H5 : gP Tryz.prog 125 := ⟨_, Tryz.func125, by kernel_rfl, rfl⟩
theorem Ry : gP Tryz.prog 128 := ⟨_, Tryz.func128, by kernel_rfl, rfl⟩
theorem Mk : gP Tryz.prog 129 := ⟨_, Tryz.func129, by kernel_rfl, rfl⟩
theorem Ml : gP Tryz.prog 130 := ⟨_, Tryz.func130, by kernel_rfl, rfl⟩
theorem Yg : gP Tryz.prog 131 := ⟨_, Tryz.func131, by kernel_rfl, rfl⟩
theorem Yh : gP Tryz.prog 141 := ⟨_, Tryz.func141, by kernel_rfl, rfl⟩
theorem AA : gP Tryz.prog 144 := ⟨_, Tryz.func144, by kernel_rfl, rfl⟩
theorem CJ : gP Tryz.prog 145 := ⟨_, Tryz.func145, by kernel_rfl, rfl⟩
theorem Rz : gP Tryz.prog 146 := ⟨_, Tryz.func146, by kernel_rfl, rfl⟩
theorem RA : gP Tryz.prog 147 := ⟨_, Tryz.func147, by kernel_rfl, rfl⟩
theorem Vj : gP Tryz.prog 16 := ⟨_, Tryz.func16, by kernel_rfl, rfl⟩
theorem Yi : gP Tryz.prog 164 := ⟨_, Tryz.func164, by kernel_rfl, rfl⟩
theorem Mm : gP Tryz.prog 18 := ⟨_, Tryz.func18, by kernel_rfl, rfl⟩
theorem Vk : gP Tryz.prog 19 := ⟨_, Tryz.func19, by kernel_rfl, rfl⟩
theorem Dw : gP Tryz.prog 20 := ⟨_, Tryz.func20, by kernel_rfl, rfl⟩
theorem Vl : gP Tryz.prog 26 := ⟨_, Tryz.func26, by kernel_rfl, rfl⟩
theorem FB : gP Tryz.prog 27 := ⟨_, Tryz.func27, by kernel_rfl, rfl⟩
theorem Dx : gP Tryz.prog 28 := ⟨_, Tryz.func28, by kernel_rfl, rfl⟩
theorem aai : gP Tryz.prog 29 := ⟨_, Tryz.func29, by kernel_rfl, rfl⟩
theorem aaj : gP Tryz.prog 30 := ⟨_, Tryz.func30, by kernel_rfl, rfl⟩
theorem aak : gP Tryz.prog 39 := ⟨_, Tryz.func39, by kernel_rfl, rfl⟩
theorem aal : gP Tryz.prog 40 := ⟨_, Tryz.func40, by kernel_rfl, rfl⟩
theorem aam : gP Tryz.prog 44 := ⟨_, Tryz.func44, by kernel_rfl, rfl⟩
theorem aan : gP Tryz.prog 45 := ⟨_, Tryz.func45, by kernel_rfl, rfl⟩
theorem aao : gP Tryz.prog 46 := ⟨_, Tryz.func46, by kernel_rfl, rfl⟩
theorem Vm : gP Tryz.prog 47 := ⟨_, Tryz.func47, by kernel_rfl, rfl⟩
theorem aap : gP Tryz.prog 48 := ⟨_, Tryz.func48, by kernel_rfl, rfl⟩
theorem Mo : gP Tryz.prog 49 := ⟨_, Tryz.func49, by kernel_rfl, rfl⟩
theorem Vn : gP Tryz.prog 50 := ⟨_, Tryz.func50, by kernel_rfl, rfl⟩
theorem yN : gP Tryz.prog 51 := ⟨_, Tryz.func51, by kernel_rfl, rfl⟩
theorem aaq : gP Tryz.prog 53 := ⟨_, Tryz.func53, by kernel_rfl, rfl⟩
theorem PE : gP Tryz.prog 55 := ⟨_, Tryz.func55, by kernel_rfl, rfl⟩
theorem Vo : gP Tryz.prog 63 := ⟨_, Tryz.func63, by kernel_rfl, rfl⟩
theorem aar : gP Tryz.prog 64 := ⟨_, Tryz.func64, by kernel_rfl, rfl⟩
theorem aas : gP Tryz.prog 65 := ⟨_, Tryz.func65, by kernel_rfl, rfl⟩
theorem Mq : gP Tryz.prog 76 := ⟨_, Tryz.func76, by kernel_rfl, rfl⟩
theorem aat : gP Tryz.prog 77 := ⟨_, Tryz.func77, by kernel_rfl, rfl⟩
theorem aau : gP Tryz.prog 78 := ⟨_, Tryz.func78, by kernel_rfl, rfl⟩
theorem aav : gP Tryz.prog 79 := ⟨_, Tryz.func79, by kernel_rfl, rfl⟩
theorem Vp : gP Tryz.prog 80 := ⟨_, Tryz.func80, by kernel_rfl, rfl⟩
theorem PG : gP Tryz.prog 81 := ⟨_, Tryz.func81, by kernel_rfl, rfl⟩
theorem Vq : gP Tryz.prog 82 := ⟨_, Tryz.func82, by kernel_rfl, rfl⟩
theorem PH : gP Tryz.prog 83 := ⟨_, Tryz.func83, by kernel_rfl, rfl⟩
theorem PI : gP Tryz.prog 84 := ⟨_, Tryz.func84, by kernel_rfl, rfl⟩
theorem Vr : gP Tryz.prog 85 := ⟨_, Tryz.func85, by kernel_rfl, rfl⟩
theorem aaw : gP Tryz.prog 86 := ⟨_, Tryz.func86, by kernel_rfl, rfl⟩
theorem Vs : gP Tryz.prog 87 := ⟨_, Tryz.func87, by kernel_rfl, rfl⟩
theorem Vt : gP Tryz.prog 88 := ⟨_, Tryz.func88, by kernel_rfl, rfl⟩
theorem Vu : gP Tryz.prog 89 := ⟨_, Tryz.func89, by kernel_rfl, rfl⟩
theorem Vv : gP Tryz.prog 90 := ⟨_, Tryz.func90, by kernel_rfl, rfl⟩
theorem aax : gP Tryz.prog 91 := ⟨_, Tryz.func91, by kernel_rfl, rfl⟩
theorem SA : UX Tryz.prog 156 := ⟨by kernel_rfl⟩
theorem gq : wJ Tryz.prog 101 [(.bool (false)), (I6 0), (.bool (false))] := ⟨⟨_, Tryz.underlying101, trivial⟩, by kernel_rfl⟩
theorem lS : wJ Tryz.prog 113 [(I6 0), (I6 0), (.slice none 0 0)] := ⟨⟨_, Tryz.underlying113, trivial⟩, by kernel_rfl⟩
theorem oo : wJ Tryz.prog 147 [(I6 0), (I6 0), (.slice none 0 0), (.slice none 0 0), (.slice none 0 0), (.slice none 0 0)] := ⟨⟨_, Tryz.underlying147, trivial⟩, by kernel_rfl⟩
theorem j5 : wJ Tryz.prog 160 [(I6 0), (I6 0)] := ⟨⟨_, Tryz.underlying160, trivial⟩, by kernel_rfl⟩
theorem bE : wJ Tryz.prog 26 [(.slice none 0 0), (.slice none 0 0), (I6 0), (I6 0)] := ⟨⟨_, Tryz.underlying26, trivial⟩, by kernel_rfl⟩
theorem jh : wJ Tryz.prog 49 [(I6 0), (I6 0), (.slice none 0 0), (I6 0)] := ⟨⟨_, Tryz.underlying49, trivial⟩, by kernel_rfl⟩
theorem bT : wJ Tryz.prog 51 [(I6 0), (I6 0)] := ⟨⟨_, Tryz.underlying51, trivial⟩, by kernel_rfl⟩
theorem wK : wJ Tryz.prog 57 [(I6 0), (I6 0), (.slice none 0 0)] := ⟨⟨_, Tryz.underlying57, trivial⟩, by kernel_rfl⟩
theorem qh : wJ Tryz.prog 93 [(I6 0), (I6 0), (I6 0), (I6 0), (.slice none 0 0)] := ⟨⟨_, Tryz.underlying93, trivial⟩, by kernel_rfl⟩
theorem Ey : MapOf Tryz.prog 125 (.bool (false)) := ⟨_, _, Tryz.underlying125, Tryz.underlying3, by kernel_rfl⟩
theorem kN : MapOf Tryz.prog 131 (aV []) := ⟨_, _, Tryz.underlying131, Tryz.underlying3, by kernel_rfl⟩
theorem RB : MapOf Tryz.prog 89 (I6 0) := ⟨_, _, Tryz.underlying89, Tryz.underlying3, by kernel_rfl⟩
theorem pK : One Tryz.prog 111 (.slice none 0 0) := ⟨⟨_, Tryz.underlying111, trivial⟩, by kernel_rfl, rfl⟩
theorem FC : One Tryz.prog 125 (.map none) := ⟨⟨_, Tryz.underlying125, trivial⟩, by kernel_rfl, rfl⟩
theorem xI : One Tryz.prog 145 (.slice none 0 0) := ⟨⟨_, Tryz.underlying145, trivial⟩, by kernel_rfl, rfl⟩
theorem mI : One Tryz.prog 153 (.slice none 0 0) := ⟨⟨_, Tryz.underlying153, trivial⟩, by kernel_rfl, rfl⟩
theorem AB : One Tryz.prog 159 .nilFunc := ⟨⟨_, Tryz.underlying159, trivial⟩, by kernel_rfl, rfl⟩
theorem Mr : One Tryz.prog 165 .nilFunc := ⟨⟨_, Tryz.underlying165, trivial⟩, by kernel_rfl, rfl⟩
theorem IA : One Tryz.prog 166 .nilFunc := ⟨⟨_, Tryz.underlying166, trivial⟩, by kernel_rfl, rfl⟩
theorem jd : One Tryz.prog 23 (.slice none 0 0) := ⟨⟨_, Tryz.underlying23, trivial⟩, by kernel_rfl, rfl⟩
theorem o8 : One Tryz.prog 24 (.slice none 0 0) := ⟨⟨_, Tryz.underlying24, trivial⟩, by kernel_rfl, rfl⟩
theorem vP : One Tryz.prog 27 (.slice none 0 0) := ⟨⟨_, Tryz.underlying27, trivial⟩, by kernel_rfl, rfl⟩
theorem aW : One Tryz.prog 3 (I6 0) := ⟨⟨_, Tryz.underlying3, trivial⟩, by kernel_rfl, rfl⟩
theorem yn : One Tryz.prog 4 (.bool (false)) := ⟨⟨_, Tryz.underlying4, trivial⟩, by kernel_rfl, rfl⟩
theorem nA : One Tryz.prog 47 (.slice none 0 0) := ⟨⟨_, Tryz.underlying47, trivial⟩, by kernel_rfl, rfl⟩
theorem Bh : One Tryz.prog 55 (.slice none 0 0) := ⟨⟨_, Tryz.underlying55, trivial⟩, by kernel_rfl, rfl⟩
theorem zu : One Tryz.prog 67 (.slice none 0 0) := ⟨⟨_, Tryz.underlying67, trivial⟩, by kernel_rfl, rfl⟩
theorem RD : One Tryz.prog 89 (.map none) := ⟨⟨_, Tryz.underlying89, trivial⟩, by kernel_rfl, rfl⟩
theorem zw : One Tryz.prog 9 (aV []) := ⟨⟨_, Tryz.underlying9, trivial⟩, by kernel_rfl, rfl⟩
theorem RF : Rj Tryz.prog 51 := ⟨⟨_, _, Tryz.underlying51, by decide, by decide, rfl, rfl, Tryz.underlying3, Tryz.underlying3, by kernel_rfl, by kernel_rfl⟩, by kernel_rfl, by kernel_rfl⟩
theorem kP : SliceOf Tryz.prog 111 147 6 := ⟨Tryz.underlying111, by kernel_rfl⟩
theorem ku : SliceOf Tryz.prog 145 160 2 := ⟨Tryz.underlying145, by kernel_rfl⟩
theorem eF : SliceOf Tryz.prog 153 9 1 := ⟨Tryz.underlying153, by kernel_rfl⟩
theorem IB : SliceOf Tryz.prog 204 111 1 := ⟨Tryz.underlying204, by kernel_rfl⟩
theorem jP : SliceOf Tryz.prog 22 57 3 := ⟨Tryz.underlying22, by kernel_rfl⟩
theorem dA : SliceOf Tryz.prog 23 49 4 := ⟨Tryz.underlying23, by kernel_rfl⟩
theorem eX : SliceOf Tryz.prog 24 47 1 := ⟨Tryz.underlying24, by kernel_rfl⟩
theorem bY : SliceOf Tryz.prog 27 3 1 := ⟨Tryz.underlying27, by kernel_rfl⟩
theorem bO : SliceOf Tryz.prog 47 51 2 := ⟨Tryz.underlying47, by kernel_rfl⟩
theorem jC : SliceOf Tryz.prog 55 93 5 := ⟨Tryz.underlying55, by kernel_rfl⟩
theorem iH : SliceOf Tryz.prog 67 113 3 := ⟨Tryz.underlying67, by kernel_rfl⟩
theorem SB : Struct Tryz.prog 101 [(.bool (false)), (I6 0), (.bool (false))] [(0, 1), (1, 1), (2, 1)] := ⟨by kernel_rfl, _, Tryz.underlying101, by kernel_rfl⟩
theorem SC : Struct Tryz.prog 113 [(I6 0), (I6 0), (.slice none 0 0)] [(0, 1), (1, 1), (2, 1)] := ⟨by kernel_rfl, _, Tryz.underlying113, by kernel_rfl⟩
theorem SE : Struct Tryz.prog 147 [(I6 0), (I6 0), (.slice none 0 0), (.slice none 0 0), (.slice none 0 0), (.slice none 0 0)] [(0, 1), (1, 1), (2, 1), (3, 1), (4, 1), (5, 1)] := ⟨by kernel_rfl, _, Tryz.underlying147, by kernel_rfl⟩
theorem zx : Struct Tryz.prog 160 [(I6 0), (I6 0)] [(0, 1), (1, 1)] := ⟨by kernel_rfl, _, Tryz.underlying160, by kernel_rfl⟩
theorem xJ : Struct Tryz.prog 26 [(.slice none 0 0), (.slice none 0 0), (I6 0), (I6 0)] [(0, 1), (1, 1), (2, 1), (3, 1)] := ⟨by kernel_rfl, _, Tryz.underlying26, by kernel_rfl⟩
theorem IC : Struct Tryz.prog 49 [(I6 0), (I6 0), (.slice none 0 0), (I6 0)] [(0, 1), (1, 1), (2, 1), (3, 1)] := ⟨by kernel_rfl, _, Tryz.underlying49, by kernel_rfl⟩
theorem vQ : Struct Tryz.prog 51 [(I6 0), (I6 0)] [(0, 1), (1, 1)] := ⟨by kernel_rfl, _, Tryz.underlying51, by kernel_rfl⟩
theorem Vw : Struct Tryz.prog 57 [(I6 0), (I6 0), (.slice none 0 0)] [(0, 1), (1, 1), (2, 1)] := ⟨by kernel_rfl, _, Tryz.underlying57, by kernel_rfl⟩
theorem mq : Struct Tryz.prog 93 [(I6 0), (I6 0), (I6 0), (I6 0), (.slice none 0 0)] [(0, 1), (1, 1), (2, 1), (3, 1), (4, 1)] := ⟨by kernel_rfl, _, Tryz.underlying93, by kernel_rfl⟩
theorem mixed : Tryz.prog.follows .mixedOrders = true := by kernel_rfl
theorem G6 (w0 : World) (M : BS) (hM : ∀ b, M b → b < w0.heap.size) (hT : vK Tryz.prog 4 w0) (a : Str) (b : Str) (r : List Str) (hs : L6 a b = some r) :
    Calls Tryz.prog 101 #[aV a, aV b] w0 (fun e w' => Grow w0 w' ∧ ∃ u, e = .returned u ∧ fu nY w' M u r) :=
  XT Tryz.strings_Split hM hT hs
theorem qi (w0 : World) (M : BS) (hM : ∀ b, M b → b < w0.heap.size) (hT : vK Tryz.prog 4 w0) (a : Str) (r : Int × Bool) (hs : BG a = some r) :
    Calls Tryz.prog 102 #[aV a] w0 (fun e w' => Grow w0 w' ∧ ∃ u, e = .returned (.tuple #[.int .i64 r.1, u]) ∧ Nt u r.2) :=
  ZZ Tryz.strconv_Atoi_ok Tryz.strconv_Atoi_syntax_var Tryz.strconv_Atoi_range_var hT hs
def aX (a : Int) (b : Int) (c : Int) : Bool :=
  (decide ((b : Int) ≤ a) && decide ((a : Int) ≤ c))
theorem gQ (w0 : World) (M : BS) (hM : ∀ b, M b → b < w0.heap.size) (a : Int) (b : Int) (c : Int) (r : Bool) (hs : aX a b c = r) :
    Calls Tryz.prog 51 #[(I6 a), (I6 b), (I6 c)] w0 (fun e w' => Grow w0 w' ∧ e = .returned (.bool r)) := by
 refine aN (args := [(I6 a), (I6 b), (I6 c)]) Tryz.func51 rfl Tryz.ntmps51 (bD rfl) ?_
 have h := SH.init hM
 refine nG (aa (ae (v := (.bool (false))) rfl) (nJ (aa (ag (v := (I6 b)) rfl) (aa (ag (v := (I6 a)) rfl) (aa (Eh rfl rfl) (aa (ag (v := (.bool (decide ((b : Int) ≤ a)))) rfl) (aA rfl rfl (fun q => ag (v := (I6 a)) rfl) (aA rfl rfl (fun q => ag (v := (I6 c)) rfl) (aA rfl rfl (fun q => Eh (dz q) (dz q)) (aa (fD rfl rfl lX) (aa (ae (v := (.bool ((decide ((b : Int) ≤ a) && decide ((a : Int) ≤ c))))) rfl) (nR (bQ (v := (.bool ((decide ((b : Int) ≤ a) && decide ((a : Int) ≤ c))))) Tryz.results51 rfl ?_)))))))))))))
 obtain rfl := hs
 exact ⟨h.grown, rfl⟩
def oq (SF : Int → Option (Int × Bool)) (x40 : Int) : Option (Int × Bool) :=
  SF x40
def ou (F0 : List bu → Int → Option (Int × Bool)) (b : Int) (zb : List bu) (x32 : Int) (SF : Int → Option (Int × Bool)) : Option (Int × Bool) :=
  bif decide ((0 : Int) < (zb.length : Int)) then gL (jN (b - 1)) ((F0 zb (b - 1)).bind fun wI => gL (jN (x32 + wI.1)) (bif ((!wI.2) || decide ((30 : Int) < (x32 + wI.1))) then some (0, false) else oq SF (x32 + wI.1))) else oq SF x32
def ow (SG : Int → Option (Int × Bool)) (x32 : Int) : Option (Int × Bool) :=
  bif decide ((30 : Int) < x32) then some (0, false) else SG x32
def oz (F0 : List bu → Int → Option (Int × Bool)) (b : Int) (a : List bu) (x8 : bu) (x5 : Int) (SG : Int → Option (Int × Bool)) : Option (Int × Bool) :=
  gL (jN (x5 + 1)) (each (ou F0 b) (ow SG) [x8.a, x8.b] (x5 + 1))
def oC (x5 : Int) : Option (Int × Bool) :=
  some (x5, true)
def wX (F0 : List bu → Int → Option (Int × Bool)) (a : List bu) (b : Int) : Option (Int × Bool) :=
  bif decide ((b : Int) < 1) then some (0, false) else each (oz F0 b a) oC a 0
def mr : Nat → List bu → Int → Option (Int × Bool)
  | 0 => fun _ _ => none
  | N + 1 => wX (mr N)
theorem Da : ∀ (N : Nat) (w0 : World) (M : BS) (hM : ∀ b, M b → b < w0.heap.size) (va : Value) (a : List bu) (ha : gB eD w0 BE M va a) (b : Int) (r : Int × Bool) (hs : mr N a b = some r),
    Calls Tryz.prog 128 #[va, (I6 b)] w0 (fun e w' => Grow w0 w' ∧ e = .returned (.tuple #[.int .i64 r.1, .bool r.2])) := by
 intro N
 induction N with
 | zero => intro w0 M hM va a ha b r hs; cases hs
 | succ N ih =>
 intro w0 M hM va a ha b r hs
 replace hs : wX (mr N) a b = some r := hs
 generalize mr N = F0 at hs ih
 refine aN (args := [va, (I6 b)]) Tryz.func128 rfl Tryz.ntmps128 (bD rfl) ?_
 have h := SH.init hM
 replace h := h.fw 1 ha bC
 have vR := ha.bV
 refine nG (aa (ae (v := (I6 0)) rfl) (aa (ae (v := (.bool (false))) rfl) (nK (aa (ag (v := (I6 b)) rfl) (aa (dP rfl rfl) (nN (aG hs rfl (fun c1 hs => ?_) (fun c1 hs => ?_))))))))
 refine nG (aa (ae (v := (I6 0)) rfl) (aa (ae (v := (.bool (false))) rfl) (nR (ay (Fp (v1 := (I6 0)) (v2 := (.bool (false))) Tryz.results128 rfl rfl ?_)))))
 obtain rfl := fJ hs
 exact ⟨h.grown, rfl⟩
 refine nS (aa (ae (v := (I6 0)) rfl) (nK (aa (ag (v := va) rfl) (aa (bS kP rfl (h.gM 1 rfl)) (aa (ag (v := (I6 0)) rfl) (nN (aO (gF (σ := Nat × Int × Int) (inl ([4, 5, 6, 8, 10, 11, 12] ++ rg 17 39)) (fun ⟨k6, i7, x5⟩ => [(6, (I6 x5)), (17, (I6 i7))]) (fun ⟨k6, i7, x5⟩ w => SH w0 M BE w (hset [(1, .sr eD va a)]) ∧ i7 = (k6 : Int) ∧ each (oz F0 b a) oC (a.drop k6) x5 = some r) (fun ⟨k6, i7, x5⟩ => a.length - k6) ⟨0, 0, 0⟩ ⟨rfl, rfl, trivial⟩ ?_ ?_))))))))
 exact ⟨h.cn _, rfl, hs⟩
 rintro ⟨k6, i7, x5⟩ w dx ⟨h, hik, hs⟩
 refine nG ?_
 refine aa (dP rfl rfl) (nN ?_)
 refine aP (iE rfl (fun e11 => ?_) (fun e11 => ?_))
 refine aF (ak ?_)
 obtain ⟨x8, e12a, e12b⟩ := fV (hik ▸ e11)
 rw [e12b, dI] at hs
 generalize hnx10 : each (oz F0 b a) oC (a.drop (k6 + 1)) = SG at hs
 have e12r := gp ((h.gM 1 rfl)).bV hik e11
 refine aP (aO (nG ?_))
 obtain ⟨b14, o15, cs16, h, r17, i13⟩ := h.zg 1 2 rfl kP rfl (iO hik) (gm hik e12a)
 obtain ⟨UA, u20, u22, u24, rfl, g19, g21, g23, g25⟩ := Aq r17
 replace h := h.bX 3 g19.up
 replace h := h.bX 4 g21.up.up
 replace h := h.bX 5 g23.up.up.up
 replace h := h.bX 6 g25.up.up.up.up
 refine aa (i13 _ _ _ _ _ _ _ _ _ rfl rfl) (aa (jH (k := 0) (vs := [(I6 x8.kind), (I6 x8.n), UA, u20, u22, u24]) h 2 rfl oo rfl rfl rfl (bD rfl)) (bU h 7 oo fun w b26 h => dm (vs := [(I6 x8.kind), (I6 x8.n), UA, u20, u22, u24]) h 7 [(I6 x8.kind), (I6 x8.n), UA, u20, u22, u24] rfl oo rfl rfl rfl rfl rfl (ai rfl (ai rfl (ai (h.fo 3 rfl).one (ai (h.fo 4 rfl).one (ai (h.fo 5 rfl).one (ai (h.fo 6 rfl).one aR)))))) fun w h => nJ (aa (ag (v := (I6 x5)) rfl) ?_)))
 obtain ⟨a27, hs⟩ := bg hs
 refine aa (dw rfl rfl a27) (aa (ae (v := (I6 ((x5 + 1)))) rfl) (nK (aa (ah zq rfl) (aa (aB h 7 rfl pK rfl rfl) (aa (ah zt rfl) (aa (aB h 7 rfl pK rfl rfl) (uQ (R := (mP eD)) (vs := [u22, u24]) (xs := [x8.a, x8.b]) h 8 Sz rfl rfl rfl ⟨(h.fo 5 rfl).rdc, ⟨(h.fo 6 rfl).rdc, trivial⟩⟩ rfl fun w u28 h => aa (bS IB rfl (h.dV 8 rfl)) (aa (ag (v := (I6 0)) rfl) (nN (aO ?_))))))))))
 replace h := h.freeze 8 rfl
 refine gF (σ := Nat × Int × Int) (inl ([4, 5, 6, 10, 11, 12] ++ rg 29 24)) (fun ⟨XH, i34, x32⟩ => [(6, (I6 x32)), (29, (I6 i34))]) (fun ⟨XH, i34, x32⟩ w => SH w0 M BE w (hset [(1, .sr eD va a), (8, .rd (mP eD) u28 [x8.a, x8.b])]) ∧ i34 = (XH : Int) ∧ each (ou F0 b) (ow SG) ([x8.a, x8.b].drop XH) x32 = some r) (fun ⟨XH, i34, x32⟩ => [x8.a, x8.b].length - XH) ⟨0, 0, (x5 + 1)⟩ ⟨rfl, rfl, trivial⟩ ?_ ?_
 exact ⟨h.cn _, rfl, hs⟩
 rintro ⟨XH, i34, x32⟩ w dx ⟨h, hik, hs⟩
 refine nG ?_
 refine aa (dP rfl rfl) (nN ?_)
 refine aP (iE rfl (fun e38 => ?_) (fun e38 => ?_))
 refine aF (ak ?_)
 obtain ⟨zb, e39a, e39b⟩ := fV (hik ▸ e38)
 rw [e39b, dI] at hs
 generalize hnx37 : each (ou F0 b) (ow SG) ([x8.a, x8.b].drop (XH + 1)) = SF at hs
 have e39r := gp ((h.mM 8 rfl)).bV hik e38
 refine bW (σ := Int) (inl ([4, 5, 6, 10, 11, 12] ++ rg 31 21)) (fun x40 => [(6, (I6 x40))]) (fun x40 w => SH w0 M BE w (hset [(1, .sr eD va a), (8, .rd (mP eD) u28 [x8.a, x8.b])]) ∧ oq SF x40 = some r) ?_ ?_
 rintro x40 w dx ⟨h, hs⟩
 refine aC (aa (dw rfl rfl e39r) (aa (ag (v := (I6 ((i34 + 1)))) rfl) (az (au ?_))))
 subst hnx37
 exact jV ⟨XH + 1, i34 + 1, x40⟩ ⟨h.cn _, by omega, hs⟩ (by have := rq e38; dsimp only; omega)
 refine aO (nG ?_)
 obtain ⟨b42, o43, cs44, h, r45, i41⟩ := h.Fj 8 9 rfl IB rfl (iO hik) (gm hik e39a)
 obtain ⟨u46, rfl, g47⟩ := r45
 replace h := h.bX 10 g47.up
 refine aa (i41 _ _ _ _ _ _ _ _ _ rfl rfl) (aa (dZ (k := 0) h 9 rfl pK rfl rfl) (aa (ae (v := u46) rfl) (nJ (aa (ag (v := u46) rfl) (aa (bS kP rfl (h.mM 10 rfl)) (aa (jT rfl rfl) (nN (aG hs rfl (fun c48 hs => ?_) (fun c48 hs => ?_)))))))))
 refine nG (aa (ag (v := u46) rfl) (aa (ag (v := (I6 b)) rfl) ?_))
 obtain ⟨a49, hs⟩ := bg hs
 refine aa (mZ rfl rfl a49) ?_
 obtain ⟨wI, e51, hs⟩ := aJ hs
 refine aS Ry rfl rfl (ih _ _ h.lt u46 zb (h.mM 10 rfl) (b - 1) _ e51) ?_
 rintro _ w ⟨k52, rfl⟩
 refine ⟨_, rfl, ?_⟩
 replace h := h.grow k52
 refine aa (ag (v := (.tuple #[(I6 wI.1), (.bool (wI.2))])) rfl) (aa (aU rfl rfl) (aa (aU rfl rfl) (aa (ae (v := (I6 wI.1)) rfl) (aa (ae (v := (.bool (wI.2))) rfl) (nJ (aa (ag (v := (I6 x32)) rfl) (aa (ag (v := (I6 wI.1)) rfl) ?_)))))))
 obtain ⟨a53, hs⟩ := bg hs
 refine aa (dw rfl rfl a53) (aa (ae (v := (I6 ((x32 + wI.1)))) rfl) (nJ (aa (ag (v := (.bool (wI.2))) rfl) (aa (ic rfl) (aa (ag (v := (.bool ((!wI.2)))) rfl) (aA rfl rfl (fun q => ag (v := (I6 ((x32 + wI.1)))) rfl) (aA rfl rfl (fun q => jT (dz q) rfl) (aa (gW rfl rfl lX) (nN (aG hs rfl (fun c54 hs => ?_) (fun c54 hs => ?_)))))))))))
 refine nG (aa (ae (v := (I6 0)) rfl) (aa (ae (v := (.bool (false))) rfl) (nR (aD (ay (ay (aD (ay (aD (ay (ay (aD (ay (Fp (v1 := (I6 0)) (v2 := (.bool (false))) Tryz.results128 rfl rfl ?_))))))))))))))
 obtain rfl := fJ hs
 exact ⟨h.grown, rfl⟩
 refine aF (ax (au ?_))
 exact bP (x32 + wI.1) ⟨h.cn _, hs⟩
 refine aF (ax (au ?_))
 exact bP x32 ⟨h.cn _, hs⟩
 rw [fZ (hik ▸ e38), gG] at hs
 refine nE (aa (ag (v := (I6 x32)) rfl) (aa (jT rfl rfl) (nN (aG hs rfl (fun c55 hs => ?_) (fun c55 hs => ?_)))))
 refine nG (aa (ae (v := (I6 0)) rfl) (aa (ae (v := (.bool (false))) rfl) (nR (aD (ay (ay (aD (ay (Fp (v1 := (I6 0)) (v2 := (.bool (false))) Tryz.results128 rfl rfl ?_)))))))))
 obtain rfl := fJ hs
 exact ⟨h.grown, rfl⟩
 refine aF (ax (ak (aC (aa (dw rfl rfl e12r) (aa (ag (v := (I6 ((i7 + 1)))) rfl) (az (au ?_)))))))
 subst hnx10
 exact jV ⟨k6 + 1, i7 + 1, x32⟩ ⟨h.cn _, by omega, hs⟩ (by have := rq e11; dsimp only; omega)
 rw [fZ (hik ▸ e11), gG] at hs
 refine nE (aa (ag (v := (I6 x5)) rfl) (aa (ae (v := (I6 x5)) rfl) (aa (ae (v := (.bool (true))) rfl) (nR (Fp (v1 := (I6 x5)) (v2 := (.bool (true))) Tryz.results128 rfl rfl ?_)))))
 obtain rfl := fJ hs
 exact ⟨h.grown, rfl⟩
theorem jQ (w0 : World) (M : BS) (hM : ∀ b, M b → b < w0.heap.size) (a : Str) (b : UInt8) (r : Bool) (hs : hasB a b = r) :
    Calls Tryz.prog 145 #[(aV a), (aV [b])] w0 (fun e w' => Grow w0 w' ∧ e = .returned (.bool r)) := by
  refine (Tryz.strings_Contains_one ⟨a.toArray⟩ b w0).mono ?_
  rintro e w' ⟨rfl, rfl⟩
  subst hs
  exact ⟨aI.refl _ _, by simp [hasB]⟩
def aT (a : Int) (b : Int) : Bool :=
  (decide ((0 : Int) ≤ a) && decide ((a : Int) < b))
theorem ru (w0 : World) (M : BS) (hM : ∀ b, M b → b < w0.heap.size) (a : Int) (b : Int) (r : Bool) (hs : aT a b = r) :
    Calls Tryz.prog 55 #[(I6 a), (I6 b)] w0 (fun e w' => Grow w0 w' ∧ e = .returned (.bool r)) := by
 refine aN (args := [(I6 a), (I6 b)]) Tryz.func55 rfl Tryz.ntmps55 (bD rfl) ?_
 have h := SH.init hM
 refine nG (aa (ae (v := (.bool (false))) rfl) (nJ (aa (ag (v := (I6 a)) rfl) (aa (pX rfl rfl) (aa (ag (v := (.bool (decide ((0 : Int) ≤ a)))) rfl) (aA rfl rfl (fun q => ag (v := (I6 a)) rfl) (aA rfl rfl (fun q => ag (v := (I6 b)) rfl) (aA rfl rfl (fun q => dP (dz q) (dz q)) (aa (fD rfl rfl lX) (aa (ae (v := (.bool ((decide ((0 : Int) ≤ a) && decide ((a : Int) < b))))) rfl) (nR (bQ (v := (.bool ((decide ((0 : Int) ≤ a) && decide ((a : Int) < b))))) Tryz.results55 rfl ?_))))))))))))
 obtain rfl := hs
 exact ⟨h.grown, rfl⟩
def eY (a : Int) : Bool :=
  (aX a (-1000000000) 1000000000)
theorem Dy (w0 : World) (M : BS) (hM : ∀ b, M b → b < w0.heap.size) (a : Int) (r : Bool) (hs : eY a = r) :
    Calls Tryz.prog 53 #[(I6 a)] w0 (fun e w' => Grow w0 w' ∧ e = .returned (.bool r)) := by
 refine aN (args := [(I6 a)]) Tryz.func53 rfl Tryz.ntmps53 (bD rfl) ?_
 have h := SH.init hM
 refine nG (aa (ae (v := (.bool (false))) rfl) (nJ (aa (ag (v := (I6 a)) rfl) (aS yN rfl rfl (gQ _ _ h.lt a (-1000000000) 1000000000 _ rfl) ?_))))
 rintro _ w ⟨k1, rfl⟩
 refine ⟨_, rfl, ?_⟩
 replace h := h.grow k1
 refine aa (ae (v := (.bool ((aX a (-1000000000) 1000000000)))) rfl) (nR (bQ (v := (.bool ((aX a (-1000000000) 1000000000)))) Tryz.results53 rfl ?_))
 obtain rfl := hs
 exact ⟨h.grown, rfl⟩
def fM (x2 : Bool) : Int :=
  bif (!x2) then 3 else 0
def ek (a : Tok) (b : List eU) (c : Int) : Int :=
  bif decide ((a.kind : Int) = 1) then fM (eY a.n) else bif decide ((a.kind : Int) = 2) then fM (aT a.n c) else bif decide ((a.kind : Int) = 3) then fM (aX a.n 1 5) else bif decide ((a.kind : Int) = 4) then fM (aX a.n 0 3) else bif decide ((a.kind : Int) = 5) then fM (aX a.n 1 4) else bif decide ((a.kind : Int) = 6) then bif (!(aT a.n (b.length : Int))) then 5 else fM true else 4
theorem tT (w0 : World) (M : BS) (hM : ∀ b, M b → b < w0.heap.size) (a : Tok) (vb : Value) (b : List eU) (hb : gB iU w0 BE M vb b) (c : Int) (r : Int) (hs : ek a b c = r) :
    Calls Tryz.prog 107 #[(.agg #[(I6 a.kind), (I6 a.n)]), vb, (I6 c)] w0 (fun e w' => Grow w0 w' ∧ e = .returned (.int .i64 r)) := by
 refine aN (args := [(.agg #[(I6 a.kind), (I6 a.n)]), vb, (I6 c)]) Tryz.func107 rfl Tryz.ntmps107 (bD rfl) ?_
 have h := SH.init hM
 replace h := h.fw 1 hb bC
 have Ms := hb.bV
 refine nG (oW (cs := [(I6 a.kind), (I6 a.n)]) h 2 rfl rfl fun w b1 h => aa (ae (v := (I6 0)) rfl) (nJ (aa (ae (v := (.bool (false))) rfl) (nN (bW (σ := Bool) (inl (rg 6 38)) (fun x2 => [(7, (.bool (x2)))]) (fun x2 w => SH w0 M BE w (hset []) ∧ fM x2 = r) ?_ ?_)))))
 rintro x2 w dx ⟨h, hs⟩
 refine aP (nG (aa (ag (v := (.bool (x2))) rfl) (aa (ic rfl) (nN (aG hs rfl (fun c3 hs => ?_) (fun c3 hs => ?_))))))
 refine nG (aa (ae (v := (I6 3)) rfl) (nR (ay (bQ (v := (I6 3)) Tryz.results107 rfl ?_))))
 obtain rfl := hs
 exact ⟨h.grown, rfl⟩
 refine nS (aa (ae (v := (I6 0)) rfl) (nR (bQ (v := (I6 0)) Tryz.results107 rfl ?_)))
 obtain rfl := hs
 exact ⟨h.grown, rfl⟩
 refine nG (aa (ah Ev rfl) (aa (aB h 2 rfl aW rfl rfl) (nN (aO (nG (aa (bz rfl rfl) (aa (ae (v := (.bool (decide ((a.kind : Int) = 1)))) rfl) (nN (aG hs rfl (fun c4 hs => ?_) (fun c4 hs => ?_))))))))))
 refine aC (aa (ah nz rfl) (aa (aB h 2 rfl aW rfl rfl) (aS aaq rfl rfl (Dy _ _ h.lt a.n _ rfl) ?_)))
 rintro _ w ⟨k5, rfl⟩
 refine ⟨_, rfl, ?_⟩
 replace h := h.grow k5
 refine aa (ae (v := (.bool ((eY a.n)))) rfl) (az (ax (au ?_)))
 exact bP (eY a.n) ⟨h.cn _, hs⟩
 refine nG (aa (bz rfl rfl) (aa (ae (v := (.bool (decide ((a.kind : Int) = 2)))) rfl) (nN (aG hs rfl (fun c6 hs => ?_) (fun c6 hs => ?_)))))
 refine aC (aa (ah nz rfl) (aa (aB h 2 rfl aW rfl rfl) (aa (ag (v := (I6 c)) rfl) (aS PE rfl rfl (ru _ _ h.lt a.n c _ rfl) ?_))))
 rintro _ w ⟨k7, rfl⟩
 refine ⟨_, rfl, ?_⟩
 replace h := h.grow k7
 refine aa (ae (v := (.bool ((aT a.n c)))) rfl) (az (ax (au ?_)))
 exact bP (aT a.n c) ⟨h.cn _, hs⟩
 refine nG (aa (bz rfl rfl) (aa (ae (v := (.bool (decide ((a.kind : Int) = 3)))) rfl) (nN (aG hs rfl (fun c8 hs => ?_) (fun c8 hs => ?_)))))
 refine aC (aa (ah nz rfl) (aa (aB h 2 rfl aW rfl rfl) (aS yN rfl rfl (gQ _ _ h.lt a.n 1 5 _ rfl) ?_)))
 rintro _ w ⟨k9, rfl⟩
 refine ⟨_, rfl, ?_⟩
 replace h := h.grow k9
 refine aa (ae (v := (.bool ((aX a.n 1 5)))) rfl) (az (ax (au ?_)))
 exact bP (aX a.n 1 5) ⟨h.cn _, hs⟩
 refine nG (aa (bz rfl rfl) (aa (ae (v := (.bool (decide ((a.kind : Int) = 4)))) rfl) (nN (aG hs rfl (fun c10 hs => ?_) (fun c10 hs => ?_)))))
 refine aC (aa (ah nz rfl) (aa (aB h 2 rfl aW rfl rfl) (aS yN rfl rfl (gQ _ _ h.lt a.n 0 3 _ rfl) ?_)))
 rintro _ w ⟨k11, rfl⟩
 refine ⟨_, rfl, ?_⟩
 replace h := h.grow k11
 refine aa (ae (v := (.bool ((aX a.n 0 3)))) rfl) (az (ax (au ?_)))
 exact bP (aX a.n 0 3) ⟨h.cn _, hs⟩
 refine nG (aa (bz rfl rfl) (aa (ae (v := (.bool (decide ((a.kind : Int) = 5)))) rfl) (nN (aG hs rfl (fun c12 hs => ?_) (fun c12 hs => ?_)))))
 refine aC (aa (ah nz rfl) (aa (aB h 2 rfl aW rfl rfl) (aS yN rfl rfl (gQ _ _ h.lt a.n 1 4 _ rfl) ?_)))
 rintro _ w ⟨k13, rfl⟩
 refine ⟨_, rfl, ?_⟩
 replace h := h.grow k13
 refine aa (ae (v := (.bool ((aX a.n 1 4)))) rfl) (az (ax (au ?_)))
 exact bP (aX a.n 1 4) ⟨h.cn _, hs⟩
 refine nG (aa (bz rfl rfl) (aa (ae (v := (.bool (decide ((a.kind : Int) = 6)))) rfl) (nN (aG hs rfl (fun c14 hs => ?_) (fun c14 hs => ?_)))))
 refine aP (nG (aa (ah nz rfl) (aa (aB h 2 rfl aW rfl rfl) (aa (ag (v := vb) rfl) (aa (bS iH rfl (h.gM 1 rfl)) (aS PE rfl rfl (ru _ _ h.lt a.n (b.length : Int) _ rfl) ?_))))))
 rintro _ w ⟨k15, rfl⟩
 refine ⟨_, rfl, ?_⟩
 replace h := h.grow k15
 refine aa (ic rfl) (nN (aG hs rfl (fun c16 hs => ?_) (fun c16 hs => ?_)))
 refine nG (aa (ae (v := (I6 5)) rfl) (nR (ay (aD (ay (bQ (v := (I6 5)) Tryz.results107 rfl ?_))))))
 obtain rfl := hs
 exact ⟨h.grown, rfl⟩
 refine aF (ak (aC (aa (ae (v := (.bool (true))) rfl) (az (ax (au ?_))))))
 exact bP true ⟨h.cn _, hs⟩
 refine nG (aa (ae (v := (I6 4)) rfl) (nR (aD (ay (bQ (v := (I6 4)) Tryz.results107 rfl ?_)))))
 obtain rfl := hs
 exact ⟨h.grown, rfl⟩
def qK (a : Tok) (b : List eU) : Option Int :=
  bif decide ((a.kind : Int) = 3) then some 2 else bif decide ((a.kind : Int) = 4) then some 1 else bif decide ((a.kind : Int) = 6) then (idx b a.n).bind fun x5 => some x5.params else some 0
theorem rY (w0 : World) (M : BS) (hM : ∀ b, M b → b < w0.heap.size) (a : Tok) (vb : Value) (b : List eU) (hb : gB iU w0 BE M vb b) (r : Int) (hs : qK a b = some r) :
    Calls Tryz.prog 108 #[(.agg #[(I6 a.kind), (I6 a.n)]), vb] w0 (fun e w' => Grow w0 w' ∧ e = .returned (.int .i64 r)) := by
 refine aN (args := [(.agg #[(I6 a.kind), (I6 a.n)]), vb]) Tryz.func108 rfl Tryz.ntmps108 (bD rfl) ?_
 have h := SH.init hM
 replace h := h.fw 1 hb bC
 have Ms := hb.bV
 refine nG (oW (cs := [(I6 a.kind), (I6 a.n)]) h 2 rfl rfl fun w b1 h => aa (ae (v := (I6 0)) rfl) (nK (aa (ah Ev rfl) (aa (aB h 2 rfl aW rfl rfl) (nN (aO (nG (aa (bz rfl rfl) (aa (ae (v := (.bool (decide ((a.kind : Int) = 3)))) rfl) (nN (aG hs rfl (fun c2 hs => ?_) (fun c2 hs => ?_))))))))))))
 refine nG (aa (ae (v := (I6 2)) rfl) (nR (aD (ay (bQ (v := (I6 2)) Tryz.results108 rfl ?_)))))
 obtain rfl := fJ hs
 exact ⟨h.grown, rfl⟩
 refine nG (aa (bz rfl rfl) (aa (ae (v := (.bool (decide ((a.kind : Int) = 4)))) rfl) (nN (aG hs rfl (fun c3 hs => ?_) (fun c3 hs => ?_)))))
 refine nG (aa (ae (v := (I6 1)) rfl) (nR (aD (ay (bQ (v := (I6 1)) Tryz.results108 rfl ?_)))))
 obtain rfl := fJ hs
 exact ⟨h.grown, rfl⟩
 refine nG (aa (bz rfl rfl) (aa (ae (v := (.bool (decide ((a.kind : Int) = 6)))) rfl) (nN (aG hs rfl (fun c4 hs => ?_) (fun c4 hs => ?_)))))
 refine nG (aa (ag (v := vb) rfl) (aa (ah nz rfl) (aa (aB h 2 rfl aW rfl rfl) ?_)))
 obtain ⟨x5, e6, hs⟩ := aJ hs
 obtain ⟨b8, o9, cs10, h, r11, i7⟩ := h.zg 1 3 rfl iH rfl (aH e6).1 (aH e6).2
 obtain ⟨XI, rfl, g13⟩ := sG r11
 replace h := h.bX 4 g13.up
 refine aa (i7 _ _ _ _ _ _ _ _ _ rfl rfl) (aa (ah vN rfl) (aa (dZ (k := 0) h 3 rfl aW rfl rfl) (aa (ae (v := (I6 x5.params)) rfl) (nR (aD (ay (bQ (v := (I6 x5.params)) Tryz.results108 rfl ?_)))))))
 obtain rfl := fJ hs
 exact ⟨h.grown, rfl⟩
 refine aF (ax (ak (nG (aa (ae (v := (I6 0)) rfl) (nR (bQ (v := (I6 0)) Tryz.results108 rfl ?_))))))
 obtain rfl := fJ hs
 exact ⟨h.grown, rfl⟩
def tV (a : List Int) (s : Int × Int) (Vx : Int × Int → Option Int) : Option Int :=
  match s with | (Ff, mW) => bif decide ((mW : Int) < (a.length : Int)) then (idx a mW).bind fun x25 => gL (jN (mW + 1)) (Vx ((max Ff x25), (mW + 1))) else some Ff
def slices_Max_int (N : Nat) (a : List Int) : Option Int :=
  bif decide (((a.length : Int) : Int) < 1) then none else (idx a 0).bind fun x2 => again (tV a) N (x2, 1)
theorem FD (N : Nat) (w0 : World) (M : BS) (hM : ∀ b, M b → b < w0.heap.size) (va : Value) (a : List Int) (ha : gB dU w0 BE M va a) (r : Int) (hs : slices_Max_int N a = some r) :
    Calls Tryz.prog 164 #[va] w0 (fun e w' => Grow w0 w' ∧ e = .returned (.int .i64 r)) := by
 refine aN (args := [va]) Tryz.func164 rfl Tryz.ntmps164 (bD rfl) ?_
 have h := SH.init hM
 replace h := h.fw 1 ha bC
 have vR := ha.bV
 refine nG (aa (ae (v := (I6 0)) rfl) (nK (aa (ag (v := va) rfl) (aa (bS bY rfl (h.gM 1 rfl)) (aa (dP rfl rfl) (nN (aG hs rfl (fun c1 hs => ?_) (fun c1 hs => ?_))))))))
 cases hs
 refine nS (aa (ag (v := va) rfl) ?_)
 obtain ⟨x2, e3, hs⟩ := aJ hs
 obtain ⟨b5, o6, cs7, h, r8, i4⟩ := h.zg 1 2 rfl bY rfl (aH e3).1 (aH e3).2
 obtain rfl := r8
 refine aa (i4 _ _ _ _ _ _ _ _ _ rfl rfl) (aa (dZ (k := 0) h 2 rfl aW rfl rfl) (aa (ae (v := (I6 x2)) rfl) (nK (aa (ae (v := (I6 1)) rfl) (nN (aO (gF (σ := Nat × Int × Int) (inl ([3, 4] ++ rg 12 12)) (fun ⟨m20, Ff, mW⟩ => [(3, (I6 Ff)), (4, (I6 mW))]) (fun ⟨m20, Ff, mW⟩ w => SH w0 M BE w (hset [(1, .sr dU va a)]) ∧ again (tV a) m20 (Ff, mW) = some r) (fun ⟨m20, Ff, mW⟩ => m20) ⟨N, x2, 1⟩ ⟨rfl, rfl, trivial⟩ ?_ ?_)))))))
 exact ⟨h.cn _, hs⟩
 rintro ⟨m20, Ff, mW⟩ w dx ⟨h, hs⟩
 obtain ⟨m201, m20e, m20h⟩ := pG hs
 subst m20e
 replace hs := m20h
 generalize Vy : again (tV a) m201 = Vx at hs
 refine aP (nG (aa (ag (v := (I6 mW)) rfl) (aa (ag (v := va) rfl) (aa (bS bY rfl (h.gM 1 rfl)) (aa (dP rfl rfl) (nN (aG hs rfl (fun c24 hs => ?_) (fun c24 hs => ?_))))))))
 refine aF (ak (aP (aO (aC (aa (ag (v := (I6 Ff)) rfl) (aa (ag (v := va) rfl) (aa (ag (v := (I6 mW)) rfl) ?_)))))))
 obtain ⟨x25, e26, hs⟩ := aJ hs
 obtain ⟨b28, o29, cs30, h, r31, i27⟩ := h.zg 1 3 rfl bY rfl (aH e26).1 (aH e26).2
 obtain rfl := r31
 refine aa (i27 _ _ _ _ _ _ _ _ _ rfl rfl) (aa (dZ (k := 0) h 3 rfl aW rfl rfl) (aa (r_max rfl rfl) (aa (ae (v := (I6 ((max Ff x25)))) rfl) (az (ax (ak (aC (aa (ag (v := (I6 mW)) rfl) ?_))))))))
 obtain ⟨a32, hs⟩ := bg hs
 refine aa (dw rfl rfl a32) (aa (ae (v := (I6 ((mW + 1)))) rfl) (az (au ?_)))
 subst Vy
 exact jV ⟨m201, (max Ff x25), (mW + 1)⟩ ⟨h.cn _, hs⟩
 refine nE (aa (ag (v := (I6 Ff)) rfl) (aa (ae (v := (I6 Ff)) rfl) (nR (bQ (v := (I6 Ff)) Tryz.results164 rfl ?_))))
 obtain rfl := fJ hs
 exact ⟨h.grown, rfl⟩
def kQ (x29 : Tok) (b : List eU) (Ez : List Int → Option Int) (x66 : List Int) : Option Int :=
  (qK x29 b).bind fun vD => gL (Room 8 x66 [vD]) (Ez (x66 ++ [vD]))
def kR (CK : List Int) (SI : List Int → Option Int) (i28 : Int) (x29 : Tok) (b : List eU) (Ez : List Int → Option Int) (x57 : Bool) : Option Int :=
  bif x57 then gL (jN ((CK.length : Int) - 1)) ((sub? CK 0 ((CK.length : Int) - 1)).bind fun x60 => SI (CK.take (((CK.length : Int) - 1)).toNat)) else bif (decide ((0 : Int) < i28) && decide (((CK.length : Int) : Int) = 0)) then some 4 else bif decide ((0 : Int) < i28) then gL (jN ((CK.length : Int) - 1)) ((idx CK ((CK.length : Int) - 1)).bind fun x75 => gL (jN (x75 - 1)) (kQ x29 b Ez (CK.set (((CK.length : Int) - 1)).toNat (x75 - 1)))) else kQ x29 b Ez CK
def kS (i28 : Int) (x29 : Tok) (b : List eU) (Ez : List Int → Option Int) (CK : List Int) (SI : List Int → Option Int) : Option Int :=
  bif decide ((0 : Int) < (CK.length : Int)) then gL (jN ((CK.length : Int) - 1)) ((idx CK ((CK.length : Int) - 1)).bind fun x89 => kR CK SI i28 x29 b Ez (decide ((x89 : Int) = 0))) else kR CK SI i28 x29 b Ez false
def kT (GL : Bool) : Option Int :=
  bif GL then some 4 else some 0
def kU (N : Nat) (b : List eU) (c : Int) (i28 : Int) (x29 : Tok) (SK : List Int) (Ez : List Int → Option Int) : Option Int :=
  bif decide (((ek x29 b c) : Int) ≠ 0) then some (ek x29 b c) else again (kS i28 x29 b Ez) N SK
def kV (N : Nat) (a : List Tok) (SK : List Int) : Option Int :=
  bif decide (((a.length : Int) : Int) = 0) then kT true else gL (Room 8 [0] SK) ((slices_Max_int N ([0] ++ SK)).bind fun Yj => kT (decide ((0 : Int) < Yj)))
def kW (x4 : eU) (s : Unit) (G7 : Unit → Option Int) : Option Int :=
  bif (!(aX x4.params 0 3)) then some 3 else G7 ()
def kX (N : Nat) (b : List eU) (c : Int) (a : List Tok) (s : Unit) : Option Int :=
  eO (kU N b c) (kV N a) 0 a []
def pM (N : Nat) (a : List Tok) (b : List eU) (c : Int) : Option Int :=
  bif decide ((24 : Int) < (a.length : Int)) then some 2 else each kW (kX N b c a) b ()
theorem sH (N : Nat) (w0 : World) (M : BS) (hM : ∀ b, M b → b < w0.heap.size) (va : Value) (a : List Tok) (ha : gB kD w0 BE M va a) (vb : Value) (b : List eU) (hb : gB iU w0 BE M vb b) (c : Int) (r : Int) (hs : pM N a b c = some r) :
    Calls Tryz.prog 146 #[va, vb, (I6 c)] w0 (fun e w' => Grow w0 w' ∧ e = .returned (.int .i64 r)) := by
 refine aN (args := [va, vb, (I6 c)]) Tryz.func146 rfl Tryz.ntmps146 (bD rfl) ?_
 have h := SH.init hM
 replace h := h.fw 1 ha bC
 replace h := h.fw 2 hb (cZ bC)
 have vR := ha.bV
 have Ms := hb.bV
 refine nG (aa (ae (v := (I6 0)) rfl) (nK (aa (ag (v := va) rfl) (aa (bS ku rfl (h.gM 1 rfl)) (aa (jT rfl rfl) (nN (aG hs rfl (fun c1 hs => ?_) (fun c1 hs => ?_))))))))
 refine nG (aa (ae (v := (I6 2)) rfl) (nR (ay (bQ (v := (I6 2)) Tryz.results146 rfl ?_))))
 obtain rfl := fJ hs
 exact ⟨h.grown, rfl⟩
 refine aF (ak (aP (nG (aa (ag (v := vb) rfl) (aa (bS iH rfl (h.gM 2 rfl)) (aa (ag (v := (I6 0)) rfl) (nN (aO (gF (σ := Nat × Int) (inl ([6, 8] ++ rg 18 9)) (fun ⟨k2, i3⟩ => [(18, (I6 i3))]) (fun ⟨k2, i3⟩ w => SH w0 M BE w (hset [(1, .sr kD va a), (2, .sr iU vb b)]) ∧ i3 = (k2 : Int) ∧ each kW (kX N b c a) (b.drop k2) () = some r) (fun ⟨k2, i3⟩ => b.length - k2) ⟨0, 0⟩ ⟨rfl, trivial⟩ ?_ ?_)))))))))
 exact ⟨h.cn _, rfl, hs⟩
 rintro ⟨k2, i3⟩ w dx ⟨h, hik, hs⟩
 refine nG ?_
 refine aa (dP rfl rfl) (nN ?_)
 refine aP (iE rfl (fun e7 => ?_) (fun e7 => ?_))
 refine aF (ak ?_)
 obtain ⟨x4, e8a, e8b⟩ := fV (hik ▸ e7)
 rw [e8b, dI] at hs
 generalize IE : each kW (kX N b c a) (b.drop (k2 + 1)) = G7 at hs
 have Vz := gp ((h.gM 2 rfl)).bV hik e7
 refine aP (aO (nG ?_))
 obtain ⟨b10, o11, cs12, h, r13, i9⟩ := h.zg 2 3 rfl iH rfl (iO hik) (gm hik e8a)
 obtain ⟨KR, rfl, g15⟩ := sG r13
 replace h := h.bX 4 g15.up
 refine aa (i9 _ _ _ _ _ _ _ _ _ rfl rfl) (aa (jH (k := 0) (vs := [(I6 x4.params), (I6 x4.locals), KR]) h 3 rfl lS rfl rfl rfl (bD rfl)) (bU h 5 lS fun w b16 h => dm (vs := [(I6 x4.params), (I6 x4.locals), KR]) h 5 [(I6 x4.params), (I6 x4.locals), KR] rfl lS rfl rfl rfl rfl rfl (ai rfl (ai rfl (ai (h.fo 4 rfl).one aR))) fun w h => nJ (aa (ah vN rfl) (aa (aB h 5 rfl aW rfl rfl) (aS yN rfl rfl (gQ _ _ h.lt x4.params 0 3 _ rfl) ?_)))))
 rintro _ w ⟨k17, rfl⟩
 refine ⟨_, rfl, ?_⟩
 replace h := h.grow k17
 refine aa (ic rfl) (nN (aG hs rfl (fun c18 hs => ?_) (fun c18 hs => ?_)))
 refine nG (aa (ae (v := (I6 3)) rfl) (nR (aD (ay (ay (aD (ay (bQ (v := (I6 3)) Tryz.results146 rfl ?_))))))))
 obtain rfl := fJ hs
 exact ⟨h.grown, rfl⟩
 refine aF (ax (ak (aC (aa (dw rfl rfl Vz) (aa (ag (v := (I6 ((i3 + 1)))) rfl) (az (au ?_)))))))
 subst IE
 exact jV ⟨k2 + 1, i3 + 1⟩ ⟨h.cn _, by omega, hs⟩ (by have := rq e7; dsimp only; omega)
 rw [fZ (hik ▸ e7), gG] at hs
 refine nE (aa (ae (v := (.slice none 0 0)) rfl) (nK (aa (ag (v := va) rfl) (aa (bS ku rfl (h.gM 1 rfl)) (aa (ag (v := (I6 0)) rfl) (nN (aO ?_)))))))
 replace h := h.xC (R := dU) (E := 3) 9
 refine gF (σ := Nat × Int × Value × List Int) (inl ([6, 9, 10, 11, 12] ++ rg 29 53)) (fun ⟨k27, i28, v25, SK⟩ => [(9, v25), (29, (I6 i28))]) (fun ⟨k27, i28, v25, SK⟩ w => SH w0 M BE w (hset [(1, .sr kD va a), (2, .sr iU vb b), (9, .own dU 3 v25 SK)]) ∧ i28 = (k27 : Int) ∧ eO (kU N b c) (kV N a) i28 (a.drop k27) SK = some r) (fun ⟨k27, i28, v25, SK⟩ => a.length - k27) ⟨0, 0, (.slice none 0 0), []⟩ ⟨rfl, rfl, trivial⟩ ?_ ?_
 exact ⟨h.cn _, rfl, hs⟩
 rintro ⟨k27, i28, v25, SK⟩ w dx ⟨h, hik, hs⟩
 refine nG ?_
 refine aa (dP rfl rfl) (nN ?_)
 refine aP (iE rfl (fun e32 => ?_) (fun e32 => ?_))
 refine aF (ak ?_)
 obtain ⟨x29, e33a, e33b⟩ := fV (hik ▸ e32)
 rw [e33b, iT] at hs
 generalize hnx31 : eO (kU N b c) (kV N a) (i28 + 1) (a.drop (k27 + 1)) = Ez at hs
 have e33r := gp ((h.gM 1 rfl)).bV hik e32
 refine aP (aO (nG (aa (ag (v := (I6 i28)) rfl) ?_)))
 obtain ⟨b35, o36, cs37, h, r38, i34⟩ := h.zg 1 10 rfl ku rfl (iO hik) (gm hik e33a)
 obtain rfl := r38
 refine aa (i34 _ _ _ _ _ _ _ _ _ rfl rfl) (aa (jH (k := 0) (vs := [(I6 x29.kind), (I6 x29.n)]) h 10 rfl j5 rfl rfl rfl (bD rfl)) (bU h 11 j5 fun w b39 h => aa (ae (v := (I6 i28)) rfl) (dm (vs := [(I6 x29.kind), (I6 x29.n)]) h 11 [(I6 x29.kind), (I6 x29.n)] rfl j5 rfl rfl rfl rfl rfl (ai rfl (ai rfl aR)) fun w h => nK (aa (cK (vs := [(I6 x29.kind), (I6 x29.n)]) h 11 rfl j5 rfl rfl rfl) (aa (ag (v := vb) rfl) (aa (ag (v := (I6 c)) rfl) (aS Rv rfl rfl (tT _ _ h.lt x29 vb b (h.gM 2 rfl) c _ rfl) ?_)))))))
 rintro _ w ⟨k40, rfl⟩
 refine ⟨_, rfl, ?_⟩
 replace h := h.grow k40
 refine aa (ae (v := (I6 ((ek x29 b c)))) rfl) (nJ (aa (ag (v := (I6 ((ek x29 b c)))) rfl) (aa (gN rfl rfl) (nN (aG hs rfl (fun c41 hs => ?_) (fun c41 hs => ?_))))))
 refine nG (aa (ag (v := (I6 ((ek x29 b c)))) rfl) (aa (ae (v := (I6 ((ek x29 b c)))) rfl) (nR (ay (aD (ay (ay (aD (ay (bQ (v := (I6 ((ek x29 b c)))) Tryz.results146 rfl ?_))))))))))
 obtain rfl := fJ hs
 exact ⟨h.grown, rfl⟩
 refine aF (ak (aP (aO (gF (σ := Nat × Value × List Int) (inl ([9] ++ rg 41 17)) (fun ⟨m53, v48, CK⟩ => [(9, v48)]) (fun ⟨m53, v48, CK⟩ w => SH w0 M BE w (hset [(1, .sr kD va a), (2, .sr iU vb b), (9, .own dU 3 v48 CK), (11, .blk b39 [(I6 x29.kind), (I6 x29.n)])]) ∧ again (kS i28 x29 b Ez) m53 CK = some r) (fun ⟨m53, v48, CK⟩ => m53) ⟨N, v25, SK⟩ ⟨rfl, trivial⟩ ?_ ?_))))
 exact ⟨h.cn _, hs⟩
 rintro ⟨m53, v48, CK⟩ w dx ⟨h, hs⟩
 obtain ⟨m531, m53e, m53h⟩ := pG hs
 subst m53e
 replace hs := m53h
 generalize hnx54 : again (kS i28 x29 b Ez) m531 = SI at hs
 refine aP (bW (σ := Bool) (inl (rg 41 12)) (fun x57 => [(52, (.bool (x57)))]) (fun x57 w => SH w0 M BE w (hset [(1, .sr kD va a), (2, .sr iU vb b), (9, .own dU 3 v48 CK), (11, .blk b39 [(I6 x29.kind), (I6 x29.n)])]) ∧ kR CK SI i28 x29 b Ez x57 = some r) ?_ ?_)
 rintro x57 w dx ⟨h, hs⟩
 refine aG hs rfl (fun c58 hs => ?_) (fun c58 hs => ?_)
 refine aF (ak (aO (aC (aa (ag (v := v48) rfl) (aa (ag (v := v48) rfl) (aa (bS bY rfl (h.dV 9 rfl)) ?_))))))
 obtain ⟨a59, hs⟩ := bg hs
 refine aa (mZ rfl rfl a59) ?_
 obtain ⟨x60, e61, hs⟩ := aJ hs
 obtain ⟨e64, e64a, e64b, e64c⟩ := Ni e61
 obtain ⟨u62, h, i63⟩ := h.cutO 9 rfl bY rfl e64b e64c
 refine aa (i63 _ _ _ _ _ _ _ _ _ _ rfl (.inl ⟨rfl, rfl⟩) (.inr (congrArg some rfl))) (aa (ae (v := u62) rfl) (az (ax (au ?_))))
 subst hnx54
 exact jV ⟨m531, u62, (CK.take (((CK.length : Int) - 1)).toNat)⟩ ⟨h.cn _, hs⟩
 refine gV (bA (bA (dE (ak (aP (nG (aa (ag (v := (I6 i28)) rfl) (aa (jT rfl rfl) (aa (ag (v := (.bool (decide ((0 : Int) < i28)))) rfl) (aA rfl rfl (fun q => ag (v := v48) rfl) (aA rfl rfl (fun q => bS bY (dz q) (h.dV 9 rfl)) (aA rfl rfl (fun q => bz (dz q) rfl) (aa (fD rfl rfl lX) (nN (aG hs rfl (fun Db hs => ?_) (fun Db hs => ?_))))))))))))))))
 refine nG (aa (ae (v := (I6 4)) rfl) (nR (ay (aD (ay (ay (aD (ay (bQ (v := (I6 4)) Tryz.results146 rfl ?_)))))))))
 obtain rfl := fJ hs
 exact ⟨h.grown, rfl⟩
 refine aF (ak (bW (σ := List Int) (inl (rg 65 10)) (fun x66 => []) (fun x66 w => SH w0 M BE w (hset [(1, .sr kD va a), (2, .sr iU vb b), (9, .own dU 3 v48 x66), (11, .blk b39 [(I6 x29.kind), (I6 x29.n)])]) ∧ kQ x29 b Ez x66 = some r) ?_ ?_))
 rintro x66 w dx ⟨h, hs⟩
 refine aC (aa (ag (v := v48) rfl) (aa (cK (vs := [(I6 x29.kind), (I6 x29.n)]) h 11 rfl j5 rfl rfl rfl) (aa (ag (v := vb) rfl) ?_)))
 obtain ⟨vD, Yk, hs⟩ := aJ hs
 refine aS Mi rfl rfl (rY _ _ h.lt x29 vb b (h.gM 2 rfl) _ Yk) ?_
 rintro _ w ⟨k69, rfl⟩
 refine ⟨_, rfl, ?_⟩
 replace h := h.grow k69
 refine uQ (R := dU) (vs := [(I6 vD)]) (xs := [vD]) h 13 jg rfl rfl rfl ⟨rfl, trivial⟩ rfl fun w u70 h => ?_
 obtain ⟨a71, hs⟩ := bg hs
 refine mo (R := dU) (m := [vD]) h 9 rfl (h.dV 13 rfl) jg rfl rfl rfl a71.1 a71.2 fun w u72 h => aa (ae (v := u72) rfl) (az (ax (ak (aC (aa (dw rfl rfl e33r) (aa (ag (v := (I6 ((i28 + 1)))) rfl) (az (au ?_))))))))
 subst hnx31
 exact jV ⟨k27 + 1, i28 + 1, u72, (x66 ++ [vD])⟩ ⟨h.cn _, by omega, hs⟩ (by have := rq e32; dsimp only; omega)
 refine nG (aa (ag (v := (I6 i28)) rfl) (aa (jT rfl rfl) (nN (aG hs rfl (fun c73 hs => ?_) (fun c73 hs => ?_)))))
 refine aC (aa (ag (v := v48) rfl) (aa (ag (v := v48) rfl) (aa (bS bY rfl (h.dV 9 rfl)) ?_)))
 obtain ⟨a74, hs⟩ := bg hs
 refine aa (mZ rfl rfl a74) ?_
 obtain ⟨x75, e76, hs⟩ := aJ hs
 obtain ⟨b78, q79, i77⟩ := h.xy 9 rfl bY rfl (aH e76).1 (aH e76).2
 refine aa (i77 _ _ _ _ _ _ _ _ _ rfl rfl) ?_
 obtain ⟨cs80, m81, r82⟩ := h.Af 9 rfl q79 (aH e76).2
 obtain rfl := r82
 refine aa (pY (k := 0) m81 aW rfl rfl) ?_
 obtain ⟨a83, hs⟩ := bg hs
 refine aa (mZ rfl rfl a83) ?_
 obtain ⟨J8, q86, i84⟩ := h.xy 9 rfl bY rfl (aH e76).1 (aH e76).2
 refine aa (i84 _ _ _ _ _ _ _ _ _ rfl rfl) (KD (off := 0) (a' := (x75 - 1)) h 9 rfl q86 rfl (aH e76).2 aW rfl rfl rfl rfl (fun cs hq => set1 rfl hq rfl rfl) fun w h => az (au ?_))
 exact bP (CK.set (((CK.length : Int) - 1)).toNat (x75 - 1)) ⟨h.cn _, hs⟩
 refine aF (au ?_)
 exact bP CK ⟨h.cn _, hs⟩
 refine aC (aa (ag (v := v48) rfl) (aa (bS bY rfl (h.dV 9 rfl)) (aa (jT rfl rfl) (aa (ag (v := (.bool (decide ((0 : Int) < (CK.length : Int))))) rfl) (jf (b := decide ((0 : Int) < (CK.length : Int))) hs (fun c87 hs => ?_) (fun c87 hs => ?_))))))
 refine dH rfl (cB c87) (aa (ag (v := v48) rfl) (dH rfl (cB c87) (aa (ag (v := v48) rfl) (dH rfl (cB c87) (aa (bS bY rfl (h.dV 9 rfl)) (dH rfl (cB c87) ?_))))))
 obtain ⟨a88, hs⟩ := bg hs
 refine aa (mZ rfl rfl a88) (dH rfl (cB c87) ?_)
 obtain ⟨x89, e90, hs⟩ := aJ hs
 obtain ⟨b92, q93, i91⟩ := h.xy 9 rfl bY rfl (aH e90).1 (aH e90).2
 refine aa (i91 _ _ _ _ _ _ _ _ _ rfl rfl) (dH rfl (cB c87) ?_)
 obtain ⟨cs94, m95, r96⟩ := h.Af 9 rfl q93 (aH e90).2
 obtain rfl := r96
 refine aa (pY (k := 0) m95 aW rfl rfl) (dH rfl (cB c87) (aa (bz rfl rfl) (aa (dn (b := true) (v := (.bool (decide ((x89 : Int) = 0)))) (cB c87) rfl) (az (au ?_)))))
 exact bP (decide ((x89 : Int) = 0)) ⟨h.cn _, hs⟩
 refine vB rfl (cB c87) rfl (vB rfl (cB c87) rfl (vB rfl (cB c87) rfl (vB rfl (cB c87) rfl (vB rfl (cB c87) rfl (vB rfl (cB c87) rfl (vB rfl (cB c87) rfl (aa (dn (b := false) (v := (.bool (false))) (cB c87) rfl) (az (au ?_)))))))))
 exact bP false ⟨h.cn _, hs⟩
 rw [fZ (hik ▸ e32), ni] at hs
 refine gV (bA (bA (dE (ak (aP (bW (σ := Bool) (inl (rg 82 10)) (fun GL => [(91, (.bool (GL)))]) (fun GL w => SH w0 M BE w (hset []) ∧ kT GL = some r) ?_ ?_))))))
 rintro GL w dx ⟨h, hs⟩
 refine aG hs rfl (fun c98 hs => ?_) (fun c98 hs => ?_)
 refine nG (aa (ae (v := (I6 4)) rfl) (nR (ay (bQ (v := (I6 4)) Tryz.results146 rfl ?_))))
 obtain rfl := fJ hs
 exact ⟨h.grown, rfl⟩
 refine nS (aa (ae (v := (I6 0)) rfl) (nR (bQ (v := (I6 0)) Tryz.results146 rfl ?_)))
 obtain rfl := fJ hs
 exact ⟨h.grown, rfl⟩
 refine aC (aa (ag (v := va) rfl) (aa (bS ku rfl (h.gM 1 rfl)) (aa (bz rfl rfl) (aa (ag (v := (.bool (decide (((a.length : Int) : Int) = 0)))) rfl) (jf (b := decide (((a.length : Int) : Int) = 0)) hs (fun SL hs => ?_) (fun SL hs => ?_))))))
 refine Ph rfl (cB SL) rfl (Ph rfl (cB SL) rfl (Ph rfl (cB SL) rfl (Ph rfl (cB SL) rfl (Ph rfl (cB SL) rfl (aa (dn (b := true) (v := (.bool (true))) (cB SL) rfl) (az (au ?_)))))))
 exact bP true ⟨h.cn _, hs⟩
 refine dH rfl (cB SL) (uQ (R := dU) (vs := [(I6 0)]) (xs := [0]) h 14 jg rfl rfl rfl ⟨rfl, trivial⟩ rfl fun w u100 h => dH rfl (cB SL) (aa (ag (v := v25) rfl) (dH rfl (cB SL) ?_)))
 obtain ⟨Yl, hs⟩ := bg hs
 refine mo (R := dU) (m := SK) h 14 rfl (h.dV 9 rfl) jg rfl rfl rfl Yl.1 Yl.2 fun w u102 h => dH rfl (cB SL) ?_
 obtain ⟨Yj, Ym, hs⟩ := aJ hs
 refine aS Yi rfl rfl (FD N _ _ h.lt u102 ([0] ++ SK) (h.dV 14 rfl) _ Ym) ?_
 rintro _ w ⟨k105, rfl⟩
 refine ⟨_, rfl, ?_⟩
 replace h := h.grow k105
 refine dH rfl (cB SL) (aa (jT rfl rfl) (aa (dn (b := false) (v := (.bool (decide ((0 : Int) < Yj)))) (cB SL) rfl) (az (au ?_))))
 exact bP (decide ((0 : Int) < Yj)) ⟨h.cn _, hs⟩
def aZ (j3 : Str) : Bool :=
  (hasB j3 78)
theorem vS (w0 : World) (M : BS) (hM : ∀ b, M b → b < w0.heap.size) (j3 : Str) (q0 : Nat) (hq0 : ∃ E, w0.heap[q0]? = some (.cells #[(aV j3)] E (0, 0))) (r : Bool) (hs : aZ j3 = r) :
    Calls Tryz.prog 144 #[(aV [78]), (.pointer (some ⟨q0, 0, none⟩))] w0 (fun e w' => Grow w0 w' ∧ e = .returned (.bool r)) := by
 refine aN (args := [(aV [78]), (.pointer (some ⟨q0, 0, none⟩))]) Tryz.func144 rfl Tryz.ntmps144 (bD rfl) ?_
 have h := SH.init hM
 replace h := h.KF 1 (cs := [(aV j3)]) hq0 bC
 refine nG (aa (ae (v := (.bool (false))) rfl) (nJ (aa (dZ (k := 0) h 1 rfl zw rfl rfl) (aa (ag (v := (aV [78])) rfl) (aS CJ rfl rfl (jQ _ _ h.lt j3 78 _ rfl) ?_)))))
 rintro _ w ⟨k1, rfl⟩
 refine ⟨_, rfl, ?_⟩
 replace h := h.grow k1
 refine aa (ae (v := (.bool ((hasB j3 78)))) rfl) (nR (bQ (v := (.bool ((hasB j3 78)))) Tryz.results144 rfl ?_))
 obtain rfl := hs
 exact ⟨h.grown, rfl⟩
def bJ (j3 : Str) : Bool :=
  (hasB j3 69)
theorem vT (w0 : World) (M : BS) (hM : ∀ b, M b → b < w0.heap.size) (j3 : Str) (q0 : Nat) (hq0 : ∃ E, w0.heap[q0]? = some (.cells #[(aV j3)] E (0, 0))) (r : Bool) (hs : bJ j3 = r) :
    Calls Tryz.prog 144 #[(aV [69]), (.pointer (some ⟨q0, 0, none⟩))] w0 (fun e w' => Grow w0 w' ∧ e = .returned (.bool r)) := by
 refine aN (args := [(aV [69]), (.pointer (some ⟨q0, 0, none⟩))]) Tryz.func144 rfl Tryz.ntmps144 (bD rfl) ?_
 have h := SH.init hM
 replace h := h.KF 1 (cs := [(aV j3)]) hq0 bC
 refine nG (aa (ae (v := (.bool (false))) rfl) (nJ (aa (dZ (k := 0) h 1 rfl zw rfl rfl) (aa (ag (v := (aV [69])) rfl) (aS CJ rfl rfl (jQ _ _ h.lt j3 69 _ rfl) ?_)))))
 rintro _ w ⟨k1, rfl⟩
 refine ⟨_, rfl, ?_⟩
 replace h := h.grow k1
 refine aa (ae (v := (.bool ((hasB j3 69)))) rfl) (nR (bQ (v := (.bool ((hasB j3 69)))) Tryz.results144 rfl ?_))
 obtain rfl := hs
 exact ⟨h.grown, rfl⟩
def cu (j3 : Str) : Bool :=
  (hasB j3 70)
theorem og (w0 : World) (M : BS) (hM : ∀ b, M b → b < w0.heap.size) (j3 : Str) (q0 : Nat) (hq0 : ∃ E, w0.heap[q0]? = some (.cells #[(aV j3)] E (0, 0))) (r : Bool) (hs : cu j3 = r) :
    Calls Tryz.prog 144 #[(aV [70]), (.pointer (some ⟨q0, 0, none⟩))] w0 (fun e w' => Grow w0 w' ∧ e = .returned (.bool r)) := by
 refine aN (args := [(aV [70]), (.pointer (some ⟨q0, 0, none⟩))]) Tryz.func144 rfl Tryz.ntmps144 (bD rfl) ?_
 have h := SH.init hM
 replace h := h.KF 1 (cs := [(aV j3)]) hq0 bC
 refine nG (aa (ae (v := (.bool (false))) rfl) (nJ (aa (dZ (k := 0) h 1 rfl zw rfl rfl) (aa (ag (v := (aV [70])) rfl) (aS CJ rfl rfl (jQ _ _ h.lt j3 70 _ rfl) ?_)))))
 rintro _ w ⟨k1, rfl⟩
 refine ⟨_, rfl, ?_⟩
 replace h := h.grow k1
 refine aa (ae (v := (.bool ((hasB j3 70)))) rfl) (nR (bQ (v := (.bool ((hasB j3 70)))) Tryz.results144 rfl ?_))
 obtain rfl := hs
 exact ⟨h.grown, rfl⟩
def fq (j3 : Str) : Bool :=
  (hasB j3 65)
theorem vU (w0 : World) (M : BS) (hM : ∀ b, M b → b < w0.heap.size) (j3 : Str) (q0 : Nat) (hq0 : ∃ E, w0.heap[q0]? = some (.cells #[(aV j3)] E (0, 0))) (r : Bool) (hs : fq j3 = r) :
    Calls Tryz.prog 144 #[(aV [65]), (.pointer (some ⟨q0, 0, none⟩))] w0 (fun e w' => Grow w0 w' ∧ e = .returned (.bool r)) := by
 refine aN (args := [(aV [65]), (.pointer (some ⟨q0, 0, none⟩))]) Tryz.func144 rfl Tryz.ntmps144 (bD rfl) ?_
 have h := SH.init hM
 replace h := h.KF 1 (cs := [(aV j3)]) hq0 bC
 refine nG (aa (ae (v := (.bool (false))) rfl) (nJ (aa (dZ (k := 0) h 1 rfl zw rfl rfl) (aa (ag (v := (aV [65])) rfl) (aS CJ rfl rfl (jQ _ _ h.lt j3 65 _ rfl) ?_)))))
 rintro _ w ⟨k1, rfl⟩
 refine ⟨_, rfl, ?_⟩
 replace h := h.grow k1
 refine aa (ae (v := (.bool ((hasB j3 65)))) rfl) (nR (bQ (v := (.bool ((hasB j3 65)))) Tryz.results144 rfl ?_))
 obtain rfl := hs
 exact ⟨h.grown, rfl⟩
def qb (j3 : Str) : Bool :=
  (hasB j3 66)
theorem vV (w0 : World) (M : BS) (hM : ∀ b, M b → b < w0.heap.size) (j3 : Str) (q0 : Nat) (hq0 : ∃ E, w0.heap[q0]? = some (.cells #[(aV j3)] E (0, 0))) (r : Bool) (hs : qb j3 = r) :
    Calls Tryz.prog 144 #[(aV [66]), (.pointer (some ⟨q0, 0, none⟩))] w0 (fun e w' => Grow w0 w' ∧ e = .returned (.bool r)) := by
 refine aN (args := [(aV [66]), (.pointer (some ⟨q0, 0, none⟩))]) Tryz.func144 rfl Tryz.ntmps144 (bD rfl) ?_
 have h := SH.init hM
 replace h := h.KF 1 (cs := [(aV j3)]) hq0 bC
 refine nG (aa (ae (v := (.bool (false))) rfl) (nJ (aa (dZ (k := 0) h 1 rfl zw rfl rfl) (aa (ag (v := (aV [66])) rfl) (aS CJ rfl rfl (jQ _ _ h.lt j3 66 _ rfl) ?_)))))
 rintro _ w ⟨k1, rfl⟩
 refine ⟨_, rfl, ?_⟩
 replace h := h.grow k1
 refine aa (ae (v := (.bool ((hasB j3 66)))) rfl) (nR (bQ (v := (.bool ((hasB j3 66)))) Tryz.results144 rfl ?_))
 obtain rfl := hs
 exact ⟨h.grown, rfl⟩
def kY (Kc : Unit → Option Int) (tX : Int) : Option Int :=
  bif decide ((tX : Int) ≠ 0) then some tX else Kc ()
def kZ (F0 : List bu → List eU → Int → Option Int) (x3 : bu) (b : List eU) (c : Int) (Kc : Unit → Option Int) (zb : Int) : Option Int :=
  bif decide ((zb : Int) = 0) then (F0 x3.b b c).bind fun y39 => kY Kc y39 else kY Kc zb
def lg (F0 : List bu → List eU → Int → Option Int) (x3 : bu) (a : List bu) (b : List eU) (c : Int) (Kc : Unit → Option Int) (x34 : Int) : Option Int :=
  bif decide ((x34 : Int) = 0) then (F0 x3.a b c).bind fun AJ => kZ F0 x3 b c Kc AJ else kZ F0 x3 b c Kc x34
def lh (N : Nat) (F0 : List bu → List eU → Int → Option Int) (x3 : bu) (b : List eU) (c : Int) (a : List bu) (Kc : Unit → Option Int) (zy : Int) : Option Int :=
  bif (decide ((zy : Int) = 0) && (cu ((lk x3.kind ([(1, [78, 69]), (2, [78, 69, 70]), (3, [69]), (4, []), (5, [69]), (6, [69, 65, 66]), (7, [69, 65]), (8, [69])] : List (Int × Str))).getD []))) then (pM N x3.f b c).bind fun uI => lg F0 x3 a b c Kc uI else lg F0 x3 a b c Kc zy
def ll (N : Nat) (F0 : List bu → List eU → Int → Option Int) (a : List bu) (b : List eU) (c : Int) (x3 : bu) (s : Unit) (Kc : Unit → Option Int) : Option Int :=
  bif ((((((!(lk x3.kind ([(1, [78, 69]), (2, [78, 69, 70]), (3, [69]), (4, []), (5, [69]), (6, [69, 65, 66]), (7, [69, 65]), (8, [69])] : List (Int × Str))).isSome) || (decide ((x3.n : Int) ≠ 0) && (!(aZ ((lk x3.kind ([(1, [78, 69]), (2, [78, 69, 70]), (3, [69]), (4, []), (5, [69]), (6, [69, 65, 66]), (7, [69, 65]), (8, [69])] : List (Int × Str))).getD []))))) || (decide ((0 : Int) < (x3.e.length : Int)) && (!(bJ ((lk x3.kind ([(1, [78, 69]), (2, [78, 69, 70]), (3, [69]), (4, []), (5, [69]), (6, [69, 65, 66]), (7, [69, 65]), (8, [69])] : List (Int × Str))).getD []))))) || (decide ((0 : Int) < (x3.f.length : Int)) && (!(cu ((lk x3.kind ([(1, [78, 69]), (2, [78, 69, 70]), (3, [69]), (4, []), (5, [69]), (6, [69, 65, 66]), (7, [69, 65]), (8, [69])] : List (Int × Str))).getD []))))) || (decide ((0 : Int) < (x3.a.length : Int)) && (!(fq ((lk x3.kind ([(1, [78, 69]), (2, [78, 69, 70]), (3, [69]), (4, []), (5, [69]), (6, [69, 65, 66]), (7, [69, 65]), (8, [69])] : List (Int × Str))).getD []))))) || (decide ((0 : Int) < (x3.b.length : Int)) && (!(qb ((lk x3.kind ([(1, [78, 69]), (2, [78, 69, 70]), (3, [69]), (4, []), (5, [69]), (6, [69, 65, 66]), (7, [69, 65]), (8, [69])] : List (Int × Str))).getD []))))) then some 4 else bif ((decide ((x3.kind : Int) = 1) && (!(aT x3.n c))) || (decide ((x3.kind : Int) = 2) && (!(aX x3.n 0 3)))) then some 3 else bif (hasB ((lk x3.kind ([(1, [78, 69]), (2, [78, 69, 70]), (3, [69]), (4, []), (5, [69]), (6, [69, 65, 66]), (7, [69, 65]), (8, [69])] : List (Int × Str))).getD []) 69) then (pM N x3.e b c).bind fun Dz => lh N F0 x3 b c a Kc Dz else lh N F0 x3 b c a Kc 0
def lq (s : Unit) : Option Int :=
  some 0
def rF (N : Nat) (F0 : List bu → List eU → Int → Option Int) (a : List bu) (b : List eU) (c : Int) : Option Int :=
  each (ll N F0 a b c) lq a ()
def ji : Nat → List bu → List eU → Int → Option Int
  | 0 => fun _ _ _ => none
  | N + 1 => rF N (ji N)
theorem yO : ∀ (N : Nat) (w0 : World) (M : BS) (hM : ∀ b, M b → b < w0.heap.size) (va : Value) (a : List bu) (ha : gB eD w0 BE M va a) (vb : Value) (b : List eU) (hb : gB iU w0 BE M vb b) (c : Int) (r : Int) (hs : ji N a b c = some r),
    Calls Tryz.prog 129 #[va, vb, (I6 c)] w0 (fun e w' => Grow w0 w' ∧ e = .returned (.int .i64 r)) := by
 intro N
 induction N with
 | zero => intro w0 M hM va a ha vb b hb c r hs; cases hs
 | succ N ih =>
 intro w0 M hM va a ha vb b hb c r hs
 replace hs : rF N (ji N) a b c = some r := hs
 generalize ji N = F0 at hs ih
 refine aN (args := [va, vb, (I6 c)]) Tryz.func129 rfl Tryz.ntmps129 (bD rfl) ?_
 have h := SH.init hM
 replace h := h.fw 1 ha bC
 replace h := h.fw 2 hb (cZ bC)
 have vR := ha.bV
 have Ms := hb.bV
 refine nG (aa (ae (v := (I6 0)) rfl) (nK (aa (ag (v := va) rfl) (aa (bS kP rfl (h.gM 1 rfl)) (aa (ag (v := (I6 0)) rfl) (nN (aO (gF (σ := Nat × Int) (inl ([6, 8, 9, 10, 11, 12] ++ rg 15 126)) (fun ⟨k1, i2⟩ => [(15, (I6 i2))]) (fun ⟨k1, i2⟩ w => SH w0 M BE w (hset [(1, .sr eD va a), (2, .sr iU vb b)]) ∧ i2 = (k1 : Int) ∧ each (ll N F0 a b c) lq (a.drop k1) () = some r) (fun ⟨k1, i2⟩ => a.length - k1) ⟨0, 0⟩ ⟨rfl, trivial⟩ ?_ ?_))))))))
 exact ⟨h.cn _, rfl, hs⟩
 rintro ⟨k1, i2⟩ w dx ⟨h, hik, hs⟩
 refine nG ?_
 refine aa (dP rfl rfl) (nN ?_)
 refine aP (iE rfl (fun e6 => ?_) (fun e6 => ?_))
 refine aF (ak ?_)
 obtain ⟨x3, e7a, e7b⟩ := fV (hik ▸ e6)
 rw [e7b, dI] at hs
 generalize hnx5 : each (ll N F0 a b c) lq (a.drop (k1 + 1)) = Kc at hs
 have e7r := gp ((h.gM 1 rfl)).bV hik e6
 refine aP (aO (nG ?_))
 obtain ⟨b9, o10, cs11, h, r12, i8⟩ := h.zg 1 3 rfl kP rfl (iO hik) (gm hik e7a)
 obtain ⟨Pj, G8, H6, NF, rfl, g14, g16, g18, g20⟩ := Aq r12
 replace h := h.bX 4 g14.up
 replace h := h.bX 5 g16.up.up
 replace h := h.bX 6 g18.up.up.up
 replace h := h.bX 7 g20.up.up.up.up
 refine aa (i8 _ _ _ _ _ _ _ _ _ rfl rfl) (aa (jH (k := 0) (vs := [(I6 x3.kind), (I6 x3.n), Pj, G8, H6, NF]) h 3 rfl oo rfl rfl rfl (bD rfl)) (bU h 8 oo fun w Ke h => dm (vs := [(I6 x3.kind), (I6 x3.n), Pj, G8, H6, NF]) h 8 [(I6 x3.kind), (I6 x3.n), Pj, G8, H6, NF] rfl oo rfl rfl rfl rfl rfl (ai rfl (ai rfl (ai (h.fo 4 rfl).one (ai (h.fo 5 rfl).one (ai (h.fo 6 rfl).one (ai (h.fo 7 rfl).one aR)))))) fun w h => nJ (Cx h 9 fun w b22 h => nk (p8 := [(1, (aV [78, 69]))]) h 9 rfl kN rfl rfl rfl rfl fun w h => nk (p8 := [(1, (aV [78, 69])), (2, (aV [78, 69, 70]))]) h 9 rfl kN rfl rfl rfl rfl fun w h => nk (p8 := [(1, (aV [78, 69])), (2, (aV [78, 69, 70])), (3, (aV [69]))]) h 9 rfl kN rfl rfl rfl rfl fun w h => nk (p8 := [(1, (aV [78, 69])), (2, (aV [78, 69, 70])), (3, (aV [69])), (4, (aV []))]) h 9 rfl kN rfl rfl rfl rfl fun w h => nk (p8 := [(1, (aV [78, 69])), (2, (aV [78, 69, 70])), (3, (aV [69])), (4, (aV [])), (5, (aV [69]))]) h 9 rfl kN rfl rfl rfl rfl fun w h => nk (p8 := [(1, (aV [78, 69])), (2, (aV [78, 69, 70])), (3, (aV [69])), (4, (aV [])), (5, (aV [69])), (6, (aV [69, 65, 66]))]) h 9 rfl kN rfl rfl rfl rfl fun w h => nk (p8 := [(1, (aV [78, 69])), (2, (aV [78, 69, 70])), (3, (aV [69])), (4, (aV [])), (5, (aV [69])), (6, (aV [69, 65, 66])), (7, (aV [69, 65]))]) h 9 rfl kN rfl rfl rfl rfl fun w h => nk (p8 := [(1, (aV [78, 69])), (2, (aV [78, 69, 70])), (3, (aV [69])), (4, (aV [])), (5, (aV [69])), (6, (aV [69, 65, 66])), (7, (aV [69, 65])), (8, (aV [69]))]) h 9 rfl kN rfl rfl rfl rfl fun w h => aa (ag (v := (.map (some b22))) rfl) (aa (ah jX rfl) (aa (aB h 8 rfl aW rfl rfl) (aa (r_lk2 (f := aV) (zz := []) ([(1, [78, 69]), (2, [78, 69, 70]), (3, [69]), (4, []), (5, [69]), (6, [69, 65, 66]), (7, [69, 65]), (8, [69])] : List (Int × Str)) h 9 rfl kN rfl rfl rfl rfl) (aa (ag (v := (.tuple #[(aV ((lk x3.kind ([(1, [78, 69]), (2, [78, 69, 70]), (3, [69]), (4, []), (5, [69]), (6, [69, 65, 66]), (7, [69, 65]), (8, [69])] : List (Int × Str))).getD [])), (.bool ((lk x3.kind ([(1, [78, 69]), (2, [78, 69, 70]), (3, [69]), (4, []), (5, [69]), (6, [69, 65, 66]), (7, [69, 65]), (8, [69])] : List (Int × Str))).isSome))])) rfl) (aa (aU rfl rfl) (aa (aU rfl rfl) ?_)))))))))
 refine qd h 10 zw fun w Dn h => fA h 10 [(aV ((lk x3.kind ([(1, [78, 69]), (2, [78, 69, 70]), (3, [69]), (4, []), (5, [69]), (6, [69, 65, 66]), (7, [69, 65]), (8, [69])] : List (Int × Str))).getD []))] rfl zw rfl rfl rfl rfl rfl fun w h => aa (ae (v := (.bool ((lk x3.kind ([(1, [78, 69]), (2, [78, 69, 70]), (3, [69]), (4, []), (5, [69]), (6, [69, 65, 66]), (7, [69, 65]), (8, [69])] : List (Int × Str))).isSome))) rfl) (nJ (aa (rV (c1 := []) (c2 := [(.pointer (some ⟨Dn, 0, none⟩))]) rfl rfl) (aa (ae (v := (.func (.func 144) #[] #[(.pointer (some ⟨Dn, 0, none⟩))])) rfl) (nK (aa (ag (v := (.bool ((lk x3.kind ([(1, [78, 69]), (2, [78, 69, 70]), (3, [69]), (4, []), (5, [69]), (6, [69, 65, 66]), (7, [69, 65]), (8, [69])] : List (Int × Str))).isSome))) rfl) (aa (ic rfl) (aa (ag (v := (.bool ((!(lk x3.kind ([(1, [78, 69]), (2, [78, 69, 70]), (3, [69]), (4, []), (5, [69]), (6, [69, 65, 66]), (7, [69, 65]), (8, [69])] : List (Int × Str))).isSome)))) rfl) (aA rfl rfl (fun q => ah vO rfl) (aA rfl rfl (fun q => aB h 8 rfl aW (dz q) rfl) (aA rfl rfl (fun q => gN (dz q) rfl) (aA rfl rfl (fun q => ag (v := (.bool (decide ((x3.n : Int) ≠ 0)))) (dz q)) (mi ((!(lk x3.kind ([(1, [78, 69]), (2, [78, 69, 70]), (3, [69]), (4, []), (5, [69]), (6, [69, 65, 66]), (7, [69, 65]), (8, [69])] : List (Int × Str))).isSome) == false) rfl rfl (fun q => ag (v := (.func (.func 144) #[] #[(.pointer (some ⟨Dn, 0, none⟩))])) rfl) (Cy [(.pointer (some ⟨Dn, 0, none⟩))] ((!(lk x3.kind ([(1, [78, 69]), (2, [78, 69, 70]), (3, [69]), (4, []), (5, [69]), (6, [69, 65, 66]), (7, [69, 65]), (8, [69])] : List (Int × Str))).isSome) == false) rfl rfl AA (fun q => (dz q)) (fun q => lN rfl rfl) (vS _ _ h.lt ((lk x3.kind ([(1, [78, 69]), (2, [78, 69, 70]), (3, [69]), (4, []), (5, [69]), (6, [69, 65, 66]), (7, [69, 65]), (8, [69])] : List (Int × Str))).getD []) Dn (h.qV 10 rfl) _ rfl) fun w k24 => ?_)))))))))))))
 replace h := h.grow k24
 refine mi ((!(lk x3.kind ([(1, [78, 69]), (2, [78, 69, 70]), (3, [69]), (4, []), (5, [69]), (6, [69, 65, 66]), (7, [69, 65]), (8, [69])] : List (Int × Str))).isSome) == false) rfl rfl (fun q => ic (dz q)) (aA rfl rfl (fun q => fD (dz q) (Uy q) lX) (aa (gW rfl rfl lX) (aa (ag (v := (.bool (((!(lk x3.kind ([(1, [78, 69]), (2, [78, 69, 70]), (3, [69]), (4, []), (5, [69]), (6, [69, 65, 66]), (7, [69, 65]), (8, [69])] : List (Int × Str))).isSome) || (decide ((x3.n : Int) ≠ 0) && (!(aZ ((lk x3.kind ([(1, [78, 69]), (2, [78, 69, 70]), (3, [69]), (4, []), (5, [69]), (6, [69, 65, 66]), (7, [69, 65]), (8, [69])] : List (Int × Str))).getD [])))))))) rfl) (aA rfl rfl (fun q => ah zo rfl) (aA rfl rfl (fun q => aB h 8 rfl xI (dz q) rfl) (aA rfl rfl (fun q => bS ku (dz q) (h.mM 4 rfl)) (aA rfl rfl (fun q => jT (dz q) rfl) (aA rfl rfl (fun q => ag (v := (.bool (decide ((0 : Int) < (x3.e.length : Int))))) (dz q)) (mi (((!(lk x3.kind ([(1, [78, 69]), (2, [78, 69, 70]), (3, [69]), (4, []), (5, [69]), (6, [69, 65, 66]), (7, [69, 65]), (8, [69])] : List (Int × Str))).isSome) || (decide ((x3.n : Int) ≠ 0) && (!(aZ ((lk x3.kind ([(1, [78, 69]), (2, [78, 69, 70]), (3, [69]), (4, []), (5, [69]), (6, [69, 65, 66]), (7, [69, 65]), (8, [69])] : List (Int × Str))).getD []))))) == false) rfl rfl (fun q => ag (v := (.func (.func 144) #[] #[(.pointer (some ⟨Dn, 0, none⟩))])) rfl) (Cy [(.pointer (some ⟨Dn, 0, none⟩))] (((!(lk x3.kind ([(1, [78, 69]), (2, [78, 69, 70]), (3, [69]), (4, []), (5, [69]), (6, [69, 65, 66]), (7, [69, 65]), (8, [69])] : List (Int × Str))).isSome) || (decide ((x3.n : Int) ≠ 0) && (!(aZ ((lk x3.kind ([(1, [78, 69]), (2, [78, 69, 70]), (3, [69]), (4, []), (5, [69]), (6, [69, 65, 66]), (7, [69, 65]), (8, [69])] : List (Int × Str))).getD []))))) == false) rfl rfl AA (fun q => (dz q)) (fun q => lN rfl rfl) (vT _ _ h.lt ((lk x3.kind ([(1, [78, 69]), (2, [78, 69, 70]), (3, [69]), (4, []), (5, [69]), (6, [69, 65, 66]), (7, [69, 65]), (8, [69])] : List (Int × Str))).getD []) Dn (h.qV 10 rfl) _ rfl) fun w k25 => ?_))))))))))
 replace h := h.grow k25
 refine mi (((!(lk x3.kind ([(1, [78, 69]), (2, [78, 69, 70]), (3, [69]), (4, []), (5, [69]), (6, [69, 65, 66]), (7, [69, 65]), (8, [69])] : List (Int × Str))).isSome) || (decide ((x3.n : Int) ≠ 0) && (!(aZ ((lk x3.kind ([(1, [78, 69]), (2, [78, 69, 70]), (3, [69]), (4, []), (5, [69]), (6, [69, 65, 66]), (7, [69, 65]), (8, [69])] : List (Int × Str))).getD []))))) == false) rfl rfl (fun q => ic (dz q)) (aA rfl rfl (fun q => fD (dz q) (Uy q) lX) (aa (gW rfl rfl lX) (aa (ag (v := (.bool ((((!(lk x3.kind ([(1, [78, 69]), (2, [78, 69, 70]), (3, [69]), (4, []), (5, [69]), (6, [69, 65, 66]), (7, [69, 65]), (8, [69])] : List (Int × Str))).isSome) || (decide ((x3.n : Int) ≠ 0) && (!(aZ ((lk x3.kind ([(1, [78, 69]), (2, [78, 69, 70]), (3, [69]), (4, []), (5, [69]), (6, [69, 65, 66]), (7, [69, 65]), (8, [69])] : List (Int × Str))).getD []))))) || (decide ((0 : Int) < (x3.e.length : Int)) && (!(bJ ((lk x3.kind ([(1, [78, 69]), (2, [78, 69, 70]), (3, [69]), (4, []), (5, [69]), (6, [69, 65, 66]), (7, [69, 65]), (8, [69])] : List (Int × Str))).getD [])))))))) rfl) (aA rfl rfl (fun q => ah BL rfl) (aA rfl rfl (fun q => aB h 8 rfl xI (dz q) rfl) (aA rfl rfl (fun q => bS ku (dz q) (h.mM 5 rfl)) (aA rfl rfl (fun q => jT (dz q) rfl) (aA rfl rfl (fun q => ag (v := (.bool (decide ((0 : Int) < (x3.f.length : Int))))) (dz q)) (mi ((((!(lk x3.kind ([(1, [78, 69]), (2, [78, 69, 70]), (3, [69]), (4, []), (5, [69]), (6, [69, 65, 66]), (7, [69, 65]), (8, [69])] : List (Int × Str))).isSome) || (decide ((x3.n : Int) ≠ 0) && (!(aZ ((lk x3.kind ([(1, [78, 69]), (2, [78, 69, 70]), (3, [69]), (4, []), (5, [69]), (6, [69, 65, 66]), (7, [69, 65]), (8, [69])] : List (Int × Str))).getD []))))) || (decide ((0 : Int) < (x3.e.length : Int)) && (!(bJ ((lk x3.kind ([(1, [78, 69]), (2, [78, 69, 70]), (3, [69]), (4, []), (5, [69]), (6, [69, 65, 66]), (7, [69, 65]), (8, [69])] : List (Int × Str))).getD []))))) == false) rfl rfl (fun q => ag (v := (.func (.func 144) #[] #[(.pointer (some ⟨Dn, 0, none⟩))])) rfl) (Cy [(.pointer (some ⟨Dn, 0, none⟩))] ((((!(lk x3.kind ([(1, [78, 69]), (2, [78, 69, 70]), (3, [69]), (4, []), (5, [69]), (6, [69, 65, 66]), (7, [69, 65]), (8, [69])] : List (Int × Str))).isSome) || (decide ((x3.n : Int) ≠ 0) && (!(aZ ((lk x3.kind ([(1, [78, 69]), (2, [78, 69, 70]), (3, [69]), (4, []), (5, [69]), (6, [69, 65, 66]), (7, [69, 65]), (8, [69])] : List (Int × Str))).getD []))))) || (decide ((0 : Int) < (x3.e.length : Int)) && (!(bJ ((lk x3.kind ([(1, [78, 69]), (2, [78, 69, 70]), (3, [69]), (4, []), (5, [69]), (6, [69, 65, 66]), (7, [69, 65]), (8, [69])] : List (Int × Str))).getD []))))) == false) rfl rfl AA (fun q => (dz q)) (fun q => lN rfl rfl) (og _ _ h.lt ((lk x3.kind ([(1, [78, 69]), (2, [78, 69, 70]), (3, [69]), (4, []), (5, [69]), (6, [69, 65, 66]), (7, [69, 65]), (8, [69])] : List (Int × Str))).getD []) Dn (h.qV 10 rfl) _ rfl) fun w k26 => ?_))))))))))
 replace h := h.grow k26
 refine mi ((((!(lk x3.kind ([(1, [78, 69]), (2, [78, 69, 70]), (3, [69]), (4, []), (5, [69]), (6, [69, 65, 66]), (7, [69, 65]), (8, [69])] : List (Int × Str))).isSome) || (decide ((x3.n : Int) ≠ 0) && (!(aZ ((lk x3.kind ([(1, [78, 69]), (2, [78, 69, 70]), (3, [69]), (4, []), (5, [69]), (6, [69, 65, 66]), (7, [69, 65]), (8, [69])] : List (Int × Str))).getD []))))) || (decide ((0 : Int) < (x3.e.length : Int)) && (!(bJ ((lk x3.kind ([(1, [78, 69]), (2, [78, 69, 70]), (3, [69]), (4, []), (5, [69]), (6, [69, 65, 66]), (7, [69, 65]), (8, [69])] : List (Int × Str))).getD []))))) == false) rfl rfl (fun q => ic (dz q)) (aA rfl rfl (fun q => fD (dz q) (Uy q) lX) (aa (gW rfl rfl lX) (aa (ag (v := (.bool (((((!(lk x3.kind ([(1, [78, 69]), (2, [78, 69, 70]), (3, [69]), (4, []), (5, [69]), (6, [69, 65, 66]), (7, [69, 65]), (8, [69])] : List (Int × Str))).isSome) || (decide ((x3.n : Int) ≠ 0) && (!(aZ ((lk x3.kind ([(1, [78, 69]), (2, [78, 69, 70]), (3, [69]), (4, []), (5, [69]), (6, [69, 65, 66]), (7, [69, 65]), (8, [69])] : List (Int × Str))).getD []))))) || (decide ((0 : Int) < (x3.e.length : Int)) && (!(bJ ((lk x3.kind ([(1, [78, 69]), (2, [78, 69, 70]), (3, [69]), (4, []), (5, [69]), (6, [69, 65, 66]), (7, [69, 65]), (8, [69])] : List (Int × Str))).getD []))))) || (decide ((0 : Int) < (x3.f.length : Int)) && (!(cu ((lk x3.kind ([(1, [78, 69]), (2, [78, 69, 70]), (3, [69]), (4, []), (5, [69]), (6, [69, 65, 66]), (7, [69, 65]), (8, [69])] : List (Int × Str))).getD [])))))))) rfl) (aA rfl rfl (fun q => ah zq rfl) (aA rfl rfl (fun q => aB h 8 rfl pK (dz q) rfl) (aA rfl rfl (fun q => bS kP (dz q) (h.mM 6 rfl)) (aA rfl rfl (fun q => jT (dz q) rfl) (aA rfl rfl (fun q => ag (v := (.bool (decide ((0 : Int) < (x3.a.length : Int))))) (dz q)) (mi (((((!(lk x3.kind ([(1, [78, 69]), (2, [78, 69, 70]), (3, [69]), (4, []), (5, [69]), (6, [69, 65, 66]), (7, [69, 65]), (8, [69])] : List (Int × Str))).isSome) || (decide ((x3.n : Int) ≠ 0) && (!(aZ ((lk x3.kind ([(1, [78, 69]), (2, [78, 69, 70]), (3, [69]), (4, []), (5, [69]), (6, [69, 65, 66]), (7, [69, 65]), (8, [69])] : List (Int × Str))).getD []))))) || (decide ((0 : Int) < (x3.e.length : Int)) && (!(bJ ((lk x3.kind ([(1, [78, 69]), (2, [78, 69, 70]), (3, [69]), (4, []), (5, [69]), (6, [69, 65, 66]), (7, [69, 65]), (8, [69])] : List (Int × Str))).getD []))))) || (decide ((0 : Int) < (x3.f.length : Int)) && (!(cu ((lk x3.kind ([(1, [78, 69]), (2, [78, 69, 70]), (3, [69]), (4, []), (5, [69]), (6, [69, 65, 66]), (7, [69, 65]), (8, [69])] : List (Int × Str))).getD []))))) == false) rfl rfl (fun q => ag (v := (.func (.func 144) #[] #[(.pointer (some ⟨Dn, 0, none⟩))])) rfl) (Cy [(.pointer (some ⟨Dn, 0, none⟩))] (((((!(lk x3.kind ([(1, [78, 69]), (2, [78, 69, 70]), (3, [69]), (4, []), (5, [69]), (6, [69, 65, 66]), (7, [69, 65]), (8, [69])] : List (Int × Str))).isSome) || (decide ((x3.n : Int) ≠ 0) && (!(aZ ((lk x3.kind ([(1, [78, 69]), (2, [78, 69, 70]), (3, [69]), (4, []), (5, [69]), (6, [69, 65, 66]), (7, [69, 65]), (8, [69])] : List (Int × Str))).getD []))))) || (decide ((0 : Int) < (x3.e.length : Int)) && (!(bJ ((lk x3.kind ([(1, [78, 69]), (2, [78, 69, 70]), (3, [69]), (4, []), (5, [69]), (6, [69, 65, 66]), (7, [69, 65]), (8, [69])] : List (Int × Str))).getD []))))) || (decide ((0 : Int) < (x3.f.length : Int)) && (!(cu ((lk x3.kind ([(1, [78, 69]), (2, [78, 69, 70]), (3, [69]), (4, []), (5, [69]), (6, [69, 65, 66]), (7, [69, 65]), (8, [69])] : List (Int × Str))).getD []))))) == false) rfl rfl AA (fun q => (dz q)) (fun q => lN rfl rfl) (vU _ _ h.lt ((lk x3.kind ([(1, [78, 69]), (2, [78, 69, 70]), (3, [69]), (4, []), (5, [69]), (6, [69, 65, 66]), (7, [69, 65]), (8, [69])] : List (Int × Str))).getD []) Dn (h.qV 10 rfl) _ rfl) fun w k27 => ?_))))))))))
 replace h := h.grow k27
 refine mi (((((!(lk x3.kind ([(1, [78, 69]), (2, [78, 69, 70]), (3, [69]), (4, []), (5, [69]), (6, [69, 65, 66]), (7, [69, 65]), (8, [69])] : List (Int × Str))).isSome) || (decide ((x3.n : Int) ≠ 0) && (!(aZ ((lk x3.kind ([(1, [78, 69]), (2, [78, 69, 70]), (3, [69]), (4, []), (5, [69]), (6, [69, 65, 66]), (7, [69, 65]), (8, [69])] : List (Int × Str))).getD []))))) || (decide ((0 : Int) < (x3.e.length : Int)) && (!(bJ ((lk x3.kind ([(1, [78, 69]), (2, [78, 69, 70]), (3, [69]), (4, []), (5, [69]), (6, [69, 65, 66]), (7, [69, 65]), (8, [69])] : List (Int × Str))).getD []))))) || (decide ((0 : Int) < (x3.f.length : Int)) && (!(cu ((lk x3.kind ([(1, [78, 69]), (2, [78, 69, 70]), (3, [69]), (4, []), (5, [69]), (6, [69, 65, 66]), (7, [69, 65]), (8, [69])] : List (Int × Str))).getD []))))) == false) rfl rfl (fun q => ic (dz q)) (aA rfl rfl (fun q => fD (dz q) (Uy q) lX) (aa (gW rfl rfl lX) (aa (ag (v := (.bool ((((((!(lk x3.kind ([(1, [78, 69]), (2, [78, 69, 70]), (3, [69]), (4, []), (5, [69]), (6, [69, 65, 66]), (7, [69, 65]), (8, [69])] : List (Int × Str))).isSome) || (decide ((x3.n : Int) ≠ 0) && (!(aZ ((lk x3.kind ([(1, [78, 69]), (2, [78, 69, 70]), (3, [69]), (4, []), (5, [69]), (6, [69, 65, 66]), (7, [69, 65]), (8, [69])] : List (Int × Str))).getD []))))) || (decide ((0 : Int) < (x3.e.length : Int)) && (!(bJ ((lk x3.kind ([(1, [78, 69]), (2, [78, 69, 70]), (3, [69]), (4, []), (5, [69]), (6, [69, 65, 66]), (7, [69, 65]), (8, [69])] : List (Int × Str))).getD []))))) || (decide ((0 : Int) < (x3.f.length : Int)) && (!(cu ((lk x3.kind ([(1, [78, 69]), (2, [78, 69, 70]), (3, [69]), (4, []), (5, [69]), (6, [69, 65, 66]), (7, [69, 65]), (8, [69])] : List (Int × Str))).getD []))))) || (decide ((0 : Int) < (x3.a.length : Int)) && (!(fq ((lk x3.kind ([(1, [78, 69]), (2, [78, 69, 70]), (3, [69]), (4, []), (5, [69]), (6, [69, 65, 66]), (7, [69, 65]), (8, [69])] : List (Int × Str))).getD [])))))))) rfl) (aA rfl rfl (fun q => ah zt rfl) (aA rfl rfl (fun q => aB h 8 rfl pK (dz q) rfl) (aA rfl rfl (fun q => bS kP (dz q) (h.mM 7 rfl)) (aA rfl rfl (fun q => jT (dz q) rfl) (aA rfl rfl (fun q => ag (v := (.bool (decide ((0 : Int) < (x3.b.length : Int))))) (dz q)) (mi ((((((!(lk x3.kind ([(1, [78, 69]), (2, [78, 69, 70]), (3, [69]), (4, []), (5, [69]), (6, [69, 65, 66]), (7, [69, 65]), (8, [69])] : List (Int × Str))).isSome) || (decide ((x3.n : Int) ≠ 0) && (!(aZ ((lk x3.kind ([(1, [78, 69]), (2, [78, 69, 70]), (3, [69]), (4, []), (5, [69]), (6, [69, 65, 66]), (7, [69, 65]), (8, [69])] : List (Int × Str))).getD []))))) || (decide ((0 : Int) < (x3.e.length : Int)) && (!(bJ ((lk x3.kind ([(1, [78, 69]), (2, [78, 69, 70]), (3, [69]), (4, []), (5, [69]), (6, [69, 65, 66]), (7, [69, 65]), (8, [69])] : List (Int × Str))).getD []))))) || (decide ((0 : Int) < (x3.f.length : Int)) && (!(cu ((lk x3.kind ([(1, [78, 69]), (2, [78, 69, 70]), (3, [69]), (4, []), (5, [69]), (6, [69, 65, 66]), (7, [69, 65]), (8, [69])] : List (Int × Str))).getD []))))) || (decide ((0 : Int) < (x3.a.length : Int)) && (!(fq ((lk x3.kind ([(1, [78, 69]), (2, [78, 69, 70]), (3, [69]), (4, []), (5, [69]), (6, [69, 65, 66]), (7, [69, 65]), (8, [69])] : List (Int × Str))).getD []))))) == false) rfl rfl (fun q => ag (v := (.func (.func 144) #[] #[(.pointer (some ⟨Dn, 0, none⟩))])) rfl) (Cy [(.pointer (some ⟨Dn, 0, none⟩))] ((((((!(lk x3.kind ([(1, [78, 69]), (2, [78, 69, 70]), (3, [69]), (4, []), (5, [69]), (6, [69, 65, 66]), (7, [69, 65]), (8, [69])] : List (Int × Str))).isSome) || (decide ((x3.n : Int) ≠ 0) && (!(aZ ((lk x3.kind ([(1, [78, 69]), (2, [78, 69, 70]), (3, [69]), (4, []), (5, [69]), (6, [69, 65, 66]), (7, [69, 65]), (8, [69])] : List (Int × Str))).getD []))))) || (decide ((0 : Int) < (x3.e.length : Int)) && (!(bJ ((lk x3.kind ([(1, [78, 69]), (2, [78, 69, 70]), (3, [69]), (4, []), (5, [69]), (6, [69, 65, 66]), (7, [69, 65]), (8, [69])] : List (Int × Str))).getD []))))) || (decide ((0 : Int) < (x3.f.length : Int)) && (!(cu ((lk x3.kind ([(1, [78, 69]), (2, [78, 69, 70]), (3, [69]), (4, []), (5, [69]), (6, [69, 65, 66]), (7, [69, 65]), (8, [69])] : List (Int × Str))).getD []))))) || (decide ((0 : Int) < (x3.a.length : Int)) && (!(fq ((lk x3.kind ([(1, [78, 69]), (2, [78, 69, 70]), (3, [69]), (4, []), (5, [69]), (6, [69, 65, 66]), (7, [69, 65]), (8, [69])] : List (Int × Str))).getD []))))) == false) rfl rfl AA (fun q => (dz q)) (fun q => lN rfl rfl) (vV _ _ h.lt ((lk x3.kind ([(1, [78, 69]), (2, [78, 69, 70]), (3, [69]), (4, []), (5, [69]), (6, [69, 65, 66]), (7, [69, 65]), (8, [69])] : List (Int × Str))).getD []) Dn (h.qV 10 rfl) _ rfl) fun w k28 => ?_))))))))))
 replace h := h.grow k28
 refine mi ((((((!(lk x3.kind ([(1, [78, 69]), (2, [78, 69, 70]), (3, [69]), (4, []), (5, [69]), (6, [69, 65, 66]), (7, [69, 65]), (8, [69])] : List (Int × Str))).isSome) || (decide ((x3.n : Int) ≠ 0) && (!(aZ ((lk x3.kind ([(1, [78, 69]), (2, [78, 69, 70]), (3, [69]), (4, []), (5, [69]), (6, [69, 65, 66]), (7, [69, 65]), (8, [69])] : List (Int × Str))).getD []))))) || (decide ((0 : Int) < (x3.e.length : Int)) && (!(bJ ((lk x3.kind ([(1, [78, 69]), (2, [78, 69, 70]), (3, [69]), (4, []), (5, [69]), (6, [69, 65, 66]), (7, [69, 65]), (8, [69])] : List (Int × Str))).getD []))))) || (decide ((0 : Int) < (x3.f.length : Int)) && (!(cu ((lk x3.kind ([(1, [78, 69]), (2, [78, 69, 70]), (3, [69]), (4, []), (5, [69]), (6, [69, 65, 66]), (7, [69, 65]), (8, [69])] : List (Int × Str))).getD []))))) || (decide ((0 : Int) < (x3.a.length : Int)) && (!(fq ((lk x3.kind ([(1, [78, 69]), (2, [78, 69, 70]), (3, [69]), (4, []), (5, [69]), (6, [69, 65, 66]), (7, [69, 65]), (8, [69])] : List (Int × Str))).getD []))))) == false) rfl rfl (fun q => ic (dz q)) (aA rfl rfl (fun q => fD (dz q) (Uy q) lX) (aa (gW rfl rfl lX) (nN (aG hs rfl (fun c29 hs => ?_) (fun c29 hs => ?_)))))
 refine nG (aa (ae (v := (I6 4)) rfl) (nR (ay (aD (ay (ay (aD (ay (bQ (v := (I6 4)) Tryz.results129 rfl ?_)))))))))
 obtain rfl := fJ hs
 exact ⟨h.grown, rfl⟩
 refine aF (ak (aP (nG (aa (ah jX rfl) (aa (aB h 8 rfl aW rfl rfl) (aa (bz rfl rfl) (aa (ag (v := (.bool (decide ((x3.kind : Int) = 1)))) rfl) (aA rfl rfl (fun q => ah vO rfl) (aA rfl rfl (fun q => aB h 8 rfl aW (dz q) rfl) (aA rfl rfl (fun q => ag (v := (I6 c)) rfl) (Nl rfl rfl PE rfl (fun q => lN (dz q) (lN (dz q) rfl)) (ru _ _ h.lt x3.n c _ rfl) fun w k30 => ?_)))))))))))
 replace h := h.grow k30
 refine aA rfl rfl (fun q => ic (dz q)) (aa (fD rfl rfl lX) (aa (ag (v := (.bool ((decide ((x3.kind : Int) = 1) && (!(aT x3.n c)))))) rfl) (aA rfl rfl (fun q => ah jX rfl) (aA rfl rfl (fun q => aB h 8 rfl aW (dz q) rfl) (aA rfl rfl (fun q => bz (dz q) rfl) (aA rfl rfl (fun q => ag (v := (.bool (decide ((x3.kind : Int) = 2)))) (dz q)) (mi ((decide ((x3.kind : Int) = 1) && (!(aT x3.n c))) == false) rfl rfl (fun q => ah vO rfl) (mi ((decide ((x3.kind : Int) = 1) && (!(aT x3.n c))) == false) rfl rfl (fun q => aB h 8 rfl aW (dz q) rfl) (Rh ((decide ((x3.kind : Int) = 1) && (!(aT x3.n c))) == false) rfl rfl yN rfl (fun q => lN (dz q) (lN rfl (lN rfl rfl))) (gQ _ _ h.lt x3.n 0 3 _ rfl) fun w k31 => ?_)))))))))
 replace h := h.grow k31
 refine mi ((decide ((x3.kind : Int) = 1) && (!(aT x3.n c))) == false) rfl rfl (fun q => ic (dz q)) (aA rfl rfl (fun q => fD (dz q) (Uy q) lX) (aa (gW rfl rfl lX) (nN (aG hs rfl (fun c32 hs => ?_) (fun c32 hs => ?_)))))
 refine nG (aa (ae (v := (I6 3)) rfl) (nR (ay (aD (ay (ay (aD (ay (bQ (v := (I6 3)) Tryz.results129 rfl ?_)))))))))
 obtain rfl := fJ hs
 exact ⟨h.grown, rfl⟩
 refine nS (aa (ae (v := (I6 0)) rfl) (nN (bW (σ := Int) (inl ([12] ++ rg 105 7)) (fun zy => [(12, (I6 zy))]) (fun zy w => SH w0 M BE w (hset [(1, .sr eD va a), (2, .sr iU vb b), (4, .rd kD Pj x3.e), (5, .rd kD G8 x3.f), (6, .rd eD H6 x3.a), (7, .rd eD NF x3.b), (8, .blk Ke [(I6 x3.kind), (I6 x3.n), Pj, G8, H6, NF]), (10, .blk Dn [(aV ((lk x3.kind ([(1, [78, 69]), (2, [78, 69, 70]), (3, [69]), (4, []), (5, [69]), (6, [69, 65, 66]), (7, [69, 65]), (8, [69])] : List (Int × Str))).getD []))])]) ∧ lh N F0 x3 b c a Kc zy = some r) ?_ ?_)))
 rintro zy w dx ⟨h, hs⟩
 refine bW (σ := Int) (inl ([12] ++ rg 112 11)) (fun x34 => [(12, (I6 x34)), (115, (gv (decide ((zy : Int) = 0) == true) (.func (.func 144) #[] #[(.pointer (some ⟨Dn, 0, none⟩))])))]) (fun x34 w => SH w0 M BE w (hset [(1, .sr eD va a), (2, .sr iU vb b), (4, .rd kD Pj x3.e), (5, .rd kD G8 x3.f), (6, .rd eD H6 x3.a), (7, .rd eD NF x3.b), (8, .blk Ke [(I6 x3.kind), (I6 x3.n), Pj, G8, H6, NF]), (10, .blk Dn [(aV ((lk x3.kind ([(1, [78, 69]), (2, [78, 69, 70]), (3, [69]), (4, []), (5, [69]), (6, [69, 65, 66]), (7, [69, 65]), (8, [69])] : List (Int × Str))).getD []))])]) ∧ lg F0 x3 a b c Kc x34 = some r) ?_ ?_
 rintro x34 w dx ⟨h, hs⟩
 refine bW (σ := Int) (inl ([12] ++ rg 123 7)) (fun zb => [(12, (I6 zb))]) (fun zb w => SH w0 M BE w (hset [(1, .sr eD va a), (2, .sr iU vb b), (4, .rd kD Pj x3.e), (5, .rd kD G8 x3.f), (6, .rd eD H6 x3.a), (7, .rd eD NF x3.b), (8, .blk Ke [(I6 x3.kind), (I6 x3.n), Pj, G8, H6, NF]), (10, .blk Dn [(aV ((lk x3.kind ([(1, [78, 69]), (2, [78, 69, 70]), (3, [69]), (4, []), (5, [69]), (6, [69, 65, 66]), (7, [69, 65]), (8, [69])] : List (Int × Str))).getD []))])]) ∧ kZ F0 x3 b c Kc zb = some r) ?_ ?_
 rintro zb w dx ⟨h, hs⟩
 refine bW (σ := Int) (inl ([12] ++ rg 130 7)) (fun tX => [(12, (I6 tX))]) (fun tX w => SH w0 M BE w (hset [(1, .sr eD va a), (2, .sr iU vb b), (10, .blk Dn [(aV ((lk x3.kind ([(1, [78, 69]), (2, [78, 69, 70]), (3, [69]), (4, []), (5, [69]), (6, [69, 65, 66]), (7, [69, 65]), (8, [69])] : List (Int × Str))).getD []))])]) ∧ kY Kc tX = some r) ?_ ?_
 rintro tX w dx ⟨h, hs⟩
 refine nG (aa (ag (v := (I6 tX)) rfl) (aa (gN rfl rfl) (nN (aG hs rfl (fun c37 hs => ?_) (fun c37 hs => ?_)))))
 refine nG (aa (ag (v := (I6 tX)) rfl) (aa (ae (v := (I6 tX)) rfl) (nR (aD (ay (ay (aD (ay (bQ (v := (I6 tX)) Tryz.results129 rfl ?_)))))))))
 obtain rfl := fJ hs
 exact ⟨h.grown, rfl⟩
 refine aF (ax (ak (aC (aa (dw rfl rfl e7r) (aa (ag (v := (I6 ((i2 + 1)))) rfl) (az (au ?_)))))))
 subst hnx5
 exact jV ⟨k1 + 1, i2 + 1⟩ ⟨h.cn _, by omega, hs⟩ (by have := rq e6; dsimp only; omega)
 refine nG (aa (ag (v := (I6 zb)) rfl) (aa (bz rfl rfl) (nN (aG hs rfl (fun NG hs => ?_) (fun NG hs => ?_)))))
 refine aC (aa (ah zt rfl) (aa (aB h 8 rfl pK rfl rfl) (aa (ag (v := vb) rfl) (aa (ag (v := (I6 c)) rfl) ?_))))
 obtain ⟨y39, e40, hs⟩ := aJ hs
 refine aS Mk rfl rfl (ih _ _ h.lt NF x3.b (h.mM 7 rfl) vb b (h.gM 2 rfl) c _ e40) ?_
 rintro _ w ⟨k41, rfl⟩
 refine ⟨_, rfl, ?_⟩
 replace h := h.grow k41
 refine aa (ae (v := (I6 y39)) rfl) (az (au ?_))
 exact bP y39 ⟨h.cn _, hs⟩
 refine aF (au ?_)
 exact bP zb ⟨h.cn _, hs⟩
 refine nG (aa (ag (v := (I6 x34)) rfl) (aa (bz rfl rfl) (nN (aG hs rfl (fun c42 hs => ?_) (fun c42 hs => ?_)))))
 refine aC (aa (ah zq rfl) (aa (aB h 8 rfl pK rfl rfl) (aa (ag (v := vb) rfl) (aa (ag (v := (I6 c)) rfl) ?_))))
 obtain ⟨AJ, e44, hs⟩ := aJ hs
 refine aS Mk rfl rfl (ih _ _ h.lt H6 x3.a (h.mM 6 rfl) vb b (h.gM 2 rfl) c _ e44) ?_
 rintro _ w ⟨k45, rfl⟩
 refine ⟨_, rfl, ?_⟩
 replace h := h.grow k45
 refine aa (ae (v := (I6 AJ)) rfl) (az (au ?_))
 exact bP AJ ⟨h.cn _, hs⟩
 refine aF (au ?_)
 exact bP x34 ⟨h.cn _, hs⟩
 refine nG (aa (ag (v := (I6 zy)) rfl) (aa (bz rfl rfl) (aa (ag (v := (.bool (decide ((zy : Int) = 0)))) rfl) (aA rfl rfl (fun q => ag (v := (.func (.func 144) #[] #[(.pointer (some ⟨Dn, 0, none⟩))])) rfl) (Ii [(.pointer (some ⟨Dn, 0, none⟩))] rfl rfl AA (fun q => (dz q)) (fun q => lN rfl rfl) (og _ _ h.lt ((lk x3.kind ([(1, [78, 69]), (2, [78, 69, 70]), (3, [69]), (4, []), (5, [69]), (6, [69, 65, 66]), (7, [69, 65]), (8, [69])] : List (Int × Str))).getD []) Dn (h.qV 10 rfl) _ rfl) fun w k46 => ?_)))))
 replace h := h.grow k46
 refine aa (fD rfl rfl lX) (nN (aG hs rfl (fun c47 hs => ?_) (fun c47 hs => ?_)))
 refine aC (aa (ah BL rfl) (aa (aB h 8 rfl xI rfl rfl) (aa (ag (v := vb) rfl) (aa (ag (v := (I6 c)) rfl) ?_))))
 obtain ⟨uI, e49, hs⟩ := aJ hs
 refine aS Rz rfl rfl (sH N _ _ h.lt G8 x3.f (h.mM 5 rfl) vb b (h.gM 2 rfl) c _ e49) ?_
 rintro _ w ⟨k50, rfl⟩
 refine ⟨_, rfl, ?_⟩
 replace h := h.grow k50
 refine aa (ae (v := (I6 uI)) rfl) (az (au ?_))
 exact bP uI ⟨h.cn _, hs⟩
 refine aF (au ?_)
 exact bP zy ⟨h.cn _, hs⟩
 refine nG (aa (ag (v := (.func (.func 144) #[] #[(.pointer (some ⟨Dn, 0, none⟩))])) rfl) (jK (args := [(aV [69]), (.pointer (some ⟨Dn, 0, none⟩))]) AA rfl rfl (aN (args := [(aV [69]), (.pointer (some ⟨Dn, 0, none⟩))]) Tryz.func144 rfl Tryz.ntmps144 (bD rfl) (nG (aa (ae (v := (.bool (false))) rfl) (nJ (aa (aB h 10 rfl zw rfl rfl) (aa (ag (v := (aV [69])) rfl) (aS CJ rfl rfl (jQ _ _ h.lt ((lk x3.kind ([(1, [78, 69]), (2, [78, 69, 70]), (3, [69]), (4, []), (5, [69]), (6, [69, 65, 66]), (7, [69, 65]), (8, [69])] : List (Int × Str))).getD []) 69 _ rfl) ?_)))))))))
 rintro _ w ⟨k51, rfl⟩
 refine ⟨_, rfl, ?_⟩
 replace h := h.grow k51
 refine aa (ae (v := (.bool ((hasB ((lk x3.kind ([(1, [78, 69]), (2, [78, 69, 70]), (3, [69]), (4, []), (5, [69]), (6, [69, 65, 66]), (7, [69, 65]), (8, [69])] : List (Int × Str))).getD []) 69)))) rfl) (nR (bQ (v := (.bool ((hasB ((lk x3.kind ([(1, [78, 69]), (2, [78, 69, 70]), (3, [69]), (4, []), (5, [69]), (6, [69, 65, 66]), (7, [69, 65]), (8, [69])] : List (Int × Str))).getD []) 69)))) Tryz.results144 rfl (⟨_, rfl, ?_⟩)))
 refine nN (aG hs rfl (fun DC hs => ?_) (fun DC hs => ?_))
 refine aC (aa (ah zo rfl) (aa (aB h 8 rfl xI rfl rfl) (aa (ag (v := vb) rfl) (aa (ag (v := (I6 c)) rfl) ?_))))
 obtain ⟨Dz, e54, hs⟩ := aJ hs
 refine aS Rz rfl rfl (sH N _ _ h.lt Pj x3.e (h.mM 4 rfl) vb b (h.gM 2 rfl) c _ e54) ?_
 rintro _ w ⟨k55, rfl⟩
 refine ⟨_, rfl, ?_⟩
 replace h := h.grow k55
 refine aa (ae (v := (I6 Dz)) rfl) (az (au ?_))
 exact bP Dz ⟨h.cn _, hs⟩
 refine aF (au ?_)
 exact bP 0 ⟨h.cn _, hs⟩
 rw [fZ (hik ▸ e6), gG] at hs
 refine nE (aa (ae (v := (I6 0)) rfl) (nR (bQ (v := (I6 0)) Tryz.results129 rfl ?_)))
 obtain rfl := fJ hs
 exact ⟨h.grown, rfl⟩
def lu (N : Nat) (a : List eU) (yF : eU) (s : Unit) (zA : Unit → Option Int) : Option Int :=
  (mr N yF.body 4).bind fun lT => bif (!lT.2) then some 2 else (ji N yF.body a yF.locals).bind fun Zj => bif decide ((Zj : Int) ≠ 0) then some Zj else zA ()
def lv (s : Unit) : Option Int :=
  some 0
def lC (i4 : Int) (x5 : eU) (s : Unit) (nx7 : Unit → Option Int) : Option Int :=
  bif (((!(aX x5.params 0 3)) || (!(aX x5.locals x5.params 6))) || (decide ((i4 : Int) = 0) && decide ((x5.params : Int) ≠ 0))) then some 3 else nx7 ()
def lD (N : Nat) (a : List eU) (s : Unit) : Option Int :=
  each (lu N a) lv a ()
def sI (N : Nat) (a : List eU) : Option Int :=
  bif (!(aX (a.length : Int) 1 4)) then some 2 else eO lC (lD N a) 0 a ()
theorem yo (N : Nat) (w0 : World) (M : BS) (hM : ∀ b, M b → b < w0.heap.size) (va : Value) (a : List eU) (ha : gB iU w0 BE M va a) (r : Int) (hs : sI N a = some r) :
    Calls Tryz.prog 112 #[va] w0 (fun e w' => Grow w0 w' ∧ e = .returned (.int .i64 r)) := by
 refine aN (args := [va]) Tryz.func112 rfl Tryz.ntmps112 (bD rfl) ?_
 have h := SH.init hM
 replace h := h.fw 1 ha bC
 have vR := ha.bV
 refine nG (aa (ae (v := (I6 0)) rfl) (nK (aa (ag (v := va) rfl) (aa (bS iH rfl (h.gM 1 rfl)) (aS yN rfl rfl (gQ _ _ h.lt (a.length : Int) 1 4 _ rfl) ?_)))))
 rintro _ w ⟨k1, rfl⟩
 refine ⟨_, rfl, ?_⟩
 replace h := h.grow k1
 refine aa (ic rfl) (nN (aG hs rfl (fun c2 hs => ?_) (fun c2 hs => ?_)))
 refine nG (aa (ae (v := (I6 2)) rfl) (nR (ay (bQ (v := (I6 2)) Tryz.results112 rfl ?_))))
 obtain rfl := fJ hs
 exact ⟨h.grown, rfl⟩
 refine aF (ak (aP (nG (aa (ag (v := va) rfl) (aa (bS iH rfl (h.gM 1 rfl)) (aa (ag (v := (I6 0)) rfl) (nN (aO (gF (σ := Nat × Int) (inl ([2, 3, 4] ++ rg 16 27)) (fun ⟨k3, i4⟩ => [(16, (I6 i4))]) (fun ⟨k3, i4⟩ w => SH w0 M BE w (hset [(1, .sr iU va a)]) ∧ i4 = (k3 : Int) ∧ eO lC (lD N a) i4 (a.drop k3) () = some r) (fun ⟨k3, i4⟩ => a.length - k3) ⟨0, 0⟩ ⟨rfl, trivial⟩ ?_ ?_)))))))))
 exact ⟨h.cn _, rfl, hs⟩
 rintro ⟨k3, i4⟩ w dx ⟨h, hik, hs⟩
 refine nG ?_
 refine aa (dP rfl rfl) (nN ?_)
 refine aP (iE rfl (fun e8 => ?_) (fun e8 => ?_))
 refine aF (ak ?_)
 obtain ⟨x5, e9a, e9b⟩ := fV (hik ▸ e8)
 rw [e9b, iT] at hs
 generalize hnx7 : eO lC (lD N a) (i4 + 1) (a.drop (k3 + 1)) = nx7 at hs
 have e9r := gp ((h.gM 1 rfl)).bV hik e8
 refine aP (aO (nG (aa (ag (v := (I6 i4)) rfl) ?_)))
 obtain ⟨b11, o12, cs13, h, r14, i10⟩ := h.zg 1 2 rfl iH rfl (iO hik) (gm hik e9a)
 obtain ⟨G8, rfl, g16⟩ := sG r14
 replace h := h.bX 3 g16.up
 refine aa (i10 _ _ _ _ _ _ _ _ _ rfl rfl) (aa (jH (k := 0) (vs := [(I6 x5.params), (I6 x5.locals), G8]) h 2 rfl lS rfl rfl rfl (bD rfl)) (bU h 4 lS fun w b17 h => aa (ae (v := (I6 i4)) rfl) (dm (vs := [(I6 x5.params), (I6 x5.locals), G8]) h 4 [(I6 x5.params), (I6 x5.locals), G8] rfl lS rfl rfl rfl rfl rfl (ai rfl (ai rfl (ai (h.fo 3 rfl).one aR))) fun w h => nJ (aa (ah vN rfl) (aa (aB h 4 rfl aW rfl rfl) (aS yN rfl rfl (gQ _ _ h.lt x5.params 0 3 _ rfl) ?_))))))
 rintro _ w ⟨k18, rfl⟩
 refine ⟨_, rfl, ?_⟩
 replace h := h.grow k18
 refine aa (ic rfl) (aa (ag (v := (.bool ((!(aX x5.params 0 3))))) rfl) (aA rfl rfl (fun q => ah zn rfl) (aA rfl rfl (fun q => aB h 4 rfl aW (dz q) rfl) (aA rfl rfl (fun q => ah vN rfl) (aA rfl rfl (fun q => aB h 4 rfl aW (dz q) rfl) (Nl rfl rfl yN rfl (fun q => lN (dz q) (lN (dz q) (lN rfl rfl))) (gQ _ _ h.lt x5.locals x5.params 6 _ rfl) fun w k19 => ?_))))))
 replace h := h.grow k19
 refine aA rfl rfl (fun q => ic (dz q)) (aa (gW rfl rfl lX) (aa (ag (v := (.bool (((!(aX x5.params 0 3)) || (!(aX x5.locals x5.params 6)))))) rfl) (aA rfl rfl (fun q => ag (v := (I6 i4)) rfl) (aA rfl rfl (fun q => bz (dz q) rfl) (aA rfl rfl (fun q => ag (v := (.bool (decide ((i4 : Int) = 0)))) (dz q)) (mi (((!(aX x5.params 0 3)) || (!(aX x5.locals x5.params 6))) == false) rfl rfl (fun q => ah vN rfl) (mi (((!(aX x5.params 0 3)) || (!(aX x5.locals x5.params 6))) == false) rfl rfl (fun q => aB h 4 rfl aW (dz q) rfl) (mi (((!(aX x5.params 0 3)) || (!(aX x5.locals x5.params 6))) == false) rfl rfl (fun q => gN (dz q) rfl) (aA rfl rfl (fun q => fD (dz q) (Uy q) lX) (aa (gW rfl rfl lX) (nN (aG hs rfl (fun c20 hs => ?_) (fun c20 hs => ?_)))))))))))))
 refine nG (aa (ae (v := (I6 3)) rfl) (nR (aD (ay (ay (aD (ay (bQ (v := (I6 3)) Tryz.results112 rfl ?_))))))))
 obtain rfl := fJ hs
 exact ⟨h.grown, rfl⟩
 refine aF (ax (ak (aC (aa (dw rfl rfl e9r) (aa (ag (v := (I6 ((i4 + 1)))) rfl) (az (au ?_)))))))
 subst hnx7
 exact jV ⟨k3 + 1, i4 + 1⟩ ⟨h.cn _, by omega, hs⟩ (by have := rq e8; dsimp only; omega)
 rw [fZ (hik ▸ e8), ni] at hs
 refine gV (bA (bA (dE (ak (aP (nG (aa (ag (v := va) rfl) (aa (bS iH rfl (h.gM 1 rfl)) (aa (ag (v := (I6 0)) rfl) (nN (aO (gF (σ := Nat × Int) (inl ([2, 6, 7, 8, 9] ++ rg 45 22)) (fun ⟨k21, i22⟩ => [(45, (I6 i22))]) (fun ⟨k21, i22⟩ w => SH w0 M BE w (hset [(1, .sr iU va a)]) ∧ i22 = (k21 : Int) ∧ each (lu N a) lv (a.drop k21) () = some r) (fun ⟨k21, i22⟩ => a.length - k21) ⟨0, 0⟩ ⟨rfl, trivial⟩ ?_ ?_))))))))))))
 exact ⟨h.cn _, rfl, hs⟩
 rintro ⟨k21, i22⟩ w dx ⟨h, hik, hs⟩
 refine nG ?_
 refine aa (dP rfl rfl) (nN ?_)
 refine aP (iE rfl (fun e26 => ?_) (fun e26 => ?_))
 refine aF (ak ?_)
 obtain ⟨yF, e27a, e27b⟩ := fV (hik ▸ e26)
 rw [e27b, dI] at hs
 generalize VA : each (lu N a) lv (a.drop (k21 + 1)) = zA at hs
 have e27r := gp ((h.gM 1 rfl)).bV hik e26
 refine aP (aO (nG ?_))
 obtain ⟨b29, o30, cs31, h, r32, i28⟩ := h.zg 1 5 rfl iH rfl (iO hik) (gm hik e27a)
 obtain ⟨u33, rfl, g34⟩ := sG r32
 replace h := h.bX 6 g34.up
 refine aa (i28 _ _ _ _ _ _ _ _ _ rfl rfl) (aa (jH (k := 0) (vs := [(I6 yF.params), (I6 yF.locals), u33]) h 5 rfl lS rfl rfl rfl (bD rfl)) (bU h 7 lS fun w b35 h => dm (vs := [(I6 yF.params), (I6 yF.locals), u33]) h 7 [(I6 yF.params), (I6 yF.locals), u33] rfl lS rfl rfl rfl rfl rfl (ai rfl (ai rfl (ai (h.fo 6 rfl).one aR))) fun w h => nK (aa (ah BK rfl) (aa (aB h 7 rfl pK rfl rfl) ?_))))
 obtain ⟨lT, e37, hs⟩ := aJ hs
 refine aS Ry rfl rfl (Da N _ _ h.lt u33 yF.body (h.mM 6 rfl) 4 _ e37) ?_
 rintro _ w ⟨k38, rfl⟩
 refine ⟨_, rfl, ?_⟩
 replace h := h.grow k38
 refine aa (ag (v := (.tuple #[(I6 lT.1), (.bool (lT.2))])) rfl) (aa (aU rfl rfl) (aa (aU rfl rfl) (aa (ae (v := (I6 lT.1)) rfl) (aa (ae (v := (.bool (lT.2))) rfl) (nJ (aa (ag (v := (.bool (lT.2))) rfl) (aa (ic rfl) (nN (aG hs rfl (fun c39 hs => ?_) (fun c39 hs => ?_))))))))))
 refine nG (aa (ae (v := (I6 2)) rfl) (nR (ay (aD (ay (ay (aD (ay (bQ (v := (I6 2)) Tryz.results112 rfl ?_)))))))))
 obtain rfl := fJ hs
 exact ⟨h.grown, rfl⟩
 refine nS (aa (ah BK rfl) (aa (aB h 7 rfl pK rfl rfl) (aa (ag (v := va) rfl) (aa (ah zn rfl) (aa (aB h 7 rfl aW rfl rfl) ?_)))))
 obtain ⟨Zj, e41, hs⟩ := aJ hs
 refine aS Mk rfl rfl (yO N _ _ h.lt u33 yF.body (h.mM 6 rfl) va a (h.gM 1 rfl) yF.locals _ e41) ?_
 rintro _ w ⟨k42, rfl⟩
 refine ⟨_, rfl, ?_⟩
 replace h := h.grow k42
 refine aa (ae (v := (I6 Zj)) rfl) (nJ (aa (ag (v := (I6 Zj)) rfl) (aa (gN rfl rfl) (nN (aG hs rfl (fun c43 hs => ?_) (fun c43 hs => ?_))))))
 refine nG (aa (ag (v := (I6 Zj)) rfl) (aa (ae (v := (I6 Zj)) rfl) (nR (aD (ay (ay (aD (ay (bQ (v := (I6 Zj)) Tryz.results112 rfl ?_)))))))))
 obtain rfl := fJ hs
 exact ⟨h.grown, rfl⟩
 refine aF (ax (ak (aC (aa (dw rfl rfl e27r) (aa (ag (v := (I6 ((i22 + 1)))) rfl) (az (au ?_)))))))
 subst VA
 exact jV ⟨k21 + 1, i22 + 1⟩ ⟨h.cn _, by omega, hs⟩ (by have := rq e26; dsimp only; omega)
 rw [fZ (hik ▸ e26), gG] at hs
 refine nE (aa (ae (v := (I6 0)) rfl) (nR (bQ (v := (I6 0)) Tryz.results112 rfl ?_)))
 obtain rfl := fJ hs
 exact ⟨h.grown, rfl⟩
theorem tY (w0 : World) (M : BS) (hM : ∀ b, M b → b < w0.heap.size) (hT : vK Tryz.prog 4 w0) (a : Int) (r : Str) (hs : KI a = some r) :
    Calls Tryz.prog 125 #[.int .i64 a] w0 (fun e w' => Grow w0 w' ∧ e = .returned (aV r)) :=
  ZY Tryz.strconv_Itoa hT hs
theorem zB (w0 : World) (M : BS) (hM : ∀ b, M b → b < w0.heap.size) (hT : vK Tryz.prog 4 w0) (a : Str) (r : List Str) (hs : Ep a = some r) :
    Calls Tryz.prog 111 #[aV a] w0 (fun e w' => Grow w0 w' ∧ ∃ u, e = .returned u ∧ fu nY w' M u r) :=
  U9 Tryz.strings_Fields (q := 0) (by kernel_rfl) hM hT hs
def jD (a : Tok) : Option Str :=
  (KI a.n).bind fun y2 => bif decide ((a.kind : Int) = 2) then gL ([118].length + y2.length ≤ 9223372036854775807) (some ([118] ++ y2)) else bif decide ((a.kind : Int) = 3) then gL (jN (a.n + 1)) ((subs? [63, 43, 45, 42, 60, 61] a.n (a.n + 1)).bind fun x9 => some x9) else bif decide ((a.kind : Int) = 4) then gL ([46].length + y2.length ≤ 9223372036854775807) (some ([46] ++ y2)) else bif decide ((a.kind : Int) = 5) then gL ([110, 101, 119].length + y2.length ≤ 9223372036854775807) (some ([110, 101, 119] ++ y2)) else bif decide ((a.kind : Int) = 6) then gL ([102].length + y2.length ≤ 9223372036854775807) (some ([102] ++ y2)) else some y2
theorem pO (w0 : World) (M : BS) (hM : ∀ b, M b → b < w0.heap.size) (hT : vK Tryz.prog 4 w0) (a : Tok) (r : Str) (hs : jD a = some r) :
    Calls Tryz.prog 106 #[(.agg #[(I6 a.kind), (I6 a.n)])] w0 (fun e w' => Grow w0 w' ∧ e = .returned (aV r)) := by
 refine aN (args := [(.agg #[(I6 a.kind), (I6 a.n)])]) Tryz.func106 rfl Tryz.ntmps106 (bD rfl) ?_
 have h := SH.init hM
 refine nG (oW (cs := [(I6 a.kind), (I6 a.n)]) h 1 rfl rfl fun w b1 h => aa (ae (v := (aV [])) rfl) (nJ (aa (ah nz rfl) (aa (aB h 1 rfl aW rfl rfl) ?_))))
 obtain ⟨y2, e3, hs⟩ := aJ hs
 refine aS H5 rfl rfl (tY _ _ h.lt (hT.go h.keep) a.n _ e3) ?_
 rintro _ w ⟨k4, rfl⟩
 refine ⟨_, rfl, ?_⟩
 replace h := h.grow k4
 refine aa (ae (v := (aV y2)) rfl) (nK (aa (ah Ev rfl) (aa (aB h 1 rfl aW rfl rfl) (nN (aO (nG (aa (bz rfl rfl) (aa (ae (v := (.bool (decide ((a.kind : Int) = 2)))) rfl) (nN (aG hs rfl (fun c5 hs => ?_) (fun c5 hs => ?_)))))))))))
 refine nG (aa (ag (v := (aV y2)) rfl) ?_)
 obtain ⟨a6, hs⟩ := bg hs
 refine aa (lY rfl rfl a6) (aa (ae (v := (aV ([118] ++ y2))) rfl) (nR (aD (ay (bQ (v := (aV ([118] ++ y2))) Tryz.results106 rfl ?_)))))
 obtain rfl := fJ hs
 exact ⟨h.grown, rfl⟩
 refine nG (aa (bz rfl rfl) (aa (ae (v := (.bool (decide ((a.kind : Int) = 3)))) rfl) (nN (aG hs rfl (fun c7 hs => ?_) (fun c7 hs => ?_)))))
 refine nG (aa (ah nz rfl) (aa (aB h 1 rfl aW rfl rfl) (aa (ah nz rfl) (aa (aB h 1 rfl aW rfl rfl) ?_))))
 obtain ⟨a8, hs⟩ := bg hs
 refine aa (dw rfl rfl a8) ?_
 obtain ⟨x9, e10, hs⟩ := aJ hs
 obtain ⟨VB, VC, e11c, e11⟩ := Pt e10
 refine aa (Ps e11 Tryz.underlying9 rfl (.inr (congrArg some rfl)) (.inr (congrArg some rfl)) VB VC e11c) (aa (ae (v := (aV x9)) rfl) (nR (aD (ay (bQ (v := (aV x9)) Tryz.results106 rfl ?_)))))
 obtain rfl := fJ hs
 exact ⟨h.grown, rfl⟩
 refine nG (aa (bz rfl rfl) (aa (ae (v := (.bool (decide ((a.kind : Int) = 4)))) rfl) (nN (aG hs rfl (fun c12 hs => ?_) (fun c12 hs => ?_)))))
 refine nG (aa (ag (v := (aV y2)) rfl) ?_)
 obtain ⟨a13, hs⟩ := bg hs
 refine aa (lY rfl rfl a13) (aa (ae (v := (aV ([46] ++ y2))) rfl) (nR (aD (ay (bQ (v := (aV ([46] ++ y2))) Tryz.results106 rfl ?_)))))
 obtain rfl := fJ hs
 exact ⟨h.grown, rfl⟩
 refine nG (aa (bz rfl rfl) (aa (ae (v := (.bool (decide ((a.kind : Int) = 5)))) rfl) (nN (aG hs rfl (fun c14 hs => ?_) (fun c14 hs => ?_)))))
 refine nG (aa (ag (v := (aV y2)) rfl) ?_)
 obtain ⟨a15, hs⟩ := bg hs
 refine aa (lY rfl rfl a15) (aa (ae (v := (aV ([110, 101, 119] ++ y2))) rfl) (nR (aD (ay (bQ (v := (aV ([110, 101, 119] ++ y2))) Tryz.results106 rfl ?_)))))
 obtain rfl := fJ hs
 exact ⟨h.grown, rfl⟩
 refine nG (aa (bz rfl rfl) (aa (ae (v := (.bool (decide ((a.kind : Int) = 6)))) rfl) (nN (aG hs rfl (fun c16 hs => ?_) (fun c16 hs => ?_)))))
 refine nG (aa (ag (v := (aV y2)) rfl) ?_)
 obtain ⟨a17, hs⟩ := bg hs
 refine aa (lY rfl rfl a17) (aa (ae (v := (aV ([102] ++ y2))) rfl) (nR (aD (ay (bQ (v := (aV ([102] ++ y2))) Tryz.results106 rfl ?_)))))
 obtain rfl := fJ hs
 exact ⟨h.grown, rfl⟩
 refine aF (ax (ak (nG (aa (ag (v := (aV y2)) rfl) (aa (ae (v := (aV y2)) rfl) (nR (bQ (v := (aV y2)) Tryz.results106 rfl ?_)))))))
 obtain rfl := fJ hs
 exact ⟨h.grown, rfl⟩
def nC (x7 : Tok) (x4 : Str) (H7 : Str → Option Str) : Option Str :=
  (jD x7).bind fun Bz => gL ([32].length + Bz.length ≤ 9223372036854775807) (gL (x4.length + ([32] ++ Bz).length ≤ 9223372036854775807) (H7 (x4 ++ ([32] ++ Bz))))
def nD (x4 : Str) : Option Str :=
  some x4
def qj (a : List Tok) : Option Str :=
  each nC nD a []
theorem tZ (w0 : World) (M : BS) (hM : ∀ b, M b → b < w0.heap.size) (hT : vK Tryz.prog 4 w0) (va : Value) (a : List Tok) (ha : gB kD w0 BE M va a) (r : Str) (hs : qj a = some r) :
    Calls Tryz.prog 147 #[va] w0 (fun e w' => Grow w0 w' ∧ e = .returned (aV r)) := by
 refine aN (args := [va]) Tryz.func147 rfl Tryz.ntmps147 (bD rfl) ?_
 have h := SH.init hM
 replace h := h.fw 1 ha bC
 have vR := ha.bV
 refine nG (aa (ae (v := (aV [])) rfl) (nJ (aa (ae (v := (aV [])) rfl) (nK (aa (ag (v := va) rfl) (aa (bS ku rfl (h.gM 1 rfl)) (aa (ag (v := (I6 0)) rfl) (nN (aO (gF (σ := Nat × Int × Str) (inl ([3, 5] ++ rg 8 10)) (fun ⟨k5, i6, x4⟩ => [(3, (aV x4)), (8, (I6 i6))]) (fun ⟨k5, i6, x4⟩ w => SH w0 M BE w (hset [(1, .sr kD va a)]) ∧ i6 = (k5 : Int) ∧ each nC nD (a.drop k5) x4 = some r) (fun ⟨k5, i6, x4⟩ => a.length - k5) ⟨0, 0, []⟩ ⟨rfl, rfl, trivial⟩ ?_ ?_))))))))))
 exact ⟨h.cn _, rfl, hs⟩
 rintro ⟨k5, i6, x4⟩ w dx ⟨h, hik, hs⟩
 refine nG ?_
 refine aa (dP rfl rfl) (nN ?_)
 refine aP (iE rfl (fun e10 => ?_) (fun e10 => ?_))
 refine aF (ak ?_)
 obtain ⟨x7, VB, VC⟩ := fV (hik ▸ e10)
 rw [VC, dI] at hs
 generalize VD : each nC nD (a.drop (k5 + 1)) = H7 at hs
 have VE := gp ((h.gM 1 rfl)).bV hik e10
 refine aP (aO (nG ?_))
 obtain ⟨b13, o14, cs15, h, r16, i12⟩ := h.zg 1 2 rfl ku rfl (iO hik) (gm hik VB)
 obtain rfl := r16
 refine aa (i12 _ _ _ _ _ _ _ _ _ rfl rfl) (aa (jH (k := 0) (vs := [(I6 x7.kind), (I6 x7.n)]) h 2 rfl j5 rfl rfl rfl (bD rfl)) (bU h 3 j5 fun w b17 h => dm (vs := [(I6 x7.kind), (I6 x7.n)]) h 3 [(I6 x7.kind), (I6 x7.n)] rfl j5 rfl rfl rfl rfl rfl (ai rfl (ai rfl aR)) fun w h => nN (aC (aa (ag (v := (aV x4)) rfl) (aa (cK (vs := [(I6 x7.kind), (I6 x7.n)]) h 3 rfl j5 rfl rfl rfl) ?_)))))
 obtain ⟨Bz, e19, hs⟩ := aJ hs
 refine aS Mh rfl rfl (pO _ _ h.lt (hT.go h.keep) x7 _ e19) ?_
 rintro _ w ⟨k20, rfl⟩
 refine ⟨_, rfl, ?_⟩
 replace h := h.grow k20
 obtain ⟨a21, hs⟩ := bg hs
 refine aa (lY rfl rfl a21) ?_
 obtain ⟨a22, hs⟩ := bg hs
 refine aa (lY rfl rfl a22) (aa (ae (v := (aV (x4 ++ ([32] ++ Bz)))) rfl) (az (ax (ak (aC (aa (dw rfl rfl VE) (aa (ag (v := (I6 ((i6 + 1)))) rfl) (az (au ?_)))))))))
 subst VD
 exact jV ⟨k5 + 1, i6 + 1, (x4 ++ ([32] ++ Bz))⟩ ⟨h.cn _, by omega, hs⟩ (by have := rq e10; dsimp only; omega)
 rw [fZ (hik ▸ e10), gG] at hs
 refine nE (aa (ag (v := (aV x4)) rfl) (aa (ae (v := (aV x4)) rfl) (nR (bQ (v := (aV x4)) Tryz.results147 rfl ?_))))
 obtain rfl := fJ hs
 exact ⟨h.grown, rfl⟩
def lZ (H7 : Str → Option Str) (uf : Str) : Option Str :=
  H7 uf
def l5 (F0 : List bu → Option Str) (x7 : bu) (H7 : Str → Option Str) (x34 : Str) : Option Str :=
  bif decide ((x7.kind : Int) = 6) then (F0 x7.b).bind fun lT => gL ([32].length + lT.length ≤ 9223372036854775807) (gL (x34.length + ([32] ++ lT).length ≤ 9223372036854775807) (lZ H7 (x34 ++ ([32] ++ lT)))) else lZ H7 x34
def l6 (F0 : List bu → Option Str) (x7 : bu) (a : List bu) (H7 : Str → Option Str) (x30 : Str) : Option Str :=
  (qj x7.e).bind fun ql => (qj x7.f).bind fun qm => gL (ql.length + qm.length ≤ 9223372036854775807) (gL (x30.length + (ql ++ qm).length ≤ 9223372036854775807) (bif (decide ((x7.kind : Int) = 6) || decide ((x7.kind : Int) = 7)) then (F0 x7.a).bind fun xK => gL ([32].length + xK.length ≤ 9223372036854775807) (gL ((x30 ++ (ql ++ qm)).length + ([32] ++ xK).length ≤ 9223372036854775807) (l5 F0 x7 H7 ((x30 ++ (ql ++ qm)) ++ ([32] ++ xK)))) else l5 F0 x7 H7 (x30 ++ (ql ++ qm))))
def l7 (F0 : List bu → Option Str) (a : List bu) (x7 : bu) (x4 : Str) (H7 : Str → Option Str) : Option Str :=
  gL (jN (x7.kind - 1)) ((Ep [115, 101, 116, 32, 112, 117, 116, 32, 115, 97, 121, 32, 112, 97, 117, 115, 101, 32, 103, 111, 32, 105, 102, 32, 119, 104, 105, 108, 101, 32, 114, 101, 116, 117, 114, 110]).bind fun NH => (idx NH (x7.kind - 1)).bind fun qo => gL ([32].length + qo.length ≤ 9223372036854775807) (gL (x4.length + ([32] ++ qo).length ≤ 9223372036854775807) (bif decide ((x7.kind : Int) ≤ 2) then (KI x7.n).bind fun uI => gL ([32].length + uI.length ≤ 9223372036854775807) (gL ((x4 ++ ([32] ++ qo)).length + ([32] ++ uI).length ≤ 9223372036854775807) (l6 F0 x7 a H7 ((x4 ++ ([32] ++ qo)) ++ ([32] ++ uI)))) else l6 F0 x7 a H7 (x4 ++ ([32] ++ qo)))))
def l8 (x4 : Str) : Option Str :=
  gL (x4.length + [32, 125].length ≤ 9223372036854775807) (some (x4 ++ [32, 125]))
def sJ (F0 : List bu → Option Str) (a : List bu) : Option Str :=
  each (l7 F0 a) l8 a [123]
def jL : Nat → List bu → Option Str
  | 0 => fun _ => none
  | N + 1 => sJ (jL N)
theorem zC : ∀ (N : Nat) (w0 : World) (M : BS) (hM : ∀ b, M b → b < w0.heap.size) (hT : vK Tryz.prog 4 w0) (va : Value) (a : List bu) (ha : gB eD w0 BE M va a) (r : Str) (hs : jL N a = some r),
    Calls Tryz.prog 130 #[va] w0 (fun e w' => Grow w0 w' ∧ e = .returned (aV r)) := by
 intro N
 induction N with
 | zero => intro w0 M hM hT va a ha r hs; cases hs
 | succ N ih =>
 intro w0 M hM hT va a ha r hs
 replace hs : sJ (jL N) a = some r := hs
 generalize jL N = F0 at hs ih
 refine aN (args := [va]) Tryz.func130 rfl Tryz.ntmps130 (bD rfl) ?_
 have h := SH.init hM
 replace h := h.fw 1 ha bC
 have vR := ha.bV
 refine nG (aa (ae (v := (aV [])) rfl) (nJ (aa (ae (v := (aV [123])) rfl) (nK (aa (ag (v := va) rfl) (aa (bS kP rfl (h.gM 1 rfl)) (aa (ag (v := (I6 0)) rfl) (nN (aO (gF (σ := Nat × Int × Str) (inl ([3, 5] ++ rg 8 55)) (fun ⟨k5, i6, x4⟩ => [(3, (aV x4)), (8, (I6 i6))]) (fun ⟨k5, i6, x4⟩ w => SH w0 M BE w (hset [(1, .sr eD va a)]) ∧ i6 = (k5 : Int) ∧ each (l7 F0 a) l8 (a.drop k5) x4 = some r) (fun ⟨k5, i6, x4⟩ => a.length - k5) ⟨0, 0, [123]⟩ ⟨rfl, rfl, trivial⟩ ?_ ?_))))))))))
 exact ⟨h.cn _, rfl, hs⟩
 rintro ⟨k5, i6, x4⟩ w dx ⟨h, hik, hs⟩
 refine nG ?_
 refine aa (dP rfl rfl) (nN ?_)
 refine aP (iE rfl (fun e10 => ?_) (fun e10 => ?_))
 refine aF (ak ?_)
 obtain ⟨x7, VB, VC⟩ := fV (hik ▸ e10)
 rw [VC, dI] at hs
 generalize VD : each (l7 F0 a) l8 (a.drop (k5 + 1)) = H7 at hs
 have VE := gp ((h.gM 1 rfl)).bV hik e10
 refine bW (σ := Str) (inl ([3, 5] ++ rg 10 52)) (fun uf => [(3, (aV uf))]) (fun uf w => SH w0 M BE w (hset [(1, .sr eD va a)]) ∧ lZ H7 uf = some r) ?_ ?_
 rintro uf w dx ⟨h, hs⟩
 refine aC (aa (dw rfl rfl VE) (aa (ag (v := (I6 ((i6 + 1)))) rfl) (az (au ?_))))
 subst VD
 exact jV ⟨k5 + 1, i6 + 1, uf⟩ ⟨h.cn _, by omega, hs⟩ (by have := rq e10; dsimp only; omega)
 refine aO (nG ?_)
 obtain ⟨b14, o15, cs16, h, r17, i13⟩ := h.zg 1 2 rfl kP rfl (iO hik) (gm hik VB)
 obtain ⟨UA, u20, u22, u24, rfl, g19, g21, g23, g25⟩ := Aq r17
 replace h := h.bX 3 g19.up
 replace h := h.bX 4 g21.up.up
 replace h := h.bX 5 g23.up.up.up
 replace h := h.bX 6 g25.up.up.up.up
 refine aa (i13 _ _ _ _ _ _ _ _ _ rfl rfl) (aa (jH (k := 0) (vs := [(I6 x7.kind), (I6 x7.n), UA, u20, u22, u24]) h 2 rfl oo rfl rfl rfl (bD rfl)) (bU h 7 oo fun w b26 h => dm (vs := [(I6 x7.kind), (I6 x7.n), UA, u20, u22, u24]) h 7 [(I6 x7.kind), (I6 x7.n), UA, u20, u22, u24] rfl oo rfl rfl rfl rfl rfl (ai rfl (ai rfl (ai (h.fo 3 rfl).one (ai (h.fo 4 rfl).one (ai (h.fo 5 rfl).one (ai (h.fo 6 rfl).one aR)))))) fun w h => nN (aP (Ap mixed h fun w h => eP 0 (aI.refl BE _) rfl aj (by kernel_rfl) (by kernel_rfl) (by kernel_rfl) (fun w hk => ag (v := (aV x4)) rfl) (eP 2 (aI.refl BE _) rfl aj (by kernel_rfl) (by kernel_rfl) (by kernel_rfl) (fun w hk => ah jX rfl) (eP 3 (aI.refl BE _) rfl aj (by kernel_rfl) (by kernel_rfl) (by kernel_rfl) (fun w hk => have h := h.grow hk; aB h 7 rfl aW rfl rfl) ?_))))))
 obtain ⟨IG, hs⟩ := bg hs
 refine eP 4 (aI.refl BE _) rfl aj (by kernel_rfl) (by kernel_rfl) (by kernel_rfl) (fun w hk => mZ rfl rfl IG) ?_
 obtain ⟨VF, NI⟩ : ∃ x, x = w := ⟨_, rfl⟩
 have tu : Grow VF w := NI ▸ aI.refl BE w
 refine En NI.symm (kM 1 (by kernel_rfl) rfl aj ?_)
 obtain ⟨NH, VG, hs⟩ := aJ hs
 refine aS Rw rfl rfl (zB _ _ h.lt (hT.go h.keep) [115, 101, 116, 32, 112, 117, 116, 32, 115, 97, 121, 32, 112, 97, 117, 115, 101, 32, 103, 111, 32, 105, 102, 32, 119, 104, 105, 108, 101, 32, 114, 101, 116, 117, 114, 110] _ VG) ?_
 rintro _ w ⟨NJ, uq27x1_3, rfl, VH⟩
 refine ⟨_, rfl, ?_⟩
 replace h := h.Ky 20 NJ VH
 replace tu := tu.trans NJ
 refine az (iF tu ?_)
 obtain ⟨qo, NK, hs⟩ := aJ hs
 obtain ⟨bq27x5_4, oq27x5_5, csq27x5_6, h, VI, VJ⟩ := h.Fj 20 68 rfl eF rfl (aH NK).1 (aH NK).2
 obtain rfl := VI
 refine pJ 5 tu rfl (by kernel_rfl) (fun w hk => VJ _ _ _ _ _ _ _ _ _ rfl rfl) (LU tu ?_)
 obtain ⟨SN, PK⟩ : ∃ x, x = w := ⟨_, rfl⟩
 have hgq27x6_2 : Grow SN w := PK ▸ aI.refl _ _
 refine eP 6 (aI.refl BE _) rfl aj (by kernel_rfl) (by kernel_rfl) (by kernel_rfl) (fun w hk => have h := h.grow hk; dZ (k := 0) h 68 rfl zw rfl rfl) ?_
 obtain ⟨VK, hs⟩ := bg hs
 refine eP 7 (aI.refl BE _) rfl aj (by kernel_rfl) (by kernel_rfl) (by kernel_rfl) (fun w hk => lY rfl rfl VK) ?_
 obtain ⟨VL, hs⟩ := bg hs
 refine eP 8 (aI.refl BE _) rfl aj (by kernel_rfl) (by kernel_rfl) (by kernel_rfl) (fun w hk => lY rfl rfl VL) (eP 9 (aI.refl BE _) rfl aj (by kernel_rfl) (by kernel_rfl) (by kernel_rfl) (fun w hk => ae (v := (aV (x4 ++ ([32] ++ qo)))) rfl) (qH (by kernel_rfl) (ak (bW (σ := Str) (inl ([3] ++ rg 21 9)) (fun x30 => [(3, (aV x30))]) (fun x30 w => SH w0 M BE w (hset [(1, .sr eD va a), (3, .rd kD UA x7.e), (4, .rd kD u20 x7.f), (5, .rd eD u22 x7.a), (6, .rd eD u24 x7.b), (7, .blk b26 [(I6 x7.kind), (I6 x7.n), UA, u20, u22, u24])]) ∧ l6 F0 x7 a H7 x30 = some r) ?_ ?_))))
 rintro x30 w dx ⟨h, hs⟩
 refine aP (Ap mixed h fun w h => eP 0 (aI.refl BE _) rfl aj (by kernel_rfl) (by kernel_rfl) (by kernel_rfl) (fun w hk => ag (v := (aV x30)) rfl) (eP 1 (aI.refl BE _) rfl aj (by kernel_rfl) (by kernel_rfl) (by kernel_rfl) (fun w hk => ah zo rfl) (eP 2 (aI.refl BE _) rfl aj (by kernel_rfl) (by kernel_rfl) (by kernel_rfl) (fun w hk => have h := h.grow hk; aB h 7 rfl xI rfl rfl) (eP 4 (aI.refl BE _) rfl aj (by kernel_rfl) (by kernel_rfl) (by kernel_rfl) (fun w hk => ah BL rfl) (eP 5 (aI.refl BE _) rfl aj (by kernel_rfl) (by kernel_rfl) (by kernel_rfl) (fun w hk => have h := h.grow hk; aB h 7 rfl xI rfl rfl) ?_)))))
 obtain ⟨PL, NL⟩ : ∃ x, x = w := ⟨_, rfl⟩
 have mO : Grow PL w := NL ▸ aI.refl BE w
 refine En NL.symm (kM 3 (by kernel_rfl) rfl aj ?_)
 obtain ⟨ql, VM, hs⟩ := aJ hs
 refine aS RA rfl rfl (tZ _ _ h.lt (hT.go h.keep) UA x7.e (h.mM 3 rfl) _ VM) ?_
 rintro _ w ⟨NM, rfl⟩
 refine ⟨_, rfl, ?_⟩
 replace h := h.grow NM
 replace mO := mO.trans NM
 refine az (iF mO (kM 6 (by kernel_rfl) rfl aj ?_))
 obtain ⟨qm, VN, hs⟩ := aJ hs
 refine aS RA rfl rfl (tZ _ _ h.lt (hT.go h.keep) u20 x7.f (h.mM 4 rfl) _ VN) ?_
 rintro _ w ⟨NP, rfl⟩
 refine ⟨_, rfl, ?_⟩
 replace h := h.grow NP
 replace mO := mO.trans NP
 refine az (iF mO ?_)
 obtain ⟨VO, hs⟩ := bg hs
 refine pJ 7 mO rfl (by kernel_rfl) (fun w hk => lY rfl rfl VO) ?_
 obtain ⟨VP, hs⟩ := bg hs
 refine pJ 8 mO rfl (by kernel_rfl) (fun w hk => lY rfl rfl VP) (pJ 9 mO rfl (by kernel_rfl) (fun w hk => ae (v := (aV (x30 ++ (ql ++ qm)))) rfl) (qH (by kernel_rfl) (ak (bW (σ := Str) (inl ([3] ++ rg 39 14)) (fun x34 => [(3, (aV x34))]) (fun x34 w => SH w0 M BE w (hset [(1, .sr eD va a), (3, .rd kD UA x7.e), (4, .rd kD u20 x7.f), (5, .rd eD u22 x7.a), (6, .rd eD u24 x7.b), (7, .blk b26 [(I6 x7.kind), (I6 x7.n), UA, u20, u22, u24])]) ∧ l5 F0 x7 H7 x34 = some r) ?_ ?_))))
 rintro x34 w dx ⟨h, hs⟩
 refine nG (aa (ah jX rfl) (aa (aB h 7 rfl aW rfl rfl) (aa (bz rfl rfl) (nN (aG hs rfl (fun c35 hs => ?_) (fun c35 hs => ?_))))))
 refine aC (aa (ag (v := (aV x34)) rfl) (aa (ah zt rfl) (aa (aB h 7 rfl pK rfl rfl) ?_)))
 obtain ⟨lT, e37, hs⟩ := aJ hs
 refine aS Ml rfl rfl (ih _ _ h.lt (hT.go h.keep) u24 x7.b (h.mM 6 rfl) _ e37) ?_
 rintro _ w ⟨k38, rfl⟩
 refine ⟨_, rfl, ?_⟩
 replace h := h.grow k38
 obtain ⟨a39, hs⟩ := bg hs
 refine aa (lY rfl rfl a39) ?_
 obtain ⟨a40, hs⟩ := bg hs
 refine aa (lY rfl rfl a40) (aa (ae (v := (aV (x34 ++ ([32] ++ lT)))) rfl) (az (ax (au ?_))))
 exact bP (x34 ++ ([32] ++ lT)) ⟨h.cn _, hs⟩
 refine aF (ax (au ?_))
 exact bP x34 ⟨h.cn _, hs⟩
 refine nG (aa (ah jX rfl) (aa (aB h 7 rfl aW rfl rfl) (aa (bz rfl rfl) (aa (ag (v := (.bool (decide ((x7.kind : Int) = 6)))) rfl) (aA rfl rfl (fun q => ah jX rfl) (aA rfl rfl (fun q => aB h 7 rfl aW (dz q) rfl) (aA rfl rfl (fun q => bz (dz q) rfl) (aa (gW rfl rfl lX) (nN (aG hs rfl (fun c41 hs => ?_) (fun c41 hs => ?_)))))))))))
 refine aC (aa (ag (v := (aV (x30 ++ (ql ++ qm)))) rfl) (aa (ah zq rfl) (aa (aB h 7 rfl pK rfl rfl) ?_)))
 obtain ⟨xK, e43, hs⟩ := aJ hs
 refine aS Ml rfl rfl (ih _ _ h.lt (hT.go h.keep) u22 x7.a (h.mM 5 rfl) _ e43) ?_
 rintro _ w ⟨k44, rfl⟩
 refine ⟨_, rfl, ?_⟩
 replace h := h.grow k44
 obtain ⟨a45, hs⟩ := bg hs
 refine aa (lY rfl rfl a45) ?_
 obtain ⟨a46, hs⟩ := bg hs
 refine aa (lY rfl rfl a46) (aa (ae (v := (aV ((x30 ++ (ql ++ qm)) ++ ([32] ++ xK)))) rfl) (az (au ?_)))
 exact bP ((x30 ++ (ql ++ qm)) ++ ([32] ++ xK)) ⟨h.cn _, hs⟩
 refine aF (au ?_)
 exact bP (x30 ++ (ql ++ qm)) ⟨h.cn _, hs⟩
 refine nG (aa (ah jX rfl) (aa (aB h 7 rfl aW rfl rfl) (aa (Eh rfl rfl) (nN (aG hs rfl (fun c47 hs => ?_) (fun c47 hs => ?_))))))
 refine aC (aa (ag (v := (aV (x4 ++ ([32] ++ qo)))) rfl) (aa (ah vO rfl) (aa (aB h 7 rfl aW rfl rfl) ?_)))
 obtain ⟨uI, e49, hs⟩ := aJ hs
 refine aS H5 rfl rfl (tY _ _ h.lt (hT.go h.keep) x7.n _ e49) ?_
 rintro _ w ⟨k50, rfl⟩
 refine ⟨_, rfl, ?_⟩
 replace h := h.grow k50
 obtain ⟨a51, hs⟩ := bg hs
 refine aa (lY rfl rfl a51) ?_
 obtain ⟨a52, hs⟩ := bg hs
 refine aa (lY rfl rfl a52) (aa (ae (v := (aV ((x4 ++ ([32] ++ qo)) ++ ([32] ++ uI)))) rfl) (az (au ?_)))
 exact bP ((x4 ++ ([32] ++ qo)) ++ ([32] ++ uI)) ⟨h.cn _, hs⟩
 refine aF (au ?_)
 exact bP (x4 ++ ([32] ++ qo)) ⟨h.cn _, hs⟩
 rw [fZ (hik ▸ e10), gG] at hs
 refine nE (aa (ag (v := (aV x4)) rfl) ?_)
 obtain ⟨a53, hs⟩ := bg hs
 refine aa (lY rfl rfl a53) (aa (ae (v := (aV (x4 ++ [32, 125]))) rfl) (nR (bQ (v := (aV (x4 ++ [32, 125]))) Tryz.results130 rfl ?_)))
 obtain rfl := fJ hs
 exact ⟨h.grown, rfl⟩
theorem II (w0 : World) (M : BS) (hM : ∀ b, M b → b < w0.heap.size) (va : Value) (a : List Str) (ha : gB nY w0 BE M va a) (b : Str) (r : Str) (hs : UZ a b = some r) :
    Calls Tryz.prog 131 #[va, aV b] w0 (fun e w' => Grow w0 w' ∧ e = .returned (aV r)) :=
  Z4 Tryz.strings_Join_none Tryz.strings_Join ha hs
def l9 (N : Nat) (eu : eU) (x8 : List Str) (nZ : List Str → Option Str) : Option Str :=
  (KI eu.params).bind fun pg => gL ([102, 117, 110, 32].length + pg.length ≤ 9223372036854775807) (gL (([102, 117, 110, 32] ++ pg).length + [32].length ≤ 9223372036854775807) ((KI eu.locals).bind fun rG => gL ((([102, 117, 110, 32] ++ pg) ++ [32]).length + rG.length ≤ 9223372036854775807) (gL (((([102, 117, 110, 32] ++ pg) ++ [32]) ++ rG).length + [32].length ≤ 9223372036854775807) ((jL N eu.body).bind fun sK => gL ((((([102, 117, 110, 32] ++ pg) ++ [32]) ++ rG) ++ [32]).length + sK.length ≤ 9223372036854775807) (gL (Room 16 x8 [((((([102, 117, 110, 32] ++ pg) ++ [32]) ++ rG) ++ [32]) ++ sK)]) (nZ (x8 ++ [((((([102, 117, 110, 32] ++ pg) ++ [32]) ++ rG) ++ [32]) ++ sK)])))))))
def ma (x8 : List Str) : Option Str :=
  (UZ x8 [32]).bind fun H8 => some H8
def ug (N : Nat) (a : List eU) : Option Str :=
  each (l9 N) ma a []
theorem yP (N : Nat) (w0 : World) (M : BS) (hM : ∀ b, M b → b < w0.heap.size) (hT : vK Tryz.prog 4 w0) (va : Value) (a : List eU) (ha : gB iU w0 BE M va a) (r : Str) (hs : ug N a = some r) :
    Calls Tryz.prog 113 #[va] w0 (fun e w' => Grow w0 w' ∧ e = .returned (aV r)) := by
 refine aN (args := [va]) Tryz.func113 rfl Tryz.ntmps113 (bD rfl) ?_
 have h := SH.init hM
 replace h := h.fw 1 ha bC
 have vR := ha.bV
 refine nG (aa (ae (v := (aV [])) rfl) (nJ (aa (ae (v := (.slice none 0 0)) rfl) (nK (aa (ag (v := va) rfl) (aa (bS iH rfl (h.gM 1 rfl)) (aa (ag (v := (I6 0)) rfl) (nN (aO ?_)))))))))
 replace h := h.xC (R := nY) (E := 9) 5
 refine gF (σ := Nat × Int × Value × List Str) (inl ([3, 5] ++ rg 8 22)) (fun ⟨k9, i10, v7, x8⟩ => [(3, v7), (8, (I6 i10))]) (fun ⟨k9, i10, v7, x8⟩ w => SH w0 M BE w (hset [(1, .sr iU va a), (5, .own nY 9 v7 x8)]) ∧ i10 = (k9 : Int) ∧ each (l9 N) ma (a.drop k9) x8 = some r) (fun ⟨k9, i10, v7, x8⟩ => a.length - k9) ⟨0, 0, (.slice none 0 0), []⟩ ⟨rfl, rfl, trivial⟩ ?_ ?_
 exact ⟨h.cn _, rfl, hs⟩
 rintro ⟨k9, i10, v7, x8⟩ w dx ⟨h, hik, hs⟩
 refine nG ?_
 refine aa (dP rfl rfl) (nN ?_)
 refine aP (iE rfl (fun e14 => ?_) (fun e14 => ?_))
 refine aF (ak ?_)
 obtain ⟨eu, PM, PN⟩ := fV (hik ▸ e14)
 rw [PN, dI] at hs
 generalize IJ : each (l9 N) ma (a.drop (k9 + 1)) = nZ at hs
 have PO := gp ((h.gM 1 rfl)).bV hik e14
 refine aP (aO (nG ?_))
 obtain ⟨b17, o18, Yn, h, VQ, i16⟩ := h.zg 1 6 rfl iH rfl (iO hik) (gm hik PM)
 obtain ⟨u21, rfl, g22⟩ := sG VQ
 replace h := h.bX 7 g22.up
 refine aa (i16 _ _ _ _ _ _ _ _ _ rfl rfl) (aa (jH (k := 0) (vs := [(I6 eu.params), (I6 eu.locals), u21]) h 6 rfl lS rfl rfl rfl (bD rfl)) (bU h 8 lS fun w Dn h => dm (vs := [(I6 eu.params), (I6 eu.locals), u21]) h 8 [(I6 eu.params), (I6 eu.locals), u21] rfl lS rfl rfl rfl rfl rfl (ai rfl (ai rfl (ai (h.fo 7 rfl).one aR))) fun w h => nN (ky (L := (ob v7)) mixed h fun w h => bB 0 (aI.refl _ _) rfl aj (by kernel_rfl) (by kernel_rfl) (by kernel_rfl) (fun w hk => ag (v := v7) rfl) (bB 1 (aI.refl _ _) rfl aj (by kernel_rfl) (by kernel_rfl) (by kernel_rfl) (fun w hk => ah vN rfl) (bB 2 (aI.refl _ _) rfl aj (by kernel_rfl) (by kernel_rfl) (by kernel_rfl) (fun w hk => have h := h.rD 5 rfl hk; aB h 8 rfl aW rfl rfl) (bB 6 (aI.refl _ _) rfl aj (by kernel_rfl) (by kernel_rfl) (by kernel_rfl) (fun w hk => ah zn rfl) (bB 7 (aI.refl _ _) rfl aj (by kernel_rfl) (by kernel_rfl) (by kernel_rfl) (fun w hk => have h := h.rD 5 rfl hk; aB h 8 rfl aW rfl rfl) (bB 11 (aI.refl _ _) rfl aj (by kernel_rfl) (by kernel_rfl) (by kernel_rfl) (fun w hk => ah BK rfl) (bB 12 (aI.refl _ _) rfl aj (by kernel_rfl) (by kernel_rfl) (by kernel_rfl) (fun w hk => have h := h.rD 5 rfl hk; aB h 8 rfl pK rfl rfl) ?_)))))))))
 obtain ⟨VF, NI⟩ : ∃ x, x = w := ⟨_, rfl⟩
 have tu : aI (ob v7) VF w := NI ▸ aI.refl (ob v7) w
 refine qX NI.symm (bF 3 (by kernel_rfl) rfl aj ?_)
 obtain ⟨pg, VR, hs⟩ := aJ hs
 refine aS H5 rfl rfl (tY _ _ h.lt (hT.go h.keep) eu.params _ VR) ?_
 rintro _ w ⟨NQ, rfl⟩
 refine ⟨_, rfl, ?_⟩
 replace h := h.grow NQ
 replace tu := tu.grow NQ
 refine az (aQ tu ?_)
 obtain ⟨IG, hs⟩ := bg hs
 refine cO 4 tu rfl (by kernel_rfl) (fun w hk => lY rfl rfl IG) ?_
 obtain ⟨VS, hs⟩ := bg hs
 refine cO 5 tu rfl (by kernel_rfl) (fun w hk => lY rfl rfl VS) (bF 8 (by kernel_rfl) rfl aj ?_)
 obtain ⟨rG, VT, hs⟩ := aJ hs
 refine aS H5 rfl rfl (tY _ _ h.lt (hT.go h.keep) eu.locals _ VT) ?_
 rintro _ w ⟨NR, rfl⟩
 refine ⟨_, rfl, ?_⟩
 replace h := h.grow NR
 replace tu := tu.grow NR
 refine az (aQ tu ?_)
 obtain ⟨VU, hs⟩ := bg hs
 refine cO 9 tu rfl (by kernel_rfl) (fun w hk => lY rfl rfl VU) ?_
 obtain ⟨SQ, hs⟩ := bg hs
 refine cO 10 tu rfl (by kernel_rfl) (fun w hk => lY rfl rfl SQ) (bF 13 (by kernel_rfl) rfl aj ?_)
 obtain ⟨sK, SS, hs⟩ := aJ hs
 refine aS Ml rfl rfl (zC N _ _ h.lt (hT.go h.keep) u21 eu.body (h.mM 7 rfl) _ SS) ?_
 rintro _ w ⟨KS, rfl⟩
 refine ⟨_, rfl, ?_⟩
 replace h := h.grow KS
 replace tu := tu.grow KS
 refine az (aQ tu ?_)
 obtain ⟨SV, hs⟩ := bg hs
 refine cO 14 tu rfl (by kernel_rfl) (fun w hk => lY rfl rfl SV) (bF 15 (by kernel_rfl) rfl aj (Bg (R := nY) (vs := [(aV ((((([102, 117, 110, 32] ++ pg) ++ [32]) ++ rG) ++ [32]) ++ sK))]) (xs := [((((([102, 117, 110, 32] ++ pg) ++ [32]) ++ rG) ++ [32]) ++ sK)]) h 189 KQ rfl rfl rfl ⟨rfl, trivial⟩ rfl fun w SX h PQ PR => ?_))
 have uq27x15_1q : ∀ b, ob SX b → VF.heap.size ≤ b := fun b hb => Nat.le_trans tu.size (PR b hb)
 replace tu := tu.grow PQ
 refine az (aQ tu (bF 16 (by kernel_rfl) rfl aj ?_))
 obtain ⟨KT, hs⟩ := bg hs
 have uq27x16_2z := tu.size
 refine mU (R := nY) (m := [((((([102, 117, 110, 32] ++ pg) ++ [32]) ++ rG) ++ [32]) ++ sK)]) h 5 rfl (h.dV 189 rfl) KQ rfl rfl rfl KT.1 KT.2 fun w FE h PS PT => ?_
 have uq27x16_2q : ∀ b, ob FE b → b < VF.heap.size → ob v7 b := fun b hb hl => PT b hb (Nat.lt_of_lt_of_le hl (tu).size)
 replace tu := tu.same PS
 refine az (aQ tu (cO 17 tu rfl (by kernel_rfl) (fun w hk => ae (v := FE) rfl) (fB (by kernel_rfl) (ax (ak (aC (aa (dw rfl rfl PO) (aa (ag (v := (I6 ((i10 + 1)))) rfl) (az (au ?_))))))))))
 subst IJ
 exact jV ⟨k9 + 1, i10 + 1, FE, (x8 ++ [((((([102, 117, 110, 32] ++ pg) ++ [32]) ++ rG) ++ [32]) ++ sK)])⟩ ⟨h.cn _, by omega, hs⟩ (by have := rq e14; dsimp only; omega)
 rw [fZ (hik ▸ e14), gG] at hs
 refine nE (aa (ag (v := v7) rfl) ?_)
 obtain ⟨H8, e31, hs⟩ := aJ hs
 refine aS Yg rfl rfl (II _ _ h.lt v7 x8 (h.dV 5 rfl) [32] _ e31) ?_
 rintro _ w ⟨k32, rfl⟩
 refine ⟨_, rfl, ?_⟩
 replace h := h.grow k32
 refine aa (ae (v := (aV H8)) rfl) (nR (bQ (v := (aV H8)) Tryz.results113 rfl ?_))
 obtain rfl := fJ hs
 exact ⟨h.grown, rfl⟩
def stringslite_HasPrefix (a : Str) (b : Str) : Option Bool :=
  bif decide (((b.length : Int) : Int) ≤ (a.length : Int)) then (subs? a 0 (b.length : Int)).bind fun x2 => some (decide ((x2 : Str) = b)) else some false
theorem zD (w0 : World) (M : BS) (hM : ∀ b, M b → b < w0.heap.size) (a : Str) (b : Str) (r : Bool) (hs : stringslite_HasPrefix a b = some r) :
    Calls Tryz.prog 141 #[(aV a), (aV b)] w0 (fun e w' => Grow w0 w' ∧ e = .returned (.bool r)) := by
 refine aN (args := [(aV a), (aV b)]) Tryz.func141 rfl Tryz.ntmps141 (bD rfl) ?_
 have h := SH.init hM
 refine nG (aa (ae (v := (.bool (false))) rfl) (nJ (aa (ag (v := (aV a)) rfl) (aa (LP Tryz.underlying9 rfl) (aa (ag (v := (aV b)) rfl) (aa (LP Tryz.underlying9 rfl) (aa (pX rfl rfl) (aa (ag (v := (.bool (decide (((b.length : Int) : Int) ≤ (a.length : Int))))) rfl) (jf (b := decide (((b.length : Int) : Int) ≤ (a.length : Int))) hs (fun c1 hs => ?_) (fun c1 hs => ?_))))))))))
 refine dH rfl (cB c1) (aa (ag (v := (aV a)) rfl) (dH rfl (cB c1) (aa (ag (v := (aV b)) rfl) (dH rfl (cB c1) (aa (LP Tryz.underlying9 rfl) (dH rfl (cB c1) ?_))))))
 obtain ⟨x2, e3, hs⟩ := aJ hs
 obtain ⟨e4a, e4b, e4c, e4⟩ := Pt e3
 refine aa (Ps e4 Tryz.underlying9 rfl (.inl ⟨rfl, rfl⟩) (.inr (congrArg some rfl)) e4a e4b e4c) (dH rfl (cB c1) (aa (ag (v := (aV b)) rfl) (dH rfl (cB c1) (aa (Fu rfl rfl) (aa (dn (b := true) (v := (.bool (decide ((x2 : Str) = b)))) (cB c1) rfl) (aa (ae (v := (.bool (decide ((x2 : Str) = b)))) rfl) (nR (bQ (v := (.bool (decide ((x2 : Str) = b)))) Tryz.results141 rfl ?_))))))))
 obtain rfl := fJ hs
 exact ⟨h.grown, rfl⟩
 refine vB rfl (cB c1) rfl (vB rfl (cB c1) rfl (vB rfl (cB c1) rfl (vB rfl (cB c1) rfl (vB rfl (cB c1) rfl (vB rfl (cB c1) rfl (aa (dn (b := false) (v := (.bool (false))) (cB c1) rfl) (aa (ae (v := (.bool (false))) rfl) (nR (bQ (v := (.bool (false))) Tryz.results141 rfl ?_)))))))))
 obtain rfl := fJ hs
 exact ⟨h.grown, rfl⟩
def stringslite_TrimPrefix (a : Str) (b : Str) : Option Str :=
  (stringslite_HasPrefix a b).bind fun y1 => bif y1 then (subs? a (b.length : Int) (a.length : Int)).bind fun x5 => some x5 else some a
theorem yQ (w0 : World) (M : BS) (hM : ∀ b, M b → b < w0.heap.size) (a : Str) (b : Str) (r : Str) (hs : stringslite_TrimPrefix a b = some r) :
    Calls Tryz.prog 124 #[(aV a), (aV b)] w0 (fun e w' => Grow w0 w' ∧ e = .returned (aV r)) := by
 refine aN (args := [(aV a), (aV b)]) Tryz.func124 rfl Tryz.ntmps124 (bD rfl) ?_
 have h := SH.init hM
 refine nG (aa (ae (v := (aV [])) rfl) (nK (aa (ag (v := (aV a)) rfl) (aa (ag (v := (aV b)) rfl) ?_))))
 obtain ⟨y1, e2, hs⟩ := aJ hs
 refine aS Yh rfl rfl (zD _ _ h.lt a b _ e2) ?_
 rintro _ w ⟨k3, rfl⟩
 refine ⟨_, rfl, ?_⟩
 replace h := h.grow k3
 refine nN (aG hs rfl (fun c4 hs => ?_) (fun c4 hs => ?_))
 refine nG (aa (ag (v := (aV a)) rfl) (aa (ag (v := (aV b)) rfl) (aa (LP Tryz.underlying9 rfl) ?_)))
 obtain ⟨x5, e6, hs⟩ := aJ hs
 obtain ⟨e7a, e7b, e7c, e7⟩ := Pt e6
 refine aa (Ps e7 Tryz.underlying9 rfl (.inr (congrArg some rfl)) (.inl ⟨rfl, rfl⟩) e7a e7b e7c) (aa (ae (v := (aV x5)) rfl) (nR (ay (bQ (v := (aV x5)) Tryz.results124 rfl ?_))))
 obtain rfl := fJ hs
 exact ⟨h.grown, rfl⟩
 refine nS (aa (ag (v := (aV a)) rfl) (aa (ae (v := (aV a)) rfl) (nR (bQ (v := (aV a)) Tryz.results124 rfl ?_))))
 obtain rfl := fJ hs
 exact ⟨h.grown, rfl⟩
def strings_TrimPrefix (a : Str) (b : Str) : Option Str :=
  (stringslite_TrimPrefix a b).bind fun y1 => some y1
theorem BM (w0 : World) (M : BS) (hM : ∀ b, M b → b < w0.heap.size) (a : Str) (b : Str) (r : Str) (hs : strings_TrimPrefix a b = some r) :
    Calls Tryz.prog 105 #[(aV a), (aV b)] w0 (fun e w' => Grow w0 w' ∧ e = .returned (aV r)) := by
 refine aN (args := [(aV a), (aV b)]) Tryz.func105 rfl Tryz.ntmps105 (bD rfl) ?_
 have h := SH.init hM
 refine nG (aa (ae (v := (aV [])) rfl) (nJ (aa (ag (v := (aV a)) rfl) (aa (ag (v := (aV b)) rfl) ?_))))
 obtain ⟨y1, e2, hs⟩ := aJ hs
 refine aS Yf rfl rfl (yQ _ _ h.lt a b _ e2) ?_
 rintro _ w ⟨k3, rfl⟩
 refine ⟨_, rfl, ?_⟩
 replace h := h.grow k3
 refine aa (ae (v := (aV y1)) rfl) (nR (bQ (v := (aV y1)) Tryz.results105 rfl ?_))
 obtain rfl := fJ hs
 exact ⟨h.grown, rfl⟩
def oD (a : List Str) (b : Str) (i2 : Int) (s : Unit) (Kc : Unit → Option Int) : Option Int :=
  (idx a i2).bind fun x8 => bif decide ((b : Str) = x8) then some i2 else Kc ()
def oF (s : Unit) : Option Int :=
  some (-1)
def slices_Index_string (a : List Str) (b : Str) : Option Int :=
  upto (oD a b) oF 0 ((a.length : Int)).toNat ()
theorem Bn (w0 : World) (M : BS) (hM : ∀ b, M b → b < w0.heap.size) (va : Value) (a : List Str) (ha : gB nY w0 BE M va a) (b : Str) (r : Int) (hs : slices_Index_string a b = some r) :
    Calls Tryz.prog 110 #[va, (aV b)] w0 (fun e w' => Grow w0 w' ∧ e = .returned (.int .i64 r)) := by
 refine aN (args := [va, (aV b)]) Tryz.func110 rfl Tryz.ntmps110 (bD rfl) ?_
 have h := SH.init hM
 replace h := h.fw 1 ha bC
 have vR := ha.bV
 refine nG (aa (ae (v := (I6 0)) rfl) (nK (aa (ag (v := va) rfl) (aa (bS eF rfl (h.gM 1 rfl)) (aa (ag (v := (I6 0)) rfl) (nN (aO ?_)))))))
 have hli2 := (h.gM 1 rfl).bV
 refine gF (σ := Nat × Int) (inl ([4, 5] ++ rg 8 11)) (fun ⟨k1, i2⟩ => [(8, (I6 i2))]) (fun ⟨k1, i2⟩ w => SH w0 M BE w (hset [(1, .sr nY va a)]) ∧ i2 = (k1 : Int) ∧ upto (oD a b) oF i2 (((a.length : Int)).toNat - k1) () = some r) (fun ⟨k1, i2⟩ => ((a.length : Int)).toNat - k1) ⟨0, 0⟩ ⟨rfl, trivial⟩ ?_ ?_
 exact ⟨h.cn _, rfl, hs⟩
 rintro ⟨k1, i2⟩ w dx ⟨h, hik, hs⟩
 refine nG ?_
 refine aa (dP rfl rfl) (nN ?_)
 refine aP (iE rfl (fun e6 => ?_) (fun e6 => ?_))
 refine aF (ak ?_)
 rw [vw (by have := rq e6; omega)] at hs
 generalize hnx5 : upto (oD a b) oF (i2 + 1) (((a.length : Int)).toNat - (k1 + 1)) = Kc at hs
 have e7r : jN (i2 + 1) := (by have := rq e6; have := hli2; exact jN.mk (by omega) (by omega))
 refine aP (aO (nG (aa (ag (v := (I6 i2)) rfl) (aa (ae (v := (I6 i2)) rfl) (nJ (aa (ag (v := (aV b)) rfl) (aa (ag (v := va) rfl) (aa (ag (v := (I6 i2)) rfl) ?_))))))))
 obtain ⟨x8, e9, hs⟩ := aJ hs
 obtain ⟨b11, o12, cs13, h, r14, i10⟩ := h.zg 1 2 rfl eF rfl (aH e9).1 (aH e9).2
 obtain rfl := r14
 refine aa (i10 _ _ _ _ _ _ _ _ _ rfl rfl) (aa (dZ (k := 0) h 2 rfl zw rfl rfl) (aa (Fu rfl rfl) (nN (aG hs rfl (fun c15 hs => ?_) (fun c15 hs => ?_)))))
 refine nG (aa (ag (v := (I6 i2)) rfl) (aa (ae (v := (I6 i2)) rfl) (nR (aD (ay (ay (aD (ay (bQ (v := (I6 i2)) Tryz.results110 rfl ?_)))))))))
 obtain rfl := fJ hs
 exact ⟨h.grown, rfl⟩
 refine aF (ax (ak (aC (aa (dw rfl rfl e7r) (aa (ag (v := (I6 ((i2 + 1)))) rfl) (az (au ?_)))))))
 subst hnx5
 exact jV ⟨k1 + 1, i2 + 1⟩ ⟨h.cn _, by omega, hs⟩ (by have := rq e6; dsimp only; omega)
 rw [vz (by have := of_decide_eq_false e6; omega)] at hs
 refine nE (aa (ae (v := (I6 (-1))) rfl) (nR (bQ (v := (I6 (-1))) Tryz.results110 rfl ?_)))
 obtain rfl := fJ hs
 exact ⟨h.grown, rfl⟩
def AL (DD : Int) (Mt : (Int × Int × Int) → Option (List Tok × dM)) (CL : Int) (ym : Int) : Option (List Tok × dM) :=
  gL (jN (DD + 1)) (Mt ((DD + 1), CL, ym))
def AO (x29 : Str) (Ag : List Tok) (F : List eU) (y31 : Int) (Ah : Int) (zA : (List Tok × Int × Bool × Int) → Option (List Tok × dM)) (H8 : Bool) (s : Int × Int × Int) (Mt : Int × Int × Int → Option (List Tok × dM)) : Option (List Tok × dM) :=
  match s with | (DD, H9, uM) => bif decide ((DD : Int) ≤ 5) then (jD (⟨3, DD⟩ : Tok)).bind fun Ia => bif decide ((Ia : Str) = x29) then AL DD Mt 3 DD else AL DD Mt H9 uM else gL (Room 16 Ag [(⟨H9, uM⟩ : Tok)]) (bif (decide (((ek (⟨H9, uM⟩ : Tok) F 6) : Int) ≠ 0) || decide ((24 : Int) < ((Ag ++ [(⟨H9, uM⟩ : Tok)]).length : Int))) then some ((Ag ++ [(⟨H9, uM⟩ : Tok)]), (⟨y31, false⟩ : dM)) else (qK (⟨H9, uM⟩ : Tok) F).bind fun Zk => gL (jN (Ah + Zk)) (gL (jN ((Ah + Zk) - 1)) (zA ((Ag ++ [(⟨H9, uM⟩ : Tok)]), ((Ah + Zk) - 1), H8, y31))))
def uh (wL : (Int × Str)) (EA : Int × Bool) (Pk : Int) (xK : Int) (x94 : Bool) : Option (Int × Int) :=
  bif x94 then some (wL.1, EA.1) else some (Pk, xK)
def oG (x29 : Str) (wL : (Int × Str)) (s : Int × Int) : Option (Int × Int) :=
  match s with | (Pk, xK) => (strings_TrimPrefix x29 wL.2).bind fun Mv => (BG Mv).bind fun EA => bif (!EA.2) then (jD (⟨wL.1, EA.1⟩ : Tok)).bind fun rC => uh wL EA Pk xK (decide ((rC : Str) = x29)) else uh wL EA Pk xK false
def EB (N : Nat) (x29 : Str) (Ag : List Tok) (F : List eU) (y31 : Int) (Ah : Int) (zA : (List Tok × Int × Bool × Int) → Option (List Tok × dM)) (H8 : Bool) (s : Int × Int) : Option (List Tok × dM) :=
  match s with | (Pk, xK) => again (AO x29 Ag F y31 Ah zA H8) N (1, Pk, xK)
def ui (N : Nat) (Ag : List Tok) (F : List eU) (Ah : Int) (zA : (List Tok × Int × Bool × Int) → Option (List Tok × dM)) (x29 : Str) (H8 : Bool) (y31 : Int) : Option (List Tok × dM) :=
  (yB (oG x29) ([(2, [118]), (4, [46]), (5, [110, 101, 119]), (6, [102]), (1, [])] : List (Int × Str)) (0, 0)).bind fun NS => (EB N x29 Ag F y31 Ah zA H8) NS
def uj (N : Nat) (W : List Str) (F : List eU) (s : List Tok × Int × Bool × Int) (zA : List Tok × Int × Bool × Int → Option (List Tok × dM)) : Option (List Tok × dM) :=
  match s with | (Ag, Ah, PU, y20) => bif (decide ((0 : Int) < Ah) && PU) then bif decide (((W.length : Int) : Int) ≤ y20) then ui N Ag F Ah zA [] false y20 else gL (jN (y20 + 1)) (gL (jN ((y20 + 1) - 1)) ((idx W ((y20 + 1) - 1)).bind fun x103 => ui N Ag F Ah zA x103 PU (y20 + 1))) else some (Ag, (⟨y20, PU⟩ : dM))
def EC (N : Nat) (sx : dM) (W : List Str) (F : List eU) : Option (List Tok × dM) :=
  again (uj N W F) N ([], 1, sx.ok, sx.at_)
theorem KU (N : Nat) (w0 : World) (M : BS) (hM : ∀ b, M b → b < w0.heap.size) (hT : vK Tryz.prog 4 w0) (ba bo bw bwd bf : Nat) (sx : dM) (hC : Chunk.holds w0 M (Chunk.own' (.two (.blk ba [(I6 sx.at_)]) (.blk bo [(.bool (sx.ok))]) : Chunk)) (.two (.blk ba [(I6 sx.at_)]) (.blk bo [(.bool (sx.ok))]) : Chunk)) (hap : ∀ b, Chunk.own' (.two (.blk ba [(I6 sx.at_)]) (.blk bo [(.bool (sx.ok))]) : Chunk) b → ¬ M b) (vW : Value) (W : List Str) (hvW : fu nY w0 (fun b => M b ∨ Chunk.own' (.two (.blk ba [(I6 sx.at_)]) (.blk bo [(.bool (sx.ok))]) : Chunk) b) vW W) (vF : Value) (F : List eU) (hvF : gB iU w0 (Chunk.own' (.two (.blk ba [(I6 sx.at_)]) (.blk bo [(.bool (sx.ok))]) : Chunk)) (fun b => M b ∨ Chunk.own' (.two (.blk ba [(I6 sx.at_)]) (.blk bo [(.bool (sx.ok))]) : Chunk) b) vF F) (hbw : ∃ E, w0.heap[bw]? = some (.cells #[vW] E (0, 0))) (VV : ¬ Chunk.own' (.two (.blk ba [(I6 sx.at_)]) (.blk bo [(.bool (sx.ok))]) : Chunk) bw) (Mw : ∃ E, w0.heap[bwd]? = some (.cells #[(.func (.func 103) #[] #[(.pointer (some ⟨ba, 0, none⟩)), (.pointer (some ⟨bw, 0, none⟩)), (.pointer (some ⟨bo, 0, none⟩))])] E (0, 0))) (IK : ¬ Chunk.own' (.two (.blk ba [(I6 sx.at_)]) (.blk bo [(.bool (sx.ok))]) : Chunk) bwd) (hbf : ∃ E, w0.heap[bf]? = some (.cells #[vF] E (0, 0))) (VW : ¬ Chunk.own' (.two (.blk ba [(I6 sx.at_)]) (.blk bo [(.bool (sx.ok))]) : Chunk) bf) (hG : ∀ b, Chunk.own' (.two (.blk ba [(I6 sx.at_)]) (.blk bo [(.bool (sx.ok))]) : Chunk) b → Tryz.prog.globals.size ≤ b) (r : List Tok × dM) (hs : EC N sx W F = some r) :
    Calls Tryz.prog 104 #[(.pointer (some ⟨bo, 0, none⟩)), (.pointer (some ⟨bwd, 0, none⟩)), (.pointer (some ⟨bf, 0, none⟩))] w0 (fun e w' => aI (Chunk.own' (.two (.blk ba [(I6 sx.at_)]) (.blk bo [(.bool (sx.ok))]) : Chunk)) w0 w' ∧ ∃ u0, e = .returned (u0) ∧ Chunk.holds w' M (Chunk.own' (.two (.blk ba [.int .i64 r.2.at_]) (.blk bo [.bool r.2.ok]) : Chunk)) (.two (.blk ba [.int .i64 r.2.at_]) (.blk bo [.bool r.2.ok]) : Chunk) ∧ (∀ b, Chunk.own' (.two (.blk ba [.int .i64 r.2.at_]) (.blk bo [.bool r.2.ok]) : Chunk) b → b < w0.heap.size → Chunk.own' (.two (.blk ba [(I6 sx.at_)]) (.blk bo [(.bool (sx.ok))]) : Chunk) b) ∧ fu kD w' (fun b => M b ∨ Chunk.own' (.two (.blk ba [.int .i64 r.2.at_]) (.blk bo [.bool r.2.ok]) : Chunk) b) u0 r.1) := by
 refine aN (args := [(.pointer (some ⟨bo, 0, none⟩)), (.pointer (some ⟨bwd, 0, none⟩)), (.pointer (some ⟨bf, 0, none⟩))]) Tryz.func104 rfl Tryz.ntmps104 (bD rfl) ?_
 have h := SH.GA hM hC hap
 replace h := h.Du 3 hvW Bl
 replace h := h.U7 4 hvF (tO Bl)
 replace h := h.Au 5 (cs := [vW]) hbw VV (yC (tO Bl))
 replace h := h.Au 6 (cs := [(.func (.func 103) #[] #[(.pointer (some ⟨ba, 0, none⟩)), (.pointer (some ⟨bw, 0, none⟩)), (.pointer (some ⟨bo, 0, none⟩))])]) Mw IK (qI (yC (tO Bl)))
 replace h := h.Au 7 (cs := [vF]) hbf VW (qI (qI (yC (tO Bl))))
 have PV := VV
 have IL := IK
 have PW := VW
 generalize Bo : (.two (.blk ba [(I6 sx.at_)]) (.blk bo [(.bool (sx.ok))]) : Chunk).own' = K0 at h PV IL PW hG
 replace h := h.bG 1 2 (by decide) rfl rfl
 refine nG (aa (ae (v := (.slice none 0 0)) rfl) (nJ (aa (ae (v := (.slice none 0 0)) rfl) (nK (aa (ae (v := (I6 1)) rfl) (nN (aO ?_)))))))
 replace h := h.xC (R := kD) (E := 160) 11
 refine gF (σ := Nat × Value × List Tok × Int × Bool × Int) (inl (rg 4 76)) (fun ⟨m24, v16, Ag, Ah, PU, y20⟩ => [(4, v16), (5, (I6 Ah))]) (fun ⟨m24, v16, Ag, Ah, PU, y20⟩ w => SH w0 M K0 w (hset [(1, .blk ba [(I6 y20)]), (2, .blk bo [(.bool (PU))]), (3, .rd nY vW W), (4, .sr iU vF F), (5, .pt bw 0 [vW]), (6, .pt bwd 0 [(.func (.func 103) #[] #[(.pointer (some ⟨ba, 0, none⟩)), (.pointer (some ⟨bw, 0, none⟩)), (.pointer (some ⟨bo, 0, none⟩))])]), (7, .pt bf 0 [vF]), (11, .own kD 160 v16 Ag)]) ∧ again (uj N W F) m24 (Ag, Ah, PU, y20) = some r) (fun ⟨m24, v16, Ag, Ah, PU, y20⟩ => m24) ⟨N, (.slice none 0 0), [], 1, sx.ok, sx.at_⟩ ⟨rfl, rfl, trivial⟩ ?_ ?_
 exact ⟨h.cn _, hs⟩
 rintro ⟨m24, v16, Ag, Ah, PU, y20⟩ w dx ⟨h, hs⟩
 obtain ⟨m241, m24e, m24h⟩ := pG hs
 subst m24e
 replace hs := m24h
 generalize VA : again (uj N W F) m241 = zA at hs
 refine aP (nG (aa (ag (v := (I6 Ah)) rfl) (aa (jT rfl rfl) (aa (ag (v := (.bool (decide ((0 : Int) < Ah)))) rfl) (aA rfl rfl (fun q => aB h 2 rfl yn rfl rfl) (aa (fD rfl rfl lX) (nN (aG hs rfl (fun c28 hs => ?_) (fun c28 hs => ?_)))))))))
 refine aF (ak (aP (aO (bW (σ := Str × Bool × Int) (inl [6, 20, 21]) (fun ⟨x29, H8, y31⟩ => [(6, (aV x29))]) (fun ⟨x29, H8, y31⟩ w => SH w0 M K0 w (hset [(1, .blk ba [(I6 y31)]), (2, .blk bo [(.bool (H8))]), (3, .rd nY vW W), (4, .sr iU vF F), (5, .pt bw 0 [vW]), (6, .pt bwd 0 [(.func (.func 103) #[] #[(.pointer (some ⟨ba, 0, none⟩)), (.pointer (some ⟨bw, 0, none⟩)), (.pointer (some ⟨bo, 0, none⟩))])]), (7, .pt bf 0 [vF]), (11, .own kD 160 v16 Ag)]) ∧ ui N Ag F Ah zA x29 H8 y31 = some r) ?_ ?_))))
 rintro ⟨x29, H8, y31⟩ w dx ⟨h, hs⟩
 refine nG (aa (dQ (pv := []) (out := [(I6 0), (I6 0)]) zx rfl rfl) (bU h 12 j5 fun w b32 h => dm (vs := [(I6 0), (I6 0)]) h 12 [(I6 0), (I6 0)] rfl j5 rfl rfl rfl rfl rfl (ai rfl (ai rfl aR)) fun w h => nK (Cx h 13 fun w b33 h => nk (p8 := [(2, (aV [118]))]) h 13 rfl kN rfl rfl rfl rfl fun w h => nk (p8 := [(2, (aV [118])), (4, (aV [46]))]) h 13 rfl kN rfl rfl rfl rfl fun w h => nk (p8 := [(2, (aV [118])), (4, (aV [46])), (5, (aV [110, 101, 119]))]) h 13 rfl kN rfl rfl rfl rfl fun w h => nk (p8 := [(2, (aV [118])), (4, (aV [46])), (5, (aV [110, 101, 119])), (6, (aV [102]))]) h 13 rfl kN rfl rfl rfl rfl fun w h => nk (p8 := [(2, (aV [118])), (4, (aV [46])), (5, (aV [110, 101, 119])), (6, (aV [102])), (1, (aV []))]) h 13 rfl kN rfl rfl rfl rfl fun w h => aa (ag (v := (.map (some b33))) rfl) (XX (f := aV) ([(2, [118]), (4, [46]), (5, [110, 101, 119]), (6, [102]), (1, [])] : List (Int × Str)) h 13 rfl kN rfl rfl fun w b34 h => nN (aO ?_)))))
 obtain ⟨NS, PX, hs⟩ := aJ hs
 replace PX := aac PX
 refine gF (σ := List (Int × Str) × Int × Int) (inl ([8, 9, 10, 11] ++ rg 26 25)) (fun ⟨lf43, Pk, xK⟩ => []) (fun ⟨lf43, Pk, xK⟩ w => SH w0 M K0 w (hset [(1, .blk ba [(I6 y31)]), (2, .blk bo [(.bool (H8))]), (3, .rd nY vW W), (4, .sr iU vF F), (5, .pt bw 0 [vW]), (6, .pt bwd 0 [(.func (.func 103) #[] #[(.pointer (some ⟨ba, 0, none⟩)), (.pointer (some ⟨bw, 0, none⟩)), (.pointer (some ⟨bo, 0, none⟩))])]), (7, .pt bf 0 [vF]), (11, .own kD 160 v16 Ag), (12, .blk b32 [(I6 Pk), (I6 xK)]), (13, .gZ (Kb aV b33 b34 none lf43))]) ∧ rR (oG x29) lf43 (Pk, xK) NS) (fun ⟨lf43, Pk, xK⟩ => lf43.length) ⟨([(2, [118]), (4, [46]), (5, [110, 101, 119]), (6, [102]), (1, [])] : List (Int × Str)), 0, 0⟩ trivial ?_ ?_
 exact ⟨h.cn _, PX⟩
 rintro ⟨lf43, Pk, xK⟩ w dx ⟨h, hf⟩
 refine nG ?_
 refine aab h 13 rfl rfl (fun e48 => ?_) (fun wL lr46 w e48 h => ?_)
 obtain rfl := rR.nil (e48 ▸ hf)
 refine aa (aU rfl rfl) (nN ?_)
 refine aP (ZO rfl (gV (bA (bA (dE (ak (aP (nG (aa (ae (v := (I6 1)) rfl) (nN (aO (gF (σ := Nat × Int × Int × Int) (inl ([12] ++ rg 51 11)) (fun ⟨m64, DD, H9, uM⟩ => [(12, (I6 DD))]) (fun ⟨m64, DD, H9, uM⟩ w => SH w0 M K0 w (hset [(1, .blk ba [(I6 y31)]), (2, .blk bo [(.bool (H8))]), (3, .rd nY vW W), (4, .sr iU vF F), (5, .pt bw 0 [vW]), (6, .pt bwd 0 [(.func (.func 103) #[] #[(.pointer (some ⟨ba, 0, none⟩)), (.pointer (some ⟨bw, 0, none⟩)), (.pointer (some ⟨bo, 0, none⟩))])]), (7, .pt bf 0 [vF]), (11, .own kD 160 v16 Ag), (12, .blk b32 [(I6 H9), (I6 uM)])]) ∧ again (AO x29 Ag F y31 Ah zA H8) m64 (DD, H9, uM) = some r) (fun ⟨m64, DD, H9, uM⟩ => m64) ⟨N, 1, Pk, xK⟩ ⟨rfl, trivial⟩ ?_ ?_))))))))))))
 exact ⟨h.cn _, hs⟩
 rintro ⟨m64, DD, H9, uM⟩ w dx ⟨h, hs⟩
 obtain ⟨m641, m64e, m64h⟩ := pG hs
 subst m64e
 replace hs := m64h
 generalize VX : again (AO x29 Ag F y31 Ah zA H8) m641 = Mt at hs
 refine aP (nG (aa (ag (v := (I6 DD)) rfl) (aa (Eh rfl rfl) (nN (aG hs rfl (fun c68 hs => ?_) (fun c68 hs => ?_))))))
 refine aF (ak (bW (σ := Int × Int) (inl (rg 55 7)) (fun ⟨CL, ym⟩ => []) (fun ⟨CL, ym⟩ w => SH w0 M K0 w (hset [(1, .blk ba [(I6 y31)]), (2, .blk bo [(.bool (H8))]), (3, .rd nY vW W), (4, .sr iU vF F), (5, .pt bw 0 [vW]), (6, .pt bwd 0 [(.func (.func 103) #[] #[(.pointer (some ⟨ba, 0, none⟩)), (.pointer (some ⟨bw, 0, none⟩)), (.pointer (some ⟨bo, 0, none⟩))])]), (7, .pt bf 0 [vF]), (11, .own kD 160 v16 Ag), (12, .blk b32 [(I6 CL), (I6 ym)])]) ∧ AL DD Mt CL ym = some r) ?_ ?_))
 rintro ⟨CL, ym⟩ w dx ⟨h, hs⟩
 refine aC (aa (ag (v := (I6 DD)) rfl) ?_)
 obtain ⟨a71, hs⟩ := bg hs
 refine aa (dw rfl rfl a71) (aa (ae (v := (I6 ((DD + 1)))) rfl) (az (au ?_)))
 subst VX
 exact jV ⟨m641, (DD + 1), CL, ym⟩ ⟨h.cn _, hs⟩
 refine aO (nG (aa (ag (v := (I6 DD)) rfl) (aa (dQ (pv := [(0, (I6 3)), (1, (I6 DD))]) (out := [(I6 3), (I6 DD)]) zx rfl ⟨0, 1, [(I6 3)], rfl, rfl, rfl, bD rfl, ⟨1, 1, [(I6 DD)], rfl, rfl, rfl, bD rfl, rfl⟩⟩) ?_)))
 obtain ⟨Ia, e73, hs⟩ := aJ hs
 refine aS Mh rfl rfl (pO _ _ h.lt (hT.UY h.keep hG) (⟨3, DD⟩ : Tok) _ e73) ?_
 rintro _ w ⟨k74, rfl⟩
 refine ⟨_, rfl, ?_⟩
 replace h := h.grow k74
 refine aa (ag (v := (aV x29)) rfl) (aa (Fu rfl rfl) (nN (aG hs rfl (fun c75 hs => ?_) (fun c75 hs => ?_))))
 refine aC (aa (ag (v := (I6 DD)) rfl) (aa (dQ (pv := [(0, (I6 3)), (1, (I6 DD))]) (out := [(I6 3), (I6 DD)]) zx rfl ⟨0, 1, [(I6 3)], rfl, rfl, rfl, bD rfl, ⟨1, 1, [(I6 DD)], rfl, rfl, rfl, bD rfl, rfl⟩⟩) (dm (vs := [(I6 3), (I6 DD)]) h 12 [(I6 3), (I6 DD)] rfl j5 rfl rfl rfl rfl rfl (ai rfl (ai rfl aR)) fun w h => az (ax (au ?_)))))
 exact bP (3, DD) ⟨h.cn _, hs⟩
 refine aF (ax (au ?_))
 exact bP (H9, uM) ⟨h.cn _, hs⟩
 refine gV (bA (bA (dE (ak (aP (nG (aa (ag (v := v16) rfl) (aa (cK (vs := [(I6 H9), (I6 uM)]) h 12 rfl j5 rfl rfl rfl) (uQ (R := kD) (vs := [(.agg #[(I6 H9), (I6 uM)])]) (xs := [(⟨H9, uM⟩ : Tok)]) h 14 KP rfl rfl rfl ⟨rfl, trivial⟩ rfl fun w u76 h => ?_)))))))))
 obtain ⟨a77, hs⟩ := bg hs
 refine mo (R := kD) (m := [(⟨H9, uM⟩ : Tok)]) h 11 rfl (h.dV 14 rfl) KP rfl rfl rfl a77.1 a77.2 fun w M9 h => aa (ae (v := M9) rfl) (nJ (aa (cK (vs := [(I6 H9), (I6 uM)]) h 12 rfl j5 rfl rfl rfl) (aa (dZ (k := 0) h 7 rfl zu rfl rfl) (aS Rv rfl rfl (tT _ _ h.lt (⟨H9, uM⟩ : Tok) vF F (h.gM 4 rfl) 6 _ rfl) ?_))))
 rintro _ w ⟨k79, rfl⟩
 refine ⟨_, rfl, ?_⟩
 replace h := h.grow k79
 refine aa (gN rfl rfl) (aa (ag (v := (.bool (decide (((ek (⟨H9, uM⟩ : Tok) F 6) : Int) ≠ 0)))) rfl) (aA rfl rfl (fun q => ag (v := M9) rfl) (aA rfl rfl (fun q => bS ku (dz q) (h.dV 11 rfl)) (aA rfl rfl (fun q => jT (dz q) rfl) (aa (gW rfl rfl lX) (nN (aG hs rfl (fun c80 hs => ?_) (fun c80 hs => ?_))))))))
 refine nG (fA h 2 [(.bool (false))] rfl yn rfl rfl rfl rfl rfl fun w h => nN (gV (bA (rW (by decide) (bA (bA (dE (ak (nG (aa (ag (v := M9) rfl) (aa (ae (v := M9) rfl) (nR (bQ (v := M9) Tryz.results104 rfl ?_)))))))))))))
 replace h := h.freeze 11 rfl
 replace h := h.pair 1 2 (by decide)
 obtain rfl := fJ hs
 subst Bo
 obtain ⟨o1, o2, o3⟩ := h.q8 1 (C := (.two (.blk ba [(I6 y31)]) (.blk bo [(.bool (false))]) : Chunk)) rfl ⟨trivial, trivial⟩
 exact ⟨o2, M9, rfl, o1, o3, h.Pw 1 11 rfl rfl⟩
 refine aF (ak (aC (aa (ag (v := (I6 Ah)) rfl) (aa (cK (vs := [(I6 H9), (I6 uM)]) h 12 rfl j5 rfl rfl rfl) (aa (dZ (k := 0) h 7 rfl zu rfl rfl) ?_)))))
 obtain ⟨Zk, e82, hs⟩ := aJ hs
 refine aS Mi rfl rfl (rY _ _ h.lt (⟨H9, uM⟩ : Tok) vF F (h.gM 4 rfl) _ e82) ?_
 rintro _ w ⟨k83, rfl⟩
 refine ⟨_, rfl, ?_⟩
 replace h := h.grow k83
 obtain ⟨a84, hs⟩ := bg hs
 refine aa (dw rfl rfl a84) (aa (ae (v := (I6 ((Ah + Zk)))) rfl) (az (ax (ak (aC (aa (ag (v := (I6 ((Ah + Zk)))) rfl) ?_))))))
 obtain ⟨a85, hs⟩ := bg hs
 refine aa (mZ rfl rfl a85) (aa (ae (v := (I6 (((Ah + Zk) - 1)))) rfl) (az (au ?_)))
 subst VA
 exact jV ⟨m241, M9, (Ag ++ [(⟨H9, uM⟩ : Tok)]), ((Ah + Zk) - 1), H8, y31⟩ ⟨h.cn _, hs⟩
 obtain ⟨sr47, hs1, hf1⟩ := hf.cons e48
 replace hs := hs1
 refine aa (aU rfl rfl) (nN ?_)
 refine aP (ZN rfl (aF (ak ?_)))
 refine aO (nG (aa (XY (f := aV) h 13 rfl rfl) (aa (aU rfl rfl) (aa (aU rfl rfl) (aa (ae (v := (I6 wL.1)) rfl) (aa (ae (v := (aV wL.2)) rfl) (nJ (aa (ag (v := (aV x29)) rfl) (aa (ag (v := (aV wL.2)) rfl) ?_)))))))))
 obtain ⟨Mv, e87, hs⟩ := aJ hs
 refine aS X9 rfl rfl (BM _ _ h.lt x29 wL.2 _ e87) ?_
 rintro _ w ⟨k88, rfl⟩
 refine ⟨_, rfl, ?_⟩
 replace h := h.grow k88
 obtain ⟨EA, e90, hs⟩ := aJ hs
 refine aS Ex rfl rfl (qi _ _ h.lt (hT.UY h.keep hG) Mv _ e90) ?_
 rintro _ w ⟨k93, u91, rfl, g92⟩
 refine ⟨_, rfl, ?_⟩
 replace h := h.grow k93
 refine aa (ag (v := (.tuple #[(I6 EA.1), u91])) rfl) (aa (aU rfl rfl) (aa (aU rfl rfl) (aa (ae (v := (I6 EA.1)) rfl) (aa (ae (v := u91) rfl) (nN (bW (σ := Bool) (inl (rg 38 10)) (fun x94 => [(47, (.bool (x94)))]) (fun x94 w => SH w0 M K0 w (hset [(1, .blk ba [(I6 y31)]), (2, .blk bo [(.bool (H8))]), (3, .rd nY vW W), (4, .sr iU vF F), (5, .pt bw 0 [vW]), (6, .pt bwd 0 [(.func (.func 103) #[] #[(.pointer (some ⟨ba, 0, none⟩)), (.pointer (some ⟨bw, 0, none⟩)), (.pointer (some ⟨bo, 0, none⟩))])]), (7, .pt bf 0 [vF]), (11, .own kD 160 v16 Ag), (12, .blk b32 [(I6 Pk), (I6 xK)]), (13, .gZ (Kb aV b33 b34 (some wL) lr46))]) ∧ uh wL EA Pk xK x94 = some sr47) ?_ ?_))))))
 rintro x94 w dx ⟨h, hs⟩
 refine aG hs rfl (fun c95 hs => ?_) (fun c95 hs => ?_)
 refine aC (aa (ag (v := (I6 wL.1)) rfl) (aa (ag (v := (I6 EA.1)) rfl) (aa (dQ (pv := [(0, (I6 wL.1)), (1, (I6 EA.1))]) (out := [(I6 wL.1), (I6 EA.1)]) zx rfl ⟨0, 1, [(I6 wL.1)], rfl, rfl, rfl, bD rfl, ⟨1, 1, [(I6 EA.1)], rfl, rfl, rfl, bD rfl, rfl⟩⟩) (dm (vs := [(I6 wL.1), (I6 EA.1)]) h 12 [(I6 wL.1), (I6 EA.1)] rfl j5 rfl rfl rfl rfl rfl (ai rfl (ai rfl aR)) fun w h => az (ax (au ?_))))))
 replace h := h.KM 13 rfl
 obtain rfl := fJ hs
 exact jV ⟨lr46, wL.1, EA.1⟩ ⟨h.cn _, hf1⟩ (by have := e48.length_eq; simp only [List.length_cons] at this; dsimp only; omega)
 refine aF (ax (au ?_))
 replace h := h.KM 13 rfl
 obtain rfl := fJ hs
 exact jV ⟨lr46, Pk, xK⟩ ⟨h.cn _, hf1⟩ (by have := e48.length_eq; simp only [List.length_cons] at this; dsimp only; omega)
 refine aC (aa (ag (v := u91) rfl) (aa (Sq SA rfl g92 rfl) (aa (ag (v := (.bool ((!EA.2)))) rfl) (jf (b := (!EA.2)) hs (fun PY hs => ?_) (fun PY hs => ?_)))))
 refine dH rfl (cB PY) (aa (ag (v := (I6 wL.1)) rfl) (dH rfl (cB PY) (aa (ag (v := (I6 EA.1)) rfl) (dH rfl (cB PY) (aa (dQ (pv := [(0, (I6 wL.1)), (1, (I6 EA.1))]) (out := [(I6 wL.1), (I6 EA.1)]) zx rfl ⟨0, 1, [(I6 wL.1)], rfl, rfl, rfl, bD rfl, ⟨1, 1, [(I6 EA.1)], rfl, rfl, rfl, bD rfl, rfl⟩⟩) (dH rfl (cB PY) ?_))))))
 obtain ⟨rC, e98, hs⟩ := aJ hs
 refine aS Mh rfl rfl (pO _ _ h.lt (hT.UY h.keep hG) (⟨wL.1, EA.1⟩ : Tok) _ e98) ?_
 rintro _ w ⟨k99, rfl⟩
 refine ⟨_, rfl, ?_⟩
 replace h := h.grow k99
 refine dH rfl (cB PY) (aa (ag (v := (aV x29)) rfl) (dH rfl (cB PY) (aa (Fu rfl rfl) (aa (dn (b := true) (v := (.bool (decide ((rC : Str) = x29)))) (cB PY) rfl) (az (au ?_))))))
 exact bP (decide ((rC : Str) = x29)) ⟨h.cn _, hs⟩
 refine vB rfl (cB PY) rfl (vB rfl (cB PY) rfl (vB rfl (cB PY) rfl (vB rfl (cB PY) rfl (vB rfl (cB PY) rfl (vB rfl (cB PY) rfl (aa (dn (b := false) (v := (.bool (false))) (cB PY) rfl) (az (au ?_))))))))
 exact bP false ⟨h.cn _, hs⟩
 refine aC (aa (dZ (k := 0) h 6 rfl AB rfl rfl) (jK (args := [(.pointer (some ⟨ba, 0, none⟩)), (.pointer (some ⟨bw, 0, none⟩)), (.pointer (some ⟨bo, 0, none⟩))]) Az rfl rfl (aN (args := [(.pointer (some ⟨ba, 0, none⟩)), (.pointer (some ⟨bw, 0, none⟩)), (.pointer (some ⟨bo, 0, none⟩))]) Tryz.func103 rfl Tryz.ntmps103 (bD rfl) (nG (aa (ae (v := (aV [])) rfl) (nK (aa (aB h 1 rfl aW rfl rfl) (aa (dZ (k := 0) h 5 rfl mI rfl rfl) (aa (bS eF rfl (h.mM 3 rfl)) (aa (pX rfl rfl) (nN (aG hs rfl (fun c100 hs => ?_) (fun c100 hs => ?_)))))))))))))
 refine nG (fA h 2 [(.bool (false))] rfl yn rfl rfl rfl rfl rfl fun w h => nJ (aa (ae (v := (aV [])) rfl) (nR (ay (bQ (v := (aV [])) Tryz.results103 rfl (⟨_, rfl, ?_⟩))))))
 refine aa (ae (v := (aV [])) rfl) (az (au ?_))
 exact bP ([], false, y20) ⟨h.cn _, hs⟩
 refine nS (aa (aB h 1 rfl aW rfl rfl) ?_)
 obtain ⟨Yl, hs⟩ := bg hs
 refine aa (dw rfl rfl Yl) (fA h 1 [(I6 ((y20 + 1)))] rfl aW rfl rfl rfl rfl rfl fun w h => nJ (aa (dZ (k := 0) h 5 rfl mI rfl rfl) (aa (aB h 1 rfl aW rfl rfl) ?_)))
 obtain ⟨a102, hs⟩ := bg hs
 refine aa (mZ rfl rfl a102) ?_
 obtain ⟨x103, Ym, hs⟩ := aJ hs
 obtain ⟨b106, o107, cs108, h, r109, i105⟩ := h.Fj 3 15 rfl eF rfl (aH Ym).1 (aH Ym).2
 obtain rfl := r109
 refine aa (i105 _ _ _ _ _ _ _ _ _ rfl rfl) (aa (dZ (k := 0) h 15 rfl zw rfl rfl) (aa (ae (v := (aV x103)) rfl) (nR (bQ (v := (aV x103)) Tryz.results103 rfl (⟨_, rfl, ?_⟩)))))
 refine aa (ae (v := (aV x103)) rfl) (az (au ?_))
 exact bP (x103, PU, (y20 + 1)) ⟨h.cn _, hs⟩
 refine nE (aa (ag (v := v16) rfl) (aa (ae (v := v16) rfl) (nR (bQ (v := v16) Tryz.results104 rfl ?_))))
 replace h := h.freeze 11 rfl
 replace h := h.pair 1 2 (by decide)
 obtain rfl := fJ hs
 subst Bo
 obtain ⟨o1, o2, o3⟩ := h.q8 1 (C := (.two (.blk ba [(I6 y20)]) (.blk bo [(.bool (PU))]) : Chunk)) rfl ⟨trivial, trivial⟩
 exact ⟨o2, v16, rfl, o1, o3, h.Pw 1 11 rfl rfl⟩
def AP (mW : List bu) (lT : Int) (ze : Int) (uI : List Tok) (yt : List Tok) (PZ : List bu) (lF : (List bu × Int × Bool) → Option (List bu × dM)) (y57 : Int) (y58 : Bool) (uM : List bu) : Option (List bu × dM) :=
  gL (Room 112 mW [(⟨(lT + 1), ze, uI, yt, PZ, uM⟩ : bu)]) (lF ((mW ++ [(⟨(lT + 1), ze, uI, yt, PZ, uM⟩ : bu)]), y57, y58))
def AQ (F0 : dM → List Str → List eU → Int → Option (List bu × dM)) (lT : Int) (a : Int) (W : List Str) (F : List eU) (mW : List bu) (ze : Int) (uI : List Tok) (yt : List Tok) (lF : (List bu × Int × Bool) → Option (List bu × dM)) (Dz : Int) (G9 : Bool) (PZ : List bu) : Option (List bu × dM) :=
  bif decide (((lT + 1) : Int) = 6) then gL (jN (a + 1)) ((F0 (⟨Dz, G9⟩ : dM) W F (a + 1)).bind fun vD => AP mW lT ze uI yt PZ lF vD.2.at_ vD.2.ok vD.1) else AP mW lT ze uI yt PZ lF Dz G9 []
def uk (F0 : dM → List Str → List eU → Int → Option (List bu × dM)) (lT : Int) (a : Int) (W : List Str) (F : List eU) (mW : List bu) (ze : Int) (uI : List Tok) (lF : (List bu × Int × Bool) → Option (List bu × dM)) (Kg : Int) (wI : Bool) (yt : List Tok) : Option (List bu × dM) :=
  bif (decide (((lT + 1) : Int) = 6) || decide (((lT + 1) : Int) = 7)) then gL (jN (a + 1)) ((F0 (⟨Kg, wI⟩ : dM) W F (a + 1)).bind fun Yo => AQ F0 lT a W F mW ze uI yt lF Yo.2.at_ Yo.2.ok Yo.1) else AQ F0 lT a W F mW ze uI yt lF Kg wI []
def um (N : Nat) (F0 : dM → List Str → List eU → Int → Option (List bu × dM)) (lT : Int) (W : List Str) (F : List eU) (a : Int) (mW : List bu) (ze : Int) (lF : (List bu × Int × Bool) → Option (List bu × dM)) (P5 : Int) (P6 : Bool) (uI : List Tok) : Option (List bu × dM) :=
  bif decide (((lT + 1) : Int) = 2) then (EC N (⟨P5, P6⟩ : dM) W F).bind fun Mv => uk F0 lT a W F mW ze uI lF Mv.2.at_ Mv.2.ok Mv.1 else uk F0 lT a W F mW ze uI lF P5 P6 []
def qL (N : Nat) (F0 : dM → List Str → List eU → Int → Option (List bu × dM)) (lT : Int) (W : List Str) (F : List eU) (a : Int) (mW : List bu) (lF : (List bu × Int × Bool) → Option (List bu × dM)) (xK : Int) (AJ : Bool) (ze : Int) : Option (List bu × dM) :=
  bif decide (((lT + 1) : Int) ≠ 4) then (EC N (⟨xK, AJ⟩ : dM) W F).bind fun y95 => um N F0 lT W F a mW ze lF y95.2.at_ y95.2.ok y95.1 else um N F0 lT W F a mW ze lF xK AJ []
def uo (N : Nat) (F0 : dM → List Str → List eU → Int → Option (List bu × dM)) (mW : List bu) (W : List Str) (F : List eU) (a : Int) (lF : (List bu × Int × Bool) → Option (List bu × dM)) (x27 : Str) (y28 : Int) (y29 : Bool) : Option (List bu × dM) :=
  bif decide ((x27 : Str) = [125]) then some (mW, (⟨y28, y29⟩ : dM)) else (Ep [115, 101, 116, 32, 112, 117, 116, 32, 115, 97, 121, 32, 112, 97, 117, 115, 101, 32, 103, 111, 32, 105, 102, 32, 119, 104, 105, 108, 101, 32, 114, 101, 116, 117, 114, 110]).bind fun y31 => (slices_Index_string y31 x27).bind fun lT => gL (jN (lT + 1)) (bif (!(y29 && decide ((0 : Int) < (lT + 1)))) then some ([], (⟨y28, (y29 && decide ((0 : Int) < (lT + 1)))⟩ : dM)) else bif decide (((lT + 1) : Int) ≤ 2) then bif decide (((W.length : Int) : Int) ≤ y28) then (BG []).bind fun y104 => qL N F0 lT W F a mW lF y28 false y104.1 else gL (jN (y28 + 1)) (gL (jN ((y28 + 1) - 1)) ((idx W ((y28 + 1) - 1)).bind fun P7 => (BG P7).bind fun P8 => qL N F0 lT W F a mW lF (y28 + 1) (y29 && decide ((0 : Int) < (lT + 1))) P8.1)) else qL N F0 lT W F a mW lF y28 (y29 && decide ((0 : Int) < (lT + 1))) 0)
def uq (N : Nat) (F0 : dM → List Str → List eU → Int → Option (List bu × dM)) (W : List Str) (F : List eU) (a : Int) (s : List bu × Int × Bool) (lF : List bu × Int × Bool → Option (List bu × dM)) : Option (List bu × dM) :=
  match s with | (mW, AR, Bz) => bif Bz then bif decide (((W.length : Int) : Int) ≤ AR) then uo N F0 mW W F a lF [] AR false else gL (jN (AR + 1)) (gL (jN ((AR + 1) - 1)) ((idx W ((AR + 1) - 1)).bind fun IM => uo N F0 mW W F a lF IM (AR + 1) Bz)) else some ([], (⟨AR, Bz⟩ : dM))
def vX (N : Nat) (F0 : dM → List Str → List eU → Int → Option (List bu × dM)) (W : List Str) (F : List eU) (a : Int) (y1 : Int) (y2 : Bool) : Option (List bu × dM) :=
  again (uq N F0 W F a) N ([], y1, y2)
def uu (N : Nat) (F0 : dM → List Str → List eU → Int → Option (List bu × dM)) (W : List Str) (F : List eU) (a : Int) (DF : Bool) (Ha : Int) (Mx : Bool) : Option (List bu × dM) :=
  bif DF then vX N F0 W F a Ha false else vX N F0 W F a Ha Mx
def xL (N : Nat) (F0 : dM → List Str → List eU → Int → Option (List bu × dM)) (sx : dM) (W : List Str) (F : List eU) (a : Int) : Option (List bu × dM) :=
  bif decide (((W.length : Int) : Int) ≤ sx.at_) then uu N F0 W F a true sx.at_ false else gL (jN (sx.at_ + 1)) (gL (jN ((sx.at_ + 1) - 1)) ((idx W ((sx.at_ + 1) - 1)).bind fun NT => uu N F0 W F a (decide ((NT : Str) ≠ [123]) || decide ((6 : Int) < a)) (sx.at_ + 1) sx.ok))
def vY : Nat → dM → List Str → List eU → Int → Option (List bu × dM)
  | 0 => fun _ _ _ _ => none
  | N + 1 => xL N (vY N)
theorem P9 : ∀ (N : Nat) (w0 : World) (M : BS) (hM : ∀ b, M b → b < w0.heap.size) (hT : vK Tryz.prog 4 w0) (ba bo bw bwd bf be bb : Nat) (sx : dM) (hC : Chunk.holds w0 M (Chunk.own' (.two (.blk ba [(I6 sx.at_)]) (.blk bo [(.bool (sx.ok))]) : Chunk)) (.two (.blk ba [(I6 sx.at_)]) (.blk bo [(.bool (sx.ok))]) : Chunk)) (hap : ∀ b, Chunk.own' (.two (.blk ba [(I6 sx.at_)]) (.blk bo [(.bool (sx.ok))]) : Chunk) b → ¬ M b) (vW : Value) (W : List Str) (hvW : fu nY w0 (fun b => M b ∨ Chunk.own' (.two (.blk ba [(I6 sx.at_)]) (.blk bo [(.bool (sx.ok))]) : Chunk) b) vW W) (vF : Value) (F : List eU) (hvF : gB iU w0 (Chunk.own' (.two (.blk ba [(I6 sx.at_)]) (.blk bo [(.bool (sx.ok))]) : Chunk)) (fun b => M b ∨ Chunk.own' (.two (.blk ba [(I6 sx.at_)]) (.blk bo [(.bool (sx.ok))]) : Chunk) b) vF F) (hbw : ∃ E, w0.heap[bw]? = some (.cells #[vW] E (0, 0))) (VV : ¬ Chunk.own' (.two (.blk ba [(I6 sx.at_)]) (.blk bo [(.bool (sx.ok))]) : Chunk) bw) (Mw : ∃ E, w0.heap[bwd]? = some (.cells #[(.func (.func 103) #[] #[(.pointer (some ⟨ba, 0, none⟩)), (.pointer (some ⟨bw, 0, none⟩)), (.pointer (some ⟨bo, 0, none⟩))])] E (0, 0))) (IK : ¬ Chunk.own' (.two (.blk ba [(I6 sx.at_)]) (.blk bo [(.bool (sx.ok))]) : Chunk) bwd) (hbf : ∃ E, w0.heap[bf]? = some (.cells #[vF] E (0, 0))) (VW : ¬ Chunk.own' (.two (.blk ba [(I6 sx.at_)]) (.blk bo [(.bool (sx.ok))]) : Chunk) bf) (hbe : ∃ E, w0.heap[be]? = some (.cells #[(.func (.func 104) #[] #[(.pointer (some ⟨bo, 0, none⟩)), (.pointer (some ⟨bwd, 0, none⟩)), (.pointer (some ⟨bf, 0, none⟩))])] E (0, 0))) (nbe : ¬ Chunk.own' (.two (.blk ba [(I6 sx.at_)]) (.blk bo [(.bool (sx.ok))]) : Chunk) be) (hbb : ∃ E, w0.heap[bb]? = some (.cells #[(.func (.func 109) #[] #[(.pointer (some ⟨bwd, 0, none⟩)), (.pointer (some ⟨bo, 0, none⟩)), (.pointer (some ⟨be, 0, none⟩)), (.pointer (some ⟨bb, 0, none⟩))])] E (0, 0))) (nbb : ¬ Chunk.own' (.two (.blk ba [(I6 sx.at_)]) (.blk bo [(.bool (sx.ok))]) : Chunk) bb) (a : Int) (hG : ∀ b, Chunk.own' (.two (.blk ba [(I6 sx.at_)]) (.blk bo [(.bool (sx.ok))]) : Chunk) b → Tryz.prog.globals.size ≤ b) (r : List bu × dM) (hs : vY N sx W F a = some r),
    Calls Tryz.prog 109 #[(I6 a), (.pointer (some ⟨bwd, 0, none⟩)), (.pointer (some ⟨bo, 0, none⟩)), (.pointer (some ⟨be, 0, none⟩)), (.pointer (some ⟨bb, 0, none⟩))] w0 (fun e w' => aI (Chunk.own' (.two (.blk ba [(I6 sx.at_)]) (.blk bo [(.bool (sx.ok))]) : Chunk)) w0 w' ∧ ∃ u0, e = .returned (u0) ∧ Chunk.holds w' M (Chunk.own' (.two (.blk ba [.int .i64 r.2.at_]) (.blk bo [.bool r.2.ok]) : Chunk)) (.two (.blk ba [.int .i64 r.2.at_]) (.blk bo [.bool r.2.ok]) : Chunk) ∧ (∀ b, Chunk.own' (.two (.blk ba [.int .i64 r.2.at_]) (.blk bo [.bool r.2.ok]) : Chunk) b → b < w0.heap.size → Chunk.own' (.two (.blk ba [(I6 sx.at_)]) (.blk bo [(.bool (sx.ok))]) : Chunk) b) ∧ fu eD w' (fun b => M b ∨ Chunk.own' (.two (.blk ba [.int .i64 r.2.at_]) (.blk bo [.bool r.2.ok]) : Chunk) b) u0 r.1) := by
 intro N
 induction N with
 | zero => intro w0 M hM hT ba bo bw bwd bf be bb sx hC hap vW W hvW vF F hvF hbw VV Mw IK hbf VW hbe nbe hbb nbb a hG r hs; cases hs
 | succ N ih =>
 intro w0 M hM hT ba bo bw bwd bf be bb sx hC hap vW W hvW vF F hvF hbw VV Mw IK hbf VW hbe nbe hbb nbb a hG r hs
 replace hs : xL N (vY N) sx W F a = some r := hs
 generalize vY N = F0 at hs ih
 refine aN (args := [(I6 a), (.pointer (some ⟨bwd, 0, none⟩)), (.pointer (some ⟨bo, 0, none⟩)), (.pointer (some ⟨be, 0, none⟩)), (.pointer (some ⟨bb, 0, none⟩))]) Tryz.func109 rfl Tryz.ntmps109 (bD rfl) ?_
 have h := SH.GA hM hC hap
 replace h := h.Du 3 hvW Bl
 replace h := h.U7 4 hvF (tO Bl)
 replace h := h.Au 5 (cs := [vW]) hbw VV (yC (tO Bl))
 replace h := h.Au 6 (cs := [(.func (.func 103) #[] #[(.pointer (some ⟨ba, 0, none⟩)), (.pointer (some ⟨bw, 0, none⟩)), (.pointer (some ⟨bo, 0, none⟩))])]) Mw IK (qI (yC (tO Bl)))
 replace h := h.Au 7 (cs := [vF]) hbf VW (qI (qI (yC (tO Bl))))
 replace h := h.Au 8 (cs := [(.func (.func 104) #[] #[(.pointer (some ⟨bo, 0, none⟩)), (.pointer (some ⟨bwd, 0, none⟩)), (.pointer (some ⟨bf, 0, none⟩))])]) hbe nbe (qI (qI (qI (yC (tO Bl)))))
 replace h := h.Au 9 (cs := [(.func (.func 109) #[] #[(.pointer (some ⟨bwd, 0, none⟩)), (.pointer (some ⟨bo, 0, none⟩)), (.pointer (some ⟨be, 0, none⟩)), (.pointer (some ⟨bb, 0, none⟩))])]) hbb nbb (qI (qI (qI (qI (yC (tO Bl))))))
 have PV := VV
 have IL := IK
 have PW := VW
 have nbeK := nbe
 have nbbK := nbb
 generalize Bo : (.two (.blk ba [(I6 sx.at_)]) (.blk bo [(.bool (sx.ok))]) : Chunk).own' = K0 at h PV IL PW nbeK nbbK hG
 replace h := h.bG 1 2 (by decide) rfl rfl
 refine nG (aa (ae (v := (.slice none 0 0)) rfl) (nN (bW (σ := Int × Bool) (inl (rg 10 7)) (fun ⟨y1, y2⟩ => []) (fun ⟨y1, y2⟩ w => SH w0 M K0 w (hset [(1, .blk ba [(I6 y1)]), (2, .blk bo [(.bool (y2))]), (3, .rd nY vW W), (4, .sr iU vF F), (5, .pt bw 0 [vW]), (6, .pt bwd 0 [(.func (.func 103) #[] #[(.pointer (some ⟨ba, 0, none⟩)), (.pointer (some ⟨bw, 0, none⟩)), (.pointer (some ⟨bo, 0, none⟩))])]), (7, .pt bf 0 [vF]), (8, .pt be 0 [(.func (.func 104) #[] #[(.pointer (some ⟨bo, 0, none⟩)), (.pointer (some ⟨bwd, 0, none⟩)), (.pointer (some ⟨bf, 0, none⟩))])]), (9, .pt bb 0 [(.func (.func 109) #[] #[(.pointer (some ⟨bwd, 0, none⟩)), (.pointer (some ⟨bo, 0, none⟩)), (.pointer (some ⟨be, 0, none⟩)), (.pointer (some ⟨bb, 0, none⟩))])])]) ∧ vX N F0 W F a y1 y2 = some r) ?_ ?_)))
 rintro ⟨y1, y2⟩ w dx ⟨h, hs⟩
 refine nG (aa (ae (v := (.slice none 0 0)) rfl) (nN (aP (aO ?_))))
 replace h := h.xC (R := eD) (E := 147) 13
 refine gF (σ := Nat × Value × List bu × Int × Bool) (inl ([6, 7, 8, 9] ++ rg 17 66)) (fun ⟨m22, v15, mW, AR, Bz⟩ => [(7, v15)]) (fun ⟨m22, v15, mW, AR, Bz⟩ w => SH w0 M K0 w (hset [(1, .blk ba [(I6 AR)]), (2, .blk bo [(.bool (Bz))]), (3, .rd nY vW W), (4, .sr iU vF F), (5, .pt bw 0 [vW]), (6, .pt bwd 0 [(.func (.func 103) #[] #[(.pointer (some ⟨ba, 0, none⟩)), (.pointer (some ⟨bw, 0, none⟩)), (.pointer (some ⟨bo, 0, none⟩))])]), (7, .pt bf 0 [vF]), (8, .pt be 0 [(.func (.func 104) #[] #[(.pointer (some ⟨bo, 0, none⟩)), (.pointer (some ⟨bwd, 0, none⟩)), (.pointer (some ⟨bf, 0, none⟩))])]), (9, .pt bb 0 [(.func (.func 109) #[] #[(.pointer (some ⟨bwd, 0, none⟩)), (.pointer (some ⟨bo, 0, none⟩)), (.pointer (some ⟨be, 0, none⟩)), (.pointer (some ⟨bb, 0, none⟩))])]), (13, .own eD 147 v15 mW)]) ∧ again (uq N F0 W F a) m22 (mW, AR, Bz) = some r) (fun ⟨m22, v15, mW, AR, Bz⟩ => m22) ⟨N, (.slice none 0 0), [], y1, y2⟩ ⟨rfl, trivial⟩ ?_ ?_
 exact ⟨h.cn _, hs⟩
 rintro ⟨m22, v15, mW, AR, Bz⟩ w dx ⟨h, hs⟩
 obtain ⟨m221, m22e, m22h⟩ := pG hs
 subst m22e
 replace hs := m22h
 generalize VY : again (uq N F0 W F a) m221 = lF at hs
 refine aP (nG (aa (aB h 2 rfl yn rfl rfl) (nN (aG hs rfl (fun c26 hs => ?_) (fun c26 hs => ?_)))))
 refine aF (ak (aO (bW (σ := Str × Int × Bool) (inl [8, 18, 19]) (fun ⟨x27, y28, y29⟩ => [(8, (aV x27))]) (fun ⟨x27, y28, y29⟩ w => SH w0 M K0 w (hset [(1, .blk ba [(I6 y28)]), (2, .blk bo [(.bool (y29))]), (3, .rd nY vW W), (4, .sr iU vF F), (5, .pt bw 0 [vW]), (6, .pt bwd 0 [(.func (.func 103) #[] #[(.pointer (some ⟨ba, 0, none⟩)), (.pointer (some ⟨bw, 0, none⟩)), (.pointer (some ⟨bo, 0, none⟩))])]), (7, .pt bf 0 [vF]), (8, .pt be 0 [(.func (.func 104) #[] #[(.pointer (some ⟨bo, 0, none⟩)), (.pointer (some ⟨bwd, 0, none⟩)), (.pointer (some ⟨bf, 0, none⟩))])]), (9, .pt bb 0 [(.func (.func 109) #[] #[(.pointer (some ⟨bwd, 0, none⟩)), (.pointer (some ⟨bo, 0, none⟩)), (.pointer (some ⟨be, 0, none⟩)), (.pointer (some ⟨bb, 0, none⟩))])]), (13, .own eD 147 v15 mW)]) ∧ uo N F0 mW W F a lF x27 y28 y29 = some r) ?_ ?_)))
 rintro ⟨x27, y28, y29⟩ w dx ⟨h, hs⟩
 refine aP (nG (aa (ag (v := (aV x27)) rfl) (aa (Fu rfl rfl) (nN (aG hs rfl (fun c30 hs => ?_) (fun c30 hs => ?_))))))
 refine nG (aa (ag (v := v15) rfl) (aa (ae (v := v15) rfl) (nR (ay (aD (ay (aD (ay (bQ (v := v15) Tryz.results109 rfl ?_)))))))))
 replace h := h.freeze 13 rfl
 replace h := h.pair 1 2 (by decide)
 obtain rfl := fJ hs
 subst Bo
 obtain ⟨o1, o2, o3⟩ := h.q8 1 (C := (.two (.blk ba [(I6 y28)]) (.blk bo [(.bool (y29))]) : Chunk)) rfl ⟨trivial, trivial⟩
 exact ⟨o2, v15, rfl, o1, o3, h.Pw 1 13 rfl rfl⟩
 refine nS ?_
 obtain ⟨y31, e32, hs⟩ := aJ hs
 refine aS Rw rfl rfl (zB _ _ h.lt (hT.UY h.keep hG) [115, 101, 116, 32, 112, 117, 116, 32, 115, 97, 121, 32, 112, 97, 117, 115, 101, 32, 103, 111, 32, 105, 102, 32, 119, 104, 105, 108, 101, 32, 114, 101, 116, 117, 114, 110] _ e32) ?_
 rintro _ w ⟨k35, u33, rfl, g34⟩
 refine ⟨_, rfl, ?_⟩
 replace h := h.Ky 14 k35 g34
 refine aa (ag (v := (aV x27)) rfl) ?_
 obtain ⟨lT, e37, hs⟩ := aJ hs
 refine aS Ya rfl rfl (Bn _ _ h.lt u33 y31 (h.mM 14 rfl) x27 _ e37) ?_
 rintro _ w ⟨k38, rfl⟩
 refine ⟨_, rfl, ?_⟩
 replace h := h.grow k38
 obtain ⟨a39, hs⟩ := bg hs
 refine aa (dw rfl rfl a39) (aa (dQ (pv := [(0, (I6 ((lT + 1))))]) (out := [(I6 ((lT + 1))), (I6 0), (.slice none 0 0), (.slice none 0 0), (.slice none 0 0), (.slice none 0 0)]) SE rfl ⟨0, 1, [(I6 ((lT + 1)))], rfl, rfl, rfl, bD rfl, rfl⟩) (bU h 15 oo fun w b40 h => dm (vs := [(I6 ((lT + 1))), (I6 0), (.slice none 0 0), (.slice none 0 0), (.slice none 0 0), (.slice none 0 0)]) h 15 [(I6 ((lT + 1))), (I6 0), (.slice none 0 0), (.slice none 0 0), (.slice none 0 0), (.slice none 0 0)] rfl oo rfl rfl rfl rfl rfl (ai rfl (ai rfl (ai rfl (ai rfl (ai rfl (ai rfl aR)))))) fun w h => nK (aa (aB h 2 rfl yn rfl rfl) (aa (ag (v := (.bool (y29))) rfl) (aA rfl rfl (fun q => ah jX rfl) (aA rfl rfl (fun q => aB h 15 rfl aW (dz q) rfl) (aA rfl rfl (fun q => jT (dz q) rfl) (aa (fD rfl rfl lX) (fA h 2 [(.bool ((y29 && decide ((0 : Int) < (lT + 1)))))] rfl yn rfl rfl rfl rfl rfl fun w h => nJ (aa (aB h 2 rfl yn rfl rfl) (aa (ic rfl) (nN ?_))))))))))))
 refine aG hs rfl (fun c41 hs => ?_) (fun c41 hs => ?_)
 refine gV (bA (rW (by decide) (bA (dE (ak (nG (aa (ae (v := (.slice none 0 0)) rfl) (nR (bQ (v := (.slice none 0 0)) Tryz.results109 rfl ?_)))))))))
 replace h := h.pair 1 2 (by decide)
 obtain rfl := fJ hs
 subst Bo
 obtain ⟨o1, o2, o3⟩ := h.q8 1 (C := (.two (.blk ba [(I6 y28)]) (.blk bo [(.bool ((y29 && decide ((0 : Int) < (lT + 1)))))]) : Chunk)) rfl ⟨trivial, trivial⟩
 exact ⟨o2, .slice none 0 0, rfl, o1, o3, gB.nil⟩
 refine aF (ak (bW (σ := Int × Bool × Int) (inl (rg 36 10)) (fun ⟨xK, AJ, ze⟩ => []) (fun ⟨xK, AJ, ze⟩ w => SH w0 M K0 w (hset [(1, .blk ba [(I6 xK)]), (2, .blk bo [(.bool (AJ))]), (3, .rd nY vW W), (4, .sr iU vF F), (5, .pt bw 0 [vW]), (6, .pt bwd 0 [(.func (.func 103) #[] #[(.pointer (some ⟨ba, 0, none⟩)), (.pointer (some ⟨bw, 0, none⟩)), (.pointer (some ⟨bo, 0, none⟩))])]), (7, .pt bf 0 [vF]), (8, .pt be 0 [(.func (.func 104) #[] #[(.pointer (some ⟨bo, 0, none⟩)), (.pointer (some ⟨bwd, 0, none⟩)), (.pointer (some ⟨bf, 0, none⟩))])]), (9, .pt bb 0 [(.func (.func 109) #[] #[(.pointer (some ⟨bwd, 0, none⟩)), (.pointer (some ⟨bo, 0, none⟩)), (.pointer (some ⟨be, 0, none⟩)), (.pointer (some ⟨bb, 0, none⟩))])]), (13, .own eD 147 v15 mW), (15, .blk b40 [(I6 ((lT + 1))), (I6 ze), (.slice none 0 0), (.slice none 0 0), (.slice none 0 0), (.slice none 0 0)])]) ∧ qL N F0 lT W F a mW lF xK AJ ze = some r) ?_ ?_))
 rintro ⟨xK, AJ, ze⟩ w dx ⟨h, hs⟩
 refine bW (σ := Int × Bool × Value × List Tok) (inl (rg 46 6)) (fun ⟨P5, P6, v47, uI⟩ => []) (fun ⟨P5, P6, v47, uI⟩ w => SH w0 M K0 w (hset [(1, .blk ba [(I6 P5)]), (2, .blk bo [(.bool (P6))]), (3, .rd nY vW W), (4, .sr iU vF F), (5, .pt bw 0 [vW]), (6, .pt bwd 0 [(.func (.func 103) #[] #[(.pointer (some ⟨ba, 0, none⟩)), (.pointer (some ⟨bw, 0, none⟩)), (.pointer (some ⟨bo, 0, none⟩))])]), (7, .pt bf 0 [vF]), (8, .pt be 0 [(.func (.func 104) #[] #[(.pointer (some ⟨bo, 0, none⟩)), (.pointer (some ⟨bwd, 0, none⟩)), (.pointer (some ⟨bf, 0, none⟩))])]), (9, .pt bb 0 [(.func (.func 109) #[] #[(.pointer (some ⟨bwd, 0, none⟩)), (.pointer (some ⟨bo, 0, none⟩)), (.pointer (some ⟨be, 0, none⟩)), (.pointer (some ⟨bb, 0, none⟩))])]), (13, .own eD 147 v15 mW), (15, .blk b40 [(I6 ((lT + 1))), (I6 ze), v47, (.slice none 0 0), (.slice none 0 0), (.slice none 0 0)]), (16, .rd kD v47 uI)]) ∧ um N F0 lT W F a mW ze lF P5 P6 uI = some r) ?_ ?_
 rintro ⟨P5, P6, v47, uI⟩ w dx ⟨h, hs⟩
 refine bW (σ := Int × Bool × Value × List Tok) (inl (rg 52 6)) (fun ⟨Kg, wI, v51, yt⟩ => []) (fun ⟨Kg, wI, v51, yt⟩ w => SH w0 M K0 w (hset [(1, .blk ba [(I6 Kg)]), (2, .blk bo [(.bool (wI))]), (3, .rd nY vW W), (4, .sr iU vF F), (5, .pt bw 0 [vW]), (6, .pt bwd 0 [(.func (.func 103) #[] #[(.pointer (some ⟨ba, 0, none⟩)), (.pointer (some ⟨bw, 0, none⟩)), (.pointer (some ⟨bo, 0, none⟩))])]), (7, .pt bf 0 [vF]), (8, .pt be 0 [(.func (.func 104) #[] #[(.pointer (some ⟨bo, 0, none⟩)), (.pointer (some ⟨bwd, 0, none⟩)), (.pointer (some ⟨bf, 0, none⟩))])]), (9, .pt bb 0 [(.func (.func 109) #[] #[(.pointer (some ⟨bwd, 0, none⟩)), (.pointer (some ⟨bo, 0, none⟩)), (.pointer (some ⟨be, 0, none⟩)), (.pointer (some ⟨bb, 0, none⟩))])]), (13, .own eD 147 v15 mW), (15, .blk b40 [(I6 ((lT + 1))), (I6 ze), v47, v51, (.slice none 0 0), (.slice none 0 0)]), (16, .rd kD v47 uI), (17, .rd kD v51 yt)]) ∧ uk F0 lT a W F mW ze uI lF Kg wI yt = some r) ?_ ?_
 rintro ⟨Kg, wI, v51, yt⟩ w dx ⟨h, hs⟩
 refine bW (σ := Int × Bool × Value × List bu) (inl (rg 58 13)) (fun ⟨Dz, G9, v55, PZ⟩ => []) (fun ⟨Dz, G9, v55, PZ⟩ w => SH w0 M K0 w (hset [(1, .blk ba [(I6 Dz)]), (2, .blk bo [(.bool (G9))]), (3, .rd nY vW W), (4, .sr iU vF F), (5, .pt bw 0 [vW]), (6, .pt bwd 0 [(.func (.func 103) #[] #[(.pointer (some ⟨ba, 0, none⟩)), (.pointer (some ⟨bw, 0, none⟩)), (.pointer (some ⟨bo, 0, none⟩))])]), (7, .pt bf 0 [vF]), (8, .pt be 0 [(.func (.func 104) #[] #[(.pointer (some ⟨bo, 0, none⟩)), (.pointer (some ⟨bwd, 0, none⟩)), (.pointer (some ⟨bf, 0, none⟩))])]), (9, .pt bb 0 [(.func (.func 109) #[] #[(.pointer (some ⟨bwd, 0, none⟩)), (.pointer (some ⟨bo, 0, none⟩)), (.pointer (some ⟨be, 0, none⟩)), (.pointer (some ⟨bb, 0, none⟩))])]), (13, .own eD 147 v15 mW), (15, .blk b40 [(I6 ((lT + 1))), (I6 ze), v47, v51, v55, (.slice none 0 0)]), (16, .rd kD v47 uI), (17, .rd kD v51 yt), (18, .rd eD v55 PZ)]) ∧ AQ F0 lT a W F mW ze uI yt lF Dz G9 PZ = some r) ?_ ?_
 rintro ⟨Dz, G9, v55, PZ⟩ w dx ⟨h, hs⟩
 refine bW (σ := Int × Bool × Value × List bu) (inl (rg 71 8)) (fun ⟨y57, y58, v59, uM⟩ => []) (fun ⟨y57, y58, v59, uM⟩ w => SH w0 M K0 w (hset [(1, .blk ba [(I6 y57)]), (2, .blk bo [(.bool (y58))]), (3, .rd nY vW W), (4, .sr iU vF F), (5, .pt bw 0 [vW]), (6, .pt bwd 0 [(.func (.func 103) #[] #[(.pointer (some ⟨ba, 0, none⟩)), (.pointer (some ⟨bw, 0, none⟩)), (.pointer (some ⟨bo, 0, none⟩))])]), (7, .pt bf 0 [vF]), (8, .pt be 0 [(.func (.func 104) #[] #[(.pointer (some ⟨bo, 0, none⟩)), (.pointer (some ⟨bwd, 0, none⟩)), (.pointer (some ⟨bf, 0, none⟩))])]), (9, .pt bb 0 [(.func (.func 109) #[] #[(.pointer (some ⟨bwd, 0, none⟩)), (.pointer (some ⟨bo, 0, none⟩)), (.pointer (some ⟨be, 0, none⟩)), (.pointer (some ⟨bb, 0, none⟩))])]), (13, .own eD 147 v15 mW), (15, .blk b40 [(I6 ((lT + 1))), (I6 ze), v47, v51, v55, v59]), (16, .rd kD v47 uI), (17, .rd kD v51 yt), (18, .rd eD v55 PZ), (19, .rd eD v59 uM)]) ∧ AP mW lT ze uI yt PZ lF y57 y58 uM = some r) ?_ ?_
 rintro ⟨y57, y58, v59, uM⟩ w dx ⟨h, hs⟩
 refine aC (aa (ag (v := v15) rfl) (aa (cK (vs := [(I6 ((lT + 1))), (I6 ze), v47, v51, v55, v59]) h 15 rfl oo rfl rfl rfl) (uQ (R := eD) (vs := [(.agg #[(I6 ((lT + 1))), (I6 ze), v47, v51, v55, v59])]) (xs := [(⟨(lT + 1), ze, uI, yt, PZ, uM⟩ : bu)]) h 20 KO rfl rfl rfl ⟨(UW ⟨_, _, _, _, rfl, (h.fo 16 rfl), (h.fo 17 rfl), (h.fo 18 rfl), (h.fo 19 rfl)⟩), trivial⟩ rfl fun w u61 h => ?_)))
 obtain ⟨a62, hs⟩ := bg hs
 refine mo (R := eD) (m := [(⟨(lT + 1), ze, uI, yt, PZ, uM⟩ : bu)]) h 13 rfl (h.dV 20 rfl) KO rfl rfl rfl a62.1 a62.2 fun w u63 h => aa (ae (v := u63) rfl) (az (ax (au ?_)))
 subst VY
 exact jV ⟨m221, u63, (mW ++ [(⟨(lT + 1), ze, uI, yt, PZ, uM⟩ : bu)]), y57, y58⟩ ⟨h.cn _, hs⟩
 refine nG (aa (ah jX rfl) (aa (aB h 15 rfl aW rfl rfl) (aa (bz rfl rfl) (nN (aG hs rfl (fun c64 hs => ?_) (fun c64 hs => ?_))))))
 refine aC (aa (dZ (k := 0) h 9 rfl IA rfl rfl) (aa (ag (v := (I6 a)) rfl) ?_))
 obtain ⟨a65, hs⟩ := bg hs
 refine aa (dw rfl rfl a65) ?_
 replace h := h.pair 1 2 (by decide)
 obtain ⟨l66a, l66b, l66c⟩ := h.xH 1 (C := (.two (.blk ba [(I6 Dz)]) (.blk bo [(.bool (G9))]) : Chunk)) rfl ⟨trivial, trivial⟩
 obtain ⟨vD, Yk, hs⟩ := aJ hs
 refine aS Mj rfl rfl (ih _ _ l66c (hT.UY h.keep hG) ba bo bw bwd bf be bb (⟨Dz, G9⟩ : dM) l66a l66b vW W (h.Rq 1 3 rfl rfl) vF F (h.XZ 1 4 rfl rfl) (by obtain ⟨E, hE⟩ := hbw; exact ⟨E, h.keep.blk hE PV⟩) VV (by obtain ⟨E, hE⟩ := Mw; exact ⟨E, h.keep.blk hE IL⟩) IK (by obtain ⟨E, hE⟩ := hbf; exact ⟨E, h.keep.blk hE PW⟩) VW (by obtain ⟨E, hE⟩ := hbe; exact ⟨E, h.keep.blk hE nbeK⟩) nbe (by obtain ⟨E, hE⟩ := hbb; exact ⟨E, h.keep.blk hE nbbK⟩) nbb (a + 1) (h.Ip hT hG 1 (C := (.two (.blk ba [(I6 Dz)]) (.blk bo [(.bool (G9))]) : Chunk)) rfl) _ Yk) ?_
 rintro _ w ⟨k71, u69, rfl, h72, h73, g70⟩
 refine ⟨_, rfl, ?_⟩
 replace h := h.back 1 (C := (.two (.blk ba [(I6 Dz)]) (.blk bo [(.bool (G9))]) : Chunk)) (C' := (.two (.blk ba [(I6 vD.2.at_)]) (.blk bo [(.bool (vD.2.ok))]) : Chunk)) rfl ⟨trivial, trivial⟩ h72 k71 h73
 replace h := h.bX 21 (Iu g70)
 replace h := h.bG 1 2 (by decide) rfl rfl
 refine aa (ah zt rfl) (fA h 15 [(I6 ((lT + 1))), (I6 ze), v47, v51, v55, u69] rfl pK rfl rfl rfl rfl (h.fo 21 rfl).one fun w h => az (au ?_))
 replace h := h.Ri 21 19 rfl
 exact bP (vD.2.at_, vD.2.ok, u69, vD.1) ⟨h.cn _, hs⟩
 refine aF (au ?_)
 replace h := h.bX 19 (gB.nil (R := eD))
 exact bP (Dz, G9, (.slice none 0 0), []) ⟨h.cn _, hs⟩
 refine nG (aa (ah jX rfl) (aa (aB h 15 rfl aW rfl rfl) (aa (bz rfl rfl) (aa (ag (v := (.bool (decide (((lT + 1) : Int) = 6)))) rfl) (aA rfl rfl (fun q => ah jX rfl) (aA rfl rfl (fun q => aB h 15 rfl aW (dz q) rfl) (aA rfl rfl (fun q => bz (dz q) rfl) (aa (gW rfl rfl lX) (nN (aG hs rfl (fun c74 hs => ?_) (fun c74 hs => ?_)))))))))))
 refine aC (aa (dZ (k := 0) h 9 rfl IA rfl rfl) (aa (ag (v := (I6 a)) rfl) ?_))
 obtain ⟨a75, hs⟩ := bg hs
 refine aa (dw rfl rfl a75) ?_
 replace h := h.pair 1 2 (by decide)
 obtain ⟨l76a, l76b, l76c⟩ := h.xH 1 (C := (.two (.blk ba [(I6 Kg)]) (.blk bo [(.bool (wI))]) : Chunk)) rfl ⟨trivial, trivial⟩
 obtain ⟨Yo, e78, hs⟩ := aJ hs
 refine aS Mj rfl rfl (ih _ _ l76c (hT.UY h.keep hG) ba bo bw bwd bf be bb (⟨Kg, wI⟩ : dM) l76a l76b vW W (h.Rq 1 3 rfl rfl) vF F (h.XZ 1 4 rfl rfl) (by obtain ⟨E, hE⟩ := hbw; exact ⟨E, h.keep.blk hE PV⟩) VV (by obtain ⟨E, hE⟩ := Mw; exact ⟨E, h.keep.blk hE IL⟩) IK (by obtain ⟨E, hE⟩ := hbf; exact ⟨E, h.keep.blk hE PW⟩) VW (by obtain ⟨E, hE⟩ := hbe; exact ⟨E, h.keep.blk hE nbeK⟩) nbe (by obtain ⟨E, hE⟩ := hbb; exact ⟨E, h.keep.blk hE nbbK⟩) nbb (a + 1) (h.Ip hT hG 1 (C := (.two (.blk ba [(I6 Kg)]) (.blk bo [(.bool (wI))]) : Chunk)) rfl) _ e78) ?_
 rintro _ w ⟨k81, u79, rfl, h82, h83, g80⟩
 refine ⟨_, rfl, ?_⟩
 replace h := h.back 1 (C := (.two (.blk ba [(I6 Kg)]) (.blk bo [(.bool (wI))]) : Chunk)) (C' := (.two (.blk ba [(I6 Yo.2.at_)]) (.blk bo [(.bool (Yo.2.ok))]) : Chunk)) rfl ⟨trivial, trivial⟩ h82 k81 h83
 replace h := h.bX 22 (Iu g80)
 replace h := h.bG 1 2 (by decide) rfl rfl
 refine aa (ah zq rfl) (fA h 15 [(I6 ((lT + 1))), (I6 ze), v47, v51, u79, (.slice none 0 0)] rfl pK rfl rfl rfl rfl (h.fo 22 rfl).one fun w h => az (au ?_))
 replace h := h.Ri 22 18 rfl
 exact bP (Yo.2.at_, Yo.2.ok, u79, Yo.1) ⟨h.cn _, hs⟩
 refine aF (au ?_)
 replace h := h.bX 18 (gB.nil (R := eD))
 exact bP (Kg, wI, (.slice none 0 0), []) ⟨h.cn _, hs⟩
 refine nG (aa (ah jX rfl) (aa (aB h 15 rfl aW rfl rfl) (aa (bz rfl rfl) (nN (aG hs rfl (fun c84 hs => ?_) (fun c84 hs => ?_))))))
 refine aC (aa (dZ (k := 0) h 8 rfl Mr rfl rfl) ?_)
 replace h := h.pair 1 2 (by decide)
 obtain ⟨l85a, l85b, l85c⟩ := h.xH 1 (C := (.two (.blk ba [(I6 P5)]) (.blk bo [(.bool (P6))]) : Chunk)) rfl ⟨trivial, trivial⟩
 obtain ⟨Mv, e87, hs⟩ := aJ hs
 refine aS Ru rfl rfl (KU N _ _ l85c (hT.UY h.keep hG) ba bo bw bwd bf (⟨P5, P6⟩ : dM) l85a l85b vW W (h.Rq 1 3 rfl rfl) vF F (h.XZ 1 4 rfl rfl) (by obtain ⟨E, hE⟩ := hbw; exact ⟨E, h.keep.blk hE PV⟩) VV (by obtain ⟨E, hE⟩ := Mw; exact ⟨E, h.keep.blk hE IL⟩) IK (by obtain ⟨E, hE⟩ := hbf; exact ⟨E, h.keep.blk hE PW⟩) VW (h.Ip hT hG 1 (C := (.two (.blk ba [(I6 P5)]) (.blk bo [(.bool (P6))]) : Chunk)) rfl) _ e87) ?_
 rintro _ w ⟨k90, u88, rfl, h91, h92, g89⟩
 refine ⟨_, rfl, ?_⟩
 replace h := h.back 1 (C := (.two (.blk ba [(I6 P5)]) (.blk bo [(.bool (P6))]) : Chunk)) (C' := (.two (.blk ba [(I6 Mv.2.at_)]) (.blk bo [(.bool (Mv.2.ok))]) : Chunk)) rfl ⟨trivial, trivial⟩ h91 k90 h92
 replace h := h.bX 23 (Iu g89)
 replace h := h.bG 1 2 (by decide) rfl rfl
 refine aa (ah BL rfl) (fA h 15 [(I6 ((lT + 1))), (I6 ze), v47, u88, (.slice none 0 0), (.slice none 0 0)] rfl xI rfl rfl rfl rfl (h.fo 23 rfl).one fun w h => az (au ?_))
 replace h := h.Ri 23 17 rfl
 exact bP (Mv.2.at_, Mv.2.ok, u88, Mv.1) ⟨h.cn _, hs⟩
 refine aF (au ?_)
 replace h := h.bX 17 (gB.nil (R := kD))
 exact bP (P5, P6, (.slice none 0 0), []) ⟨h.cn _, hs⟩
 refine nG (aa (ah jX rfl) (aa (aB h 15 rfl aW rfl rfl) (aa (gN rfl rfl) (nN (aG hs rfl (fun c93 hs => ?_) (fun c93 hs => ?_))))))
 refine aC (aa (dZ (k := 0) h 8 rfl Mr rfl rfl) ?_)
 replace h := h.pair 1 2 (by decide)
 obtain ⟨l94a, l94b, l94c⟩ := h.xH 1 (C := (.two (.blk ba [(I6 xK)]) (.blk bo [(.bool (AJ))]) : Chunk)) rfl ⟨trivial, trivial⟩
 obtain ⟨y95, e96, hs⟩ := aJ hs
 refine aS Ru rfl rfl (KU N _ _ l94c (hT.UY h.keep hG) ba bo bw bwd bf (⟨xK, AJ⟩ : dM) l94a l94b vW W (h.Rq 1 3 rfl rfl) vF F (h.XZ 1 4 rfl rfl) (by obtain ⟨E, hE⟩ := hbw; exact ⟨E, h.keep.blk hE PV⟩) VV (by obtain ⟨E, hE⟩ := Mw; exact ⟨E, h.keep.blk hE IL⟩) IK (by obtain ⟨E, hE⟩ := hbf; exact ⟨E, h.keep.blk hE PW⟩) VW (h.Ip hT hG 1 (C := (.two (.blk ba [(I6 xK)]) (.blk bo [(.bool (AJ))]) : Chunk)) rfl) _ e96) ?_
 rintro _ w ⟨k99, Yp, rfl, h100, h101, g98⟩
 refine ⟨_, rfl, ?_⟩
 replace h := h.back 1 (C := (.two (.blk ba [(I6 xK)]) (.blk bo [(.bool (AJ))]) : Chunk)) (C' := (.two (.blk ba [(I6 y95.2.at_)]) (.blk bo [(.bool (y95.2.ok))]) : Chunk)) rfl ⟨trivial, trivial⟩ h100 k99 h101
 replace h := h.bX 24 (Iu g98)
 replace h := h.bG 1 2 (by decide) rfl rfl
 refine aa (ah zo rfl) (fA h 15 [(I6 ((lT + 1))), (I6 ze), Yp, (.slice none 0 0), (.slice none 0 0), (.slice none 0 0)] rfl xI rfl rfl rfl rfl (h.fo 24 rfl).one fun w h => az (au ?_))
 replace h := h.Ri 24 16 rfl
 exact bP (y95.2.at_, y95.2.ok, Yp, y95.1) ⟨h.cn _, hs⟩
 refine aF (au ?_)
 replace h := h.bX 16 (gB.nil (R := kD))
 exact bP (xK, AJ, (.slice none 0 0), []) ⟨h.cn _, hs⟩
 refine nG (aa (ah jX rfl) (aa (aB h 15 rfl aW rfl rfl) (aa (Eh rfl rfl) (nN (aG hs rfl (fun VZ hs => ?_) (fun VZ hs => ?_))))))
 refine aC (aa (dZ (k := 0) h 6 rfl AB rfl rfl) (jK (args := [(.pointer (some ⟨ba, 0, none⟩)), (.pointer (some ⟨bw, 0, none⟩)), (.pointer (some ⟨bo, 0, none⟩))]) Az rfl rfl (aN (args := [(.pointer (some ⟨ba, 0, none⟩)), (.pointer (some ⟨bw, 0, none⟩)), (.pointer (some ⟨bo, 0, none⟩))]) Tryz.func103 rfl Tryz.ntmps103 (bD rfl) (nG (aa (ae (v := (aV [])) rfl) (nK (aa (aB h 1 rfl aW rfl rfl) (aa (dZ (k := 0) h 5 rfl mI rfl rfl) (aa (bS eF rfl (h.mM 3 rfl)) (aa (pX rfl rfl) (nN (aG hs rfl (fun c103 hs => ?_) (fun c103 hs => ?_)))))))))))))
 refine nG (fA h 2 [(.bool (false))] rfl yn rfl rfl rfl rfl rfl fun w h => nJ (aa (ae (v := (aV [])) rfl) (nR (ay (bQ (v := (aV [])) Tryz.results103 rfl (⟨_, rfl, ?_⟩))))))
 obtain ⟨y104, MB, hs⟩ := aJ hs
 refine aS Ex rfl rfl (qi _ _ h.lt (hT.UY h.keep hG) [] _ MB) ?_
 rintro _ w ⟨Kh, V3, rfl, g107⟩
 refine ⟨_, rfl, ?_⟩
 replace h := h.grow Kh
 refine aa (ag (v := (.tuple #[(I6 y104.1), V3])) rfl) (aa (aU rfl rfl) (aa (aU rfl rfl) (aa (ah vO rfl) (fA h 15 [(I6 ((lT + 1))), (I6 y104.1), (.slice none 0 0), (.slice none 0 0), (.slice none 0 0), (.slice none 0 0)] rfl aW rfl rfl rfl rfl rfl fun w h => az (au ?_)))))
 exact bP (y28, false, y104.1) ⟨h.cn _, hs⟩
 refine nS (aa (aB h 1 rfl aW rfl rfl) ?_)
 obtain ⟨a109, hs⟩ := bg hs
 refine aa (dw rfl rfl a109) (fA h 1 [(I6 ((y28 + 1)))] rfl aW rfl rfl rfl rfl rfl fun w h => nJ (aa (dZ (k := 0) h 5 rfl mI rfl rfl) (aa (aB h 1 rfl aW rfl rfl) ?_)))
 obtain ⟨a110, hs⟩ := bg hs
 refine aa (mZ rfl rfl a110) ?_
 obtain ⟨P7, e112, hs⟩ := aJ hs
 obtain ⟨b114, o115, cs116, h, r117, i113⟩ := h.Fj 3 25 rfl eF rfl (aH e112).1 (aH e112).2
 obtain rfl := r117
 refine aa (i113 _ _ _ _ _ _ _ _ _ rfl rfl) (aa (dZ (k := 0) h 25 rfl zw rfl rfl) (aa (ae (v := (aV P7)) rfl) (nR (bQ (v := (aV P7)) Tryz.results103 rfl (⟨_, rfl, ?_⟩)))))
 obtain ⟨P8, e119, hs⟩ := aJ hs
 refine aS Ex rfl rfl (qi _ _ h.lt (hT.UY h.keep hG) P7 _ e119) ?_
 rintro _ w ⟨k122, u120, rfl, g121⟩
 refine ⟨_, rfl, ?_⟩
 replace h := h.grow k122
 refine aa (ag (v := (.tuple #[(I6 P8.1), u120])) rfl) (aa (aU rfl rfl) (aa (aU rfl rfl) (aa (ah vO rfl) (fA h 15 [(I6 ((lT + 1))), (I6 P8.1), (.slice none 0 0), (.slice none 0 0), (.slice none 0 0), (.slice none 0 0)] rfl aW rfl rfl rfl rfl rfl fun w h => az (au ?_)))))
 exact bP ((y28 + 1), (y29 && decide ((0 : Int) < (lT + 1))), P8.1) ⟨h.cn _, hs⟩
 refine aF (au ?_)
 exact bP (y28, (y29 && decide ((0 : Int) < (lT + 1))), 0) ⟨h.cn _, hs⟩
 refine aC (aa (dZ (k := 0) h 6 rfl AB rfl rfl) (jK (args := [(.pointer (some ⟨ba, 0, none⟩)), (.pointer (some ⟨bw, 0, none⟩)), (.pointer (some ⟨bo, 0, none⟩))]) Az rfl rfl (aN (args := [(.pointer (some ⟨ba, 0, none⟩)), (.pointer (some ⟨bw, 0, none⟩)), (.pointer (some ⟨bo, 0, none⟩))]) Tryz.func103 rfl Tryz.ntmps103 (bD rfl) (nG (aa (ae (v := (aV [])) rfl) (nK (aa (aB h 1 rfl aW rfl rfl) (aa (dZ (k := 0) h 5 rfl mI rfl rfl) (aa (bS eF rfl (h.mM 3 rfl)) (aa (pX rfl rfl) (nN (aG hs rfl (fun c123 hs => ?_) (fun c123 hs => ?_)))))))))))))
 refine nG (fA h 2 [(.bool (false))] rfl yn rfl rfl rfl rfl rfl fun w h => nJ (aa (ae (v := (aV [])) rfl) (nR (ay (bQ (v := (aV [])) Tryz.results103 rfl (⟨_, rfl, ?_⟩))))))
 refine aa (ae (v := (aV [])) rfl) (az (au ?_))
 exact bP ([], AR, false) ⟨h.cn _, hs⟩
 refine nS (aa (aB h 1 rfl aW rfl rfl) ?_)
 obtain ⟨a124, hs⟩ := bg hs
 refine aa (dw rfl rfl a124) (fA h 1 [(I6 ((AR + 1)))] rfl aW rfl rfl rfl rfl rfl fun w h => nJ (aa (dZ (k := 0) h 5 rfl mI rfl rfl) (aa (aB h 1 rfl aW rfl rfl) ?_)))
 obtain ⟨a125, hs⟩ := bg hs
 refine aa (mZ rfl rfl a125) ?_
 obtain ⟨IM, e127, hs⟩ := aJ hs
 obtain ⟨b129, o130, cs131, h, r132, i128⟩ := h.Fj 3 26 rfl eF rfl (aH e127).1 (aH e127).2
 obtain rfl := r132
 refine aa (i128 _ _ _ _ _ _ _ _ _ rfl rfl) (aa (dZ (k := 0) h 26 rfl zw rfl rfl) (aa (ae (v := (aV IM)) rfl) (nR (bQ (v := (aV IM)) Tryz.results103 rfl (⟨_, rfl, ?_⟩)))))
 refine aa (ae (v := (aV IM)) rfl) (az (au ?_))
 exact bP (IM, (AR + 1), Bz) ⟨h.cn _, hs⟩
 refine nE (aa (ae (v := (.slice none 0 0)) rfl) (nR (bQ (v := (.slice none 0 0)) Tryz.results109 rfl ?_)))
 replace h := h.pair 1 2 (by decide)
 obtain rfl := fJ hs
 subst Bo
 obtain ⟨o1, o2, o3⟩ := h.q8 1 (C := (.two (.blk ba [(I6 AR)]) (.blk bo [(.bool (Bz))]) : Chunk)) rfl ⟨trivial, trivial⟩
 exact ⟨o2, .slice none 0 0, rfl, o1, o3, gB.nil⟩
 refine bW (σ := Bool × Int × Bool) (inl (rg 10 7)) (fun ⟨DF, Ha, Mx⟩ => [(16, (.bool (DF)))]) (fun ⟨DF, Ha, Mx⟩ w => SH w0 M K0 w (hset [(1, .blk ba [(I6 Ha)]), (2, .blk bo [(.bool (Mx))]), (3, .rd nY vW W), (4, .sr iU vF F), (5, .pt bw 0 [vW]), (6, .pt bwd 0 [(.func (.func 103) #[] #[(.pointer (some ⟨ba, 0, none⟩)), (.pointer (some ⟨bw, 0, none⟩)), (.pointer (some ⟨bo, 0, none⟩))])]), (7, .pt bf 0 [vF]), (8, .pt be 0 [(.func (.func 104) #[] #[(.pointer (some ⟨bo, 0, none⟩)), (.pointer (some ⟨bwd, 0, none⟩)), (.pointer (some ⟨bf, 0, none⟩))])]), (9, .pt bb 0 [(.func (.func 109) #[] #[(.pointer (some ⟨bwd, 0, none⟩)), (.pointer (some ⟨bo, 0, none⟩)), (.pointer (some ⟨be, 0, none⟩)), (.pointer (some ⟨bb, 0, none⟩))])])]) ∧ uu N F0 W F a DF Ha Mx = some r) ?_ ?_
 rintro ⟨DF, Ha, Mx⟩ w dx ⟨h, hs⟩
 refine aG hs rfl (fun c136 hs => ?_) (fun c136 hs => ?_)
 refine aC (fA h 2 [(.bool (false))] rfl yn rfl rfl rfl rfl rfl fun w h => az (au ?_))
 exact bP (Ha, false) ⟨h.cn _, hs⟩
 refine aF (au ?_)
 exact bP (Ha, Mx) ⟨h.cn _, hs⟩
 refine aC (aa (dZ (k := 0) h 6 rfl AB rfl rfl) (jK (args := [(.pointer (some ⟨ba, 0, none⟩)), (.pointer (some ⟨bw, 0, none⟩)), (.pointer (some ⟨bo, 0, none⟩))]) Az rfl rfl (aN (args := [(.pointer (some ⟨ba, 0, none⟩)), (.pointer (some ⟨bw, 0, none⟩)), (.pointer (some ⟨bo, 0, none⟩))]) Tryz.func103 rfl Tryz.ntmps103 (bD rfl) (nG (aa (ae (v := (aV [])) rfl) (nK (aa (aB h 1 rfl aW rfl rfl) (aa (dZ (k := 0) h 5 rfl mI rfl rfl) (aa (bS eF rfl (h.mM 3 rfl)) (aa (pX rfl rfl) (nN (aG hs rfl (fun c137 hs => ?_) (fun c137 hs => ?_)))))))))))))
 refine nG (fA h 2 [(.bool (false))] rfl yn rfl rfl rfl rfl rfl fun w h => nJ (aa (ae (v := (aV [])) rfl) (nR (ay (bQ (v := (aV [])) Tryz.results103 rfl (⟨_, rfl, ?_⟩))))))
 refine aa (Im rfl rfl) (aa (ag (v := (.bool (true))) rfl) (gy (b' := true) rfl rfl rfl (gy (b' := true) rfl rfl rfl (aa (dn (b := true) (v := (.bool (true))) rfl rfl) (az (au ?_))))))
 exact bP (true, sx.at_, false) ⟨h.cn _, hs⟩
 refine nS (aa (aB h 1 rfl aW rfl rfl) ?_)
 obtain ⟨a138, hs⟩ := bg hs
 refine aa (dw rfl rfl a138) (fA h 1 [(I6 ((sx.at_ + 1)))] rfl aW rfl rfl rfl rfl rfl fun w h => nJ (aa (dZ (k := 0) h 5 rfl mI rfl rfl) (aa (aB h 1 rfl aW rfl rfl) ?_)))
 obtain ⟨a139, hs⟩ := bg hs
 refine aa (mZ rfl rfl a139) ?_
 obtain ⟨NT, e141, hs⟩ := aJ hs
 obtain ⟨b143, o144, cs145, h, r146, i142⟩ := h.Fj 3 27 rfl eF rfl (aH e141).1 (aH e141).2
 obtain rfl := r146
 refine aa (i142 _ _ _ _ _ _ _ _ _ rfl rfl) (aa (dZ (k := 0) h 27 rfl zw rfl rfl) (aa (ae (v := (aV NT)) rfl) (nR (bQ (v := (aV NT)) Tryz.results103 rfl (⟨_, rfl, ?_⟩)))))
 refine aa (Im rfl rfl) (aa (ag (v := (.bool (decide ((NT : Str) ≠ [123])))) rfl) (aA rfl rfl (fun q => ag (v := (I6 a)) rfl) (aA rfl rfl (fun q => jT (dz q) rfl) (aa (gW rfl rfl lX) (az (au ?_))))))
 exact bP ((decide ((NT : Str) ≠ [123]) || decide ((6 : Int) < a)), (sx.at_ + 1), sx.ok) ⟨h.cn _, hs⟩
def lG (Ki : List eU → Option (List eU × Int)) (y24 : List eU) : Option (List eU × Int) :=
  Ki y24
def lH (y1 : List Str) (i17 : Int) (xg : List eU) (Ki : List eU → Option (List eU × Int)) (x30 : Bool) : Option (List eU × Int) :=
  bif x30 then (idx y1 (i17 + 1)).bind fun x32 => (BG x32).bind fun y39 => gL (jN (i17 + 2)) ((idx y1 (i17 + 2)).bind fun x45 => (BG x45).bind fun yt => gL (Room 40 xg [(⟨y39.1, yt.1, []⟩ : eU)]) (lG Ki (xg ++ [(⟨y39.1, yt.1, []⟩ : eU)]))) else lG Ki xg
def ig (N : Nat) (y1 : List Str) (rC : List eU) (i101 : Int) (kK : (List eU × Int × Bool) → Option (List eU × Int)) (Hd : Int) (y112 : Bool) : Option (List eU × Int) :=
  (vY N (⟨Hd, y112⟩ : dM) y1 rC 1).bind fun j6 => (idx rC i101).bind fun xz => kK ((rC.set (i101).toNat { xz with body := j6.1 }), j6.2.at_, j6.2.ok)
def ik (N : Nat) (y1 : List Str) (rC : List eU) (i101 : Int) (kK : (List eU × Int × Bool) → Option (List eU × Int)) (yR : Int) (MC : Bool) : Option (List eU × Int) :=
  bif decide (((y1.length : Int) : Int) ≤ yR) then ig N y1 rC i101 kK yR false else gL (jN (yR + 1)) (gL (jN ((yR + 1) - 1)) ((idx y1 ((yR + 1) - 1)).bind fun Yq => ig N y1 rC i101 kK (yR + 1) MC))
def il (N : Nat) (y1 : List Str) (rC : List eU) (i101 : Int) (kK : (List eU × Int × Bool) → Option (List eU × Int)) (pq : Int) (ME : Bool) : Option (List eU × Int) :=
  bif decide (((y1.length : Int) : Int) ≤ pq) then ik N y1 rC i101 kK pq false else gL (jN (pq + 1)) (gL (jN ((pq + 1) - 1)) ((idx y1 ((pq + 1) - 1)).bind fun Yr => ik N y1 rC i101 kK (pq + 1) ME))
def iq (N : Nat) (y1 : List Str) (rC : List eU) (i101 : Int) (kK : (List eU × Int × Bool) → Option (List eU × Int)) (NU : Bool) (He : Int) (mJ : Bool) : Option (List eU × Int) :=
  bif NU then il N y1 rC i101 kK He false else il N y1 rC i101 kK He mJ
def jk (rC : List eU) (x159 : Bool) : Option (List eU × Int) :=
  bif x159 then some ([], 1) else some (rC, 0)
def iw (N : Nat) (y1 : List Str) (i101 : Int) (s : List eU × Int × Bool) (kK : List eU × Int × Bool → Option (List eU × Int)) : Option (List eU × Int) :=
  match s with | (rC, y98, y99) => bif decide (((y1.length : Int) : Int) ≤ y98) then iq N y1 rC i101 kK true y98 false else gL (jN (y98 + 1)) (gL (jN ((y98 + 1) - 1)) ((idx y1 ((y98 + 1) - 1)).bind fun x152 => iq N y1 rC i101 kK (decide ((x152 : Str) ≠ [102, 117, 110])) (y98 + 1) y99))
def jl (N : Nat) (y1 : List Str) (a : Str) (s : List eU × Int × Bool) : Option (List eU × Int) :=
  match s with | (rC, y98, y99) => bif ((!y99) || decide ((y98 : Int) < (y1.length : Int))) then jk rC true else (sI N rC).bind fun V4 => bif decide ((V4 : Int) ≠ 0) then jk rC true else (ug N rC).bind fun Yt => jk rC (decide ((Yt : Str) ≠ a))
def jm (xg : List eU) (i64 : Int) (s : Unit) (nx67 : Unit → Option (List eU × Int)) : Option (List eU × Int) :=
  (idx xg i64).bind fun Yu => bif (!(aX Yu.params 0 3)) then some ([], 1) else nx67 ()
def iy (N : Nat) (y1 : List Str) (a : Str) (xg : List eU) (s : Unit) : Option (List eU × Int) :=
  upto (iw N y1) (jl N y1 a) 0 ((xg.length : Int)).toNat (xg, 0, true)
def jo (y1 : List Str) (i17 : Int) (Ah : Str) (xg : List eU) (Ki : List eU → Option (List eU × Int)) : Option (List eU × Int) :=
  bif decide ((Ah : Str) = [102, 117, 110]) then gL (jN (i17 + 2)) (lH y1 i17 xg Ki (decide (((i17 + 2) : Int) < (y1.length : Int)))) else lH y1 i17 xg Ki false
def iA (N : Nat) (y1 : List Str) (a : Str) (xg : List eU) : Option (List eU × Int) :=
  bif (decide (((xg.length : Int) : Int) = 0) || decide ((4 : Int) < (xg.length : Int))) then some ([], 1) else upto (jm xg) (iy N y1 a xg) 0 ((xg.length : Int)).toNat ()
def kF (N : Nat) (a : Str) : Option (List eU × Int) :=
  (L6 a [32]).bind fun y1 => eO (jo y1) (iA N y1 a) 0 y1 []
end
end Go.Proofs.YtfclkapelkhlpaaGreatDoor
