/-
  What the law SoloSays needs of our own library and of the walks, no more.
-/
import Derived.Test.YtfclkapelkhlpaaGreatDoorProg
import Derived.Test.YtfclkapelkhlpaaGreatDoorSoloSaysTb
set_option linter.unusedSimpArgs false
set_option linter.unusedVariables false
set_option maxRecDepth 10000
namespace Go.LX
open Go Go.Proofs
abbrev I6 (n : Int) : Value := .int .i64 n
def rg (a : Nat) : Nat → List Nat
  | 0 => []
  | n + 1 => a :: rg (a + 1) n
abbrev cT (p : Nat) (v0 v1 : Value) (st wh : Int) (f : List Frame) (w0 : List Value) (c : List (List Val)) (w1 : List Value) : Chunk := (.two (.two (.two (.two (.blk p [v0, v1, .int .i64 st, .int .i64 wh]) (.own bg.raw 49 v0 (List.zip f w0))) (.ik (dS bC 51 hn w0 (List.map bg.sub f)))) (.own (dZ Val).raw 47 v1 (List.zip c w1))) (.ik (dS bC 51 hn w1 (List.map (dZ Val).sub c))) : Chunk)
abbrev cU (v0 v1 : Value) (f : List Frame) (w0 : List Value) (c : List (List Val)) (w1 : List Value) : Chunk := (.two (.two (.two (.own bg.raw 49 v0 (List.zip f w0)) (.ik (dS bC 51 hn w0 (List.map bg.sub f)))) (.own (dZ Val).raw 47 v1 (List.zip c w1))) (.ik (dS bC 51 hn w1 (List.map (dZ Val).sub c))) : Chunk)
theorem fP {α : Type} {a b : α} (h : some a = some b) : a = b := Option.some.inj h
theorem cB {x y : Bool} (c : x = y) : Value.bool x = Value.bool y := congrArg Value.bool c
theorem p8 {p : Prop} [Decidable p] (h : decide p = true) : p := of_decide_eq_true h
theorem VU {a b c : Bool} (h : (a && (b && c)) = true) : a = true ∧ b = true ∧ c = true := by simpa using h
theorem bF {n m : Nat} (h : Nat.ble n m = true) : n ≤ m := Nat.le_of_ble_eq_true h
section
variable {P : Program} {ops : Array Oper} {Q : Exit → Act → World → Prop} {rest : List Oper} {n : Nat} {env : Nat → Value} {w : World} {d : Option Nat} {op : Op} {ty : TypeId} {pos : String} {af : Array Edge}
theorem X3 {j dj : Nat} {b : Bool} (hd : (ops[j]?).bind (·.dst) = some dj) (hv : ev n env (.tmp dj) = .bool true) (hb : (true == b) = false) (h : WL P ops Q rest n (lS env d undef) w) : WL P ops Q (⟨d, op, ty, pos, af, some (j, b)⟩ :: rest) n env w := nM hd hv hb h
theorem vT {j dj : Nat} {b : Bool} (hd : (ops[j]?).bind (·.dst) = some dj) (hv : ev n env (.tmp dj) = .bool false) (hb : (false == b) = false) (h : WL P ops Q rest n (lS env d undef) w) : WL P ops Q (⟨d, op, ty, pos, af, some (j, b)⟩ :: rest) n env w := nM hd hv hb h
end
section
variable {P : Program} {Q Q' : Exit → Act → World → Prop} {K1 K2 : Act → World → Prop} {n : Nat} {env : Nat → Value} {w : World} {x y : Code} {l : List Oper} {ops : Array Oper} {id i : Nat}
theorem nG (h : WL P l.toArray (Exit.then (y.wp P Q) Q) l n env w) : WC P (Code.seq (Code.region id l.toArray false) y) Q n env w := aM (aC h)
theorem nN (h : WC P y Q n env w) : WL P ops (Exit.then (y.wp P Q) Q') [] n env w := az (ak h)
theorem nR (h : Q .ret (act n env) w) : WL P ops (Exit.then (Code.ret.wp P Q) Q') [] n env w := az (ak (BR h))
theorem nJ (h : WL P l.toArray (Exit.then (y.wp P Q) Q) l n env w) : WL P ops (Exit.then ((Code.seq (Code.region id l.toArray false) y).wp P Q) Q') [] n env w := nN (nG h)
theorem nK (h : WL P l.toArray (Exit.then (x.wp P (Exit.then (y.wp P Q) Q)) (Exit.then (y.wp P Q) Q)) l n env w) : WL P ops (Exit.then ((Code.seq (Code.seq (Code.region id l.toArray false) x) y).wp P Q) Q') [] n env w := nN (aM (nG h))
theorem nS (h : WL P l.toArray (Exit.then (y.wp P Q) Q) l n env w) : WC P .skip (Exit.then ((Code.seq (Code.region id l.toArray false) y).wp P Q) Q') n env w := aH (ak (nG h))
theorem nE (h : WL P l.toArray (Exit.then (y.wp P Q) Q) l n env w) : WC P (.exit i) (Exit.then K1 (Exit.then K2 (Exit.inBlock i (Exit.then ((Code.seq (Code.region id l.toArray false) y).wp P Q) Q')))) n env w := iL (bI (bI (eH (ak (nG h)))))
end
section
variable {P : Program} {ops : Array Oper} {Q : Exit → Act → World → Prop} {n : Nat} {env : Nat → Value} {w ws : World} {d : Option Nat} {op : Op} {ty : TypeId} {pos : String} {af : Array Edge} {fuel : Nat} {listed : Array Bool} {v : Value} {L : BS}
theorem uK (i : Nat) (hS : Grow ws w) (hi : ops[i]? = some ⟨d, op, ty, pos, af, none⟩) (h3 : (Region.noSelect ops && (Region.free .any ops listed i && (Region.ready .any ops listed).contains i)) = true) (he : ∀ wq, Grow ws wq → (execOp (ev n env) ⟨d, op, ty, pos, af, none⟩).run P wq = .ok (.value v) wq) (h : WH P ops ws Q fuel (listed.setIfInBounds i true) n (lS env d v) w) : WH P ops ws Q (fuel + 1) listed n env w := fT i hS hi aj (VU h3).1 (VU h3).2.1 (VU h3).2.2 he h
theorem dG (i : Nat) (hS : aP L ws w) (hi : ops[i]? = some ⟨d, op, ty, pos, af, none⟩) (h3 : (Region.noSelect ops && (Region.free .any ops listed i && (Region.ready .any ops listed).contains i)) = true) (he : ∀ wq, aP L ws wq → (execOp (ev n env) ⟨d, op, ty, pos, af, none⟩).run P wq = .ok (.value v) wq) (h : VM P ops L ws Q fuel (listed.setIfInBounds i true) n (lS env d v) w) : VM P ops L ws Q (fuel + 1) listed n env w := bE i hS hi aj (VU h3).1 (VU h3).2.1 (VU h3).2.2 he h
end
end Go.LX
namespace Go.Proofs.YtfclkapelkhlpaaGreatDoor
open Go Go.Proofs Go.LX
noncomputable section
theorem Oq : rZ Tryz.prog 111 147 6 112 := ⟨Tryz.underlying111, xm (z := (.agg #[(I6 0), (I6 0), (.slice none 0 0), (.slice none 0 0), (.slice none 0 0), (.slice none 0 0)])) (by kernel_rfl) rfl⟩
theorem Ot : rZ Tryz.prog 145 160 2 16 := ⟨Tryz.underlying145, xm (z := (.agg #[(I6 0), (I6 0)])) (by kernel_rfl) rfl⟩
theorem Ou : rZ Tryz.prog 153 9 1 16 := ⟨Tryz.underlying153, xm (z := (aV [])) (by kernel_rfl) rfl⟩
theorem VV : rZ Tryz.prog 204 111 1 24 := ⟨Tryz.underlying204, xm (z := (.slice none 0 0)) (by kernel_rfl) rfl⟩
theorem Q3 : rZ Tryz.prog 22 57 3 40 := ⟨Tryz.underlying22, xm (z := (.agg #[(I6 0), (I6 0), (.slice none 0 0)])) (by kernel_rfl) rfl⟩
theorem jT : rZ Tryz.prog 23 49 4 48 := ⟨Tryz.underlying23, xm (z := (.agg #[(I6 0), (I6 0), (.slice none 0 0), (I6 0)])) (by kernel_rfl) rfl⟩
theorem kK : rZ Tryz.prog 24 47 1 24 := ⟨Tryz.underlying24, xm (z := (.slice none 0 0)) (by kernel_rfl) rfl⟩
theorem jC : rZ Tryz.prog 27 3 1 8 := ⟨Tryz.underlying27, xm (z := (I6 0)) (by kernel_rfl) rfl⟩
theorem kL : rZ Tryz.prog 47 51 2 16 := ⟨Tryz.underlying47, xm (z := (.agg #[(I6 0), (I6 0)])) (by kernel_rfl) rfl⟩
theorem ic : rZ Tryz.prog 55 93 5 56 := ⟨Tryz.underlying55, xm (z := (.agg #[(I6 0), (I6 0), (I6 0), (I6 0), (.slice none 0 0)])) (by kernel_rfl) rfl⟩
theorem Q4 : rZ Tryz.prog 67 113 3 40 := ⟨Tryz.underlying67, xm (z := (.agg #[(I6 0), (I6 0), (.slice none 0 0)])) (by kernel_rfl) rfl⟩
theorem YK : iM Tryz.prog 101 0 0 := ⟨_, _, 0, Tryz.underlying101, rfl, rfl, by kernel_rfl⟩
theorem YL : iM Tryz.prog 101 1 1 := ⟨_, _, 0, Tryz.underlying101, rfl, rfl, by kernel_rfl⟩
theorem L9 : iM Tryz.prog 101 2 2 := ⟨_, _, 0, Tryz.underlying101, rfl, rfl, by kernel_rfl⟩
theorem zf : iM Tryz.prog 113 0 0 := ⟨_, _, 0, Tryz.underlying113, rfl, rfl, by kernel_rfl⟩
theorem Ct : iM Tryz.prog 113 1 1 := ⟨_, _, 0, Tryz.underlying113, rfl, rfl, by kernel_rfl⟩
theorem EK : iM Tryz.prog 113 2 2 := ⟨_, _, 0, Tryz.underlying113, rfl, rfl, by kernel_rfl⟩
theorem mO : iM Tryz.prog 147 0 0 := ⟨_, _, 0, Tryz.underlying147, rfl, rfl, by kernel_rfl⟩
theorem zg : iM Tryz.prog 147 1 1 := ⟨_, _, 0, Tryz.underlying147, rfl, rfl, by kernel_rfl⟩
theorem Cu : iM Tryz.prog 147 2 2 := ⟨_, _, 0, Tryz.underlying147, rfl, rfl, by kernel_rfl⟩
theorem EL : iM Tryz.prog 147 3 3 := ⟨_, _, 0, Tryz.underlying147, rfl, rfl, by kernel_rfl⟩
theorem Cv : iM Tryz.prog 147 4 4 := ⟨_, _, 0, Tryz.underlying147, rfl, rfl, by kernel_rfl⟩
theorem Cw : iM Tryz.prog 147 5 5 := ⟨_, _, 0, Tryz.underlying147, rfl, rfl, by kernel_rfl⟩
theorem Iu : iM Tryz.prog 160 0 0 := ⟨_, _, 0, Tryz.underlying160, rfl, rfl, by kernel_rfl⟩
theorem rz : iM Tryz.prog 160 1 1 := ⟨_, _, 0, Tryz.underlying160, rfl, rfl, by kernel_rfl⟩
theorem dQ : iM Tryz.prog 26 0 0 := ⟨_, _, 0, Tryz.underlying26, rfl, rfl, by kernel_rfl⟩
theorem gF : iM Tryz.prog 26 1 1 := ⟨_, _, 0, Tryz.underlying26, rfl, rfl, by kernel_rfl⟩
theorem lq : iM Tryz.prog 26 2 2 := ⟨_, _, 0, Tryz.underlying26, rfl, rfl, by kernel_rfl⟩
theorem Aj : iM Tryz.prog 26 3 3 := ⟨_, _, 0, Tryz.underlying26, rfl, rfl, by kernel_rfl⟩
theorem yU : iM Tryz.prog 49 0 0 := ⟨_, _, 0, Tryz.underlying49, rfl, rfl, by kernel_rfl⟩
theorem qC : iM Tryz.prog 49 1 1 := ⟨_, _, 0, Tryz.underlying49, rfl, rfl, by kernel_rfl⟩
theorem jZ : iM Tryz.prog 49 2 2 := ⟨_, _, 0, Tryz.underlying49, rfl, rfl, by kernel_rfl⟩
theorem DF : iM Tryz.prog 49 3 3 := ⟨_, _, 0, Tryz.underlying49, rfl, rfl, by kernel_rfl⟩
theorem mW : iM Tryz.prog 51 0 0 := ⟨_, _, 0, Tryz.underlying51, rfl, rfl, by kernel_rfl⟩
theorem fu : iM Tryz.prog 51 1 1 := ⟨_, _, 0, Tryz.underlying51, rfl, rfl, by kernel_rfl⟩
theorem Ak : iM Tryz.prog 57 0 0 := ⟨_, _, 0, Tryz.underlying57, rfl, rfl, by kernel_rfl⟩
theorem wy : iM Tryz.prog 57 1 1 := ⟨_, _, 0, Tryz.underlying57, rfl, rfl, by kernel_rfl⟩
theorem nQ : iM Tryz.prog 57 2 2 := ⟨_, _, 0, Tryz.underlying57, rfl, rfl, by kernel_rfl⟩
theorem mG : iM Tryz.prog 93 0 0 := ⟨_, _, 0, Tryz.underlying93, rfl, rfl, by kernel_rfl⟩
theorem jb : iM Tryz.prog 93 1 1 := ⟨_, _, 0, Tryz.underlying93, rfl, rfl, by kernel_rfl⟩
theorem gp : iM Tryz.prog 93 2 2 := ⟨_, _, 0, Tryz.underlying93, rfl, rfl, by kernel_rfl⟩
theorem mH : iM Tryz.prog 93 3 3 := ⟨_, _, 0, Tryz.underlying93, rfl, rfl, by kernel_rfl⟩
theorem qZ : iM Tryz.prog 93 4 4 := ⟨_, _, 0, Tryz.underlying93, rfl, rfl, by kernel_rfl⟩
theorem PO : iC Tryz.prog 100 := ⟨_, Tryz.func100, by kernel_rfl, rfl⟩
theorem fnOk101 : iC Tryz.prog 101 := ⟨_, Tryz.func101, by kernel_rfl, rfl⟩
theorem Iw : iC Tryz.prog 102 := ⟨_, Tryz.func102, by kernel_rfl, rfl⟩
theorem DI : iC Tryz.prog 103 := ⟨_, Tryz.func103, by kernel_rfl, rfl⟩
theorem Va : iC Tryz.prog 104 := ⟨_, Tryz.func104, by kernel_rfl, rfl⟩
theorem fnOk105 : iC Tryz.prog 105 := ⟨_, Tryz.func105, by kernel_rfl, rfl⟩
theorem PQ : iC Tryz.prog 106 := ⟨_, Tryz.func106, by kernel_rfl, rfl⟩
theorem Vb : iC Tryz.prog 107 := ⟨_, Tryz.func107, by kernel_rfl, rfl⟩
theorem PR : iC Tryz.prog 108 := ⟨_, Tryz.func108, by kernel_rfl, rfl⟩
theorem PS : iC Tryz.prog 109 := ⟨_, Tryz.func109, by kernel_rfl, rfl⟩
theorem fnOk110 : iC Tryz.prog 110 := ⟨_, Tryz.func110, by kernel_rfl, rfl⟩
theorem Vd : iC Tryz.prog 111 := ⟨_, Tryz.func111, by kernel_rfl, rfl⟩
theorem fnOk112 : iC Tryz.prog 112 := ⟨_, Tryz.func112, by kernel_rfl, rfl⟩
theorem fnOk113 : iC Tryz.prog 113 := ⟨_, Tryz.func113, by kernel_rfl, rfl⟩
theorem fnOk114 : iC Tryz.prog 114 := ⟨_, Tryz.func114, by kernel_rfl, rfl⟩
theorem fnOk115 : iC Tryz.prog 115 := ⟨_, Tryz.func115, by kernel_rfl, rfl⟩
theorem Ld : iC Tryz.prog 116 := ⟨_, Tryz.func116, by kernel_rfl, rfl⟩
theorem Ve : iC Tryz.prog 117 := ⟨_, Tryz.func117, by kernel_rfl, rfl⟩
theorem fnOk124 : iC Tryz.prog 124 := ⟨_, Tryz.func124, by kernel_rfl, rfl⟩
theorem Le : iC Tryz.prog 125 := ⟨_, Tryz.func125, by kernel_rfl, rfl⟩
theorem Vf : iC Tryz.prog 128 := ⟨_, Tryz.func128, by kernel_rfl, rfl⟩
theorem PT : iC Tryz.prog 129 := ⟨_, Tryz.func129, by kernel_rfl, rfl⟩
theorem PU : iC Tryz.prog 130 := ⟨_, Tryz.func130, by kernel_rfl, rfl⟩
theorem fnOk131 : iC Tryz.prog 131 := ⟨_, Tryz.func131, by kernel_rfl, rfl⟩
theorem fnOk141 : iC Tryz.prog 141 := ⟨_, Tryz.func141, by kernel_rfl, rfl⟩
theorem DJ : iC Tryz.prog 144 := ⟨_, Tryz.func144, by kernel_rfl, rfl⟩
theorem FJ : iC Tryz.prog 145 := ⟨_, Tryz.func145, by kernel_rfl, rfl⟩
theorem Vg : iC Tryz.prog 146 := ⟨_, Tryz.func146, by kernel_rfl, rfl⟩
theorem Vh : iC Tryz.prog 147 := ⟨_, Tryz.func147, by kernel_rfl, rfl⟩
theorem fnOk164 : iC Tryz.prog 164 := ⟨_, Tryz.func164, by kernel_rfl, rfl⟩
theorem YM : iC Tryz.prog 18 := ⟨_, Tryz.func18, by kernel_rfl, rfl⟩
theorem fnOk20 : iC Tryz.prog 20 := ⟨_, Tryz.func20, by kernel_rfl, rfl⟩
theorem fnOk21 : iC Tryz.prog 21 := ⟨_, Tryz.func21, by kernel_rfl, rfl⟩
theorem YN : iC Tryz.prog 24 := ⟨_, Tryz.func24, by kernel_rfl, rfl⟩
theorem YO : iC Tryz.prog 27 := ⟨_, Tryz.func27, by kernel_rfl, rfl⟩
theorem fnOk28 : iC Tryz.prog 28 := ⟨_, Tryz.func28, by kernel_rfl, rfl⟩
theorem fnOk29 : iC Tryz.prog 29 := ⟨_, Tryz.func29, by kernel_rfl, rfl⟩
theorem fnOk30 : iC Tryz.prog 30 := ⟨_, Tryz.func30, by kernel_rfl, rfl⟩
theorem fnOk31 : iC Tryz.prog 31 := ⟨_, Tryz.func31, by kernel_rfl, rfl⟩
theorem fnOk32 : iC Tryz.prog 32 := ⟨_, Tryz.func32, by kernel_rfl, rfl⟩
theorem fnOk39 : iC Tryz.prog 39 := ⟨_, Tryz.func39, by kernel_rfl, rfl⟩
theorem fnOk40 : iC Tryz.prog 40 := ⟨_, Tryz.func40, by kernel_rfl, rfl⟩
theorem fnOk45 : iC Tryz.prog 45 := ⟨_, Tryz.func45, by kernel_rfl, rfl⟩
theorem YP : iC Tryz.prog 47 := ⟨_, Tryz.func47, by kernel_rfl, rfl⟩
theorem fnOk48 : iC Tryz.prog 48 := ⟨_, Tryz.func48, by kernel_rfl, rfl⟩
theorem PV : iC Tryz.prog 49 := ⟨_, Tryz.func49, by kernel_rfl, rfl⟩
theorem YQ : iC Tryz.prog 50 := ⟨_, Tryz.func50, by kernel_rfl, rfl⟩
theorem uL : iC Tryz.prog 51 := ⟨_, Tryz.func51, by kernel_rfl, rfl⟩
theorem fnOk52 : iC Tryz.prog 52 := ⟨_, Tryz.func52, by kernel_rfl, rfl⟩
theorem Ti : iC Tryz.prog 53 := ⟨_, Tryz.func53, by kernel_rfl, rfl⟩
theorem Gv : iC Tryz.prog 55 := ⟨_, Tryz.func55, by kernel_rfl, rfl⟩
theorem fnOk58 : iC Tryz.prog 58 := ⟨_, Tryz.func58, by kernel_rfl, rfl⟩
theorem fnOk59 : iC Tryz.prog 59 := ⟨_, Tryz.func59, by kernel_rfl, rfl⟩
theorem YR : iC Tryz.prog 63 := ⟨_, Tryz.func63, by kernel_rfl, rfl⟩
theorem fnOk64 : iC Tryz.prog 64 := ⟨_, Tryz.func64, by kernel_rfl, rfl⟩
theorem fnOk65 : iC Tryz.prog 65 := ⟨_, Tryz.func65, by kernel_rfl, rfl⟩
theorem fnOk66 : iC Tryz.prog 66 := ⟨_, Tryz.func66, by kernel_rfl, rfl⟩
theorem YS : iC Tryz.prog 67 := ⟨_, Tryz.func67, by kernel_rfl, rfl⟩
theorem Tj : iC Tryz.prog 68 := ⟨_, Tryz.func68, by kernel_rfl, rfl⟩
theorem Tk : iC Tryz.prog 69 := ⟨_, Tryz.func69, by kernel_rfl, rfl⟩
theorem fnOk70 : iC Tryz.prog 70 := ⟨_, Tryz.func70, by kernel_rfl, rfl⟩
theorem PW : iC Tryz.prog 76 := ⟨_, Tryz.func76, by kernel_rfl, rfl⟩
theorem fnOk77 : iC Tryz.prog 77 := ⟨_, Tryz.func77, by kernel_rfl, rfl⟩
theorem YT : iC Tryz.prog 80 := ⟨_, Tryz.func80, by kernel_rfl, rfl⟩
theorem Tm : iC Tryz.prog 81 := ⟨_, Tryz.func81, by kernel_rfl, rfl⟩
theorem YU : iC Tryz.prog 82 := ⟨_, Tryz.func82, by kernel_rfl, rfl⟩
theorem Tn : iC Tryz.prog 83 := ⟨_, Tryz.func83, by kernel_rfl, rfl⟩
theorem Tp : iC Tryz.prog 84 := ⟨_, Tryz.func84, by kernel_rfl, rfl⟩
theorem YV : iC Tryz.prog 85 := ⟨_, Tryz.func85, by kernel_rfl, rfl⟩
theorem fnOk86 : iC Tryz.prog 86 := ⟨_, Tryz.func86, by kernel_rfl, rfl⟩
theorem YW : iC Tryz.prog 87 := ⟨_, Tryz.func87, by kernel_rfl, rfl⟩
theorem YX : iC Tryz.prog 88 := ⟨_, Tryz.func88, by kernel_rfl, rfl⟩
theorem YY : iC Tryz.prog 89 := ⟨_, Tryz.func89, by kernel_rfl, rfl⟩
theorem YZ : iC Tryz.prog 90 := ⟨_, Tryz.func90, by kernel_rfl, rfl⟩
theorem fnOk91 : iC Tryz.prog 91 := ⟨_, Tryz.func91, by kernel_rfl, rfl⟩
theorem fnOk92 : iC Tryz.prog 92 := ⟨_, Tryz.func92, by kernel_rfl, rfl⟩
theorem Y0 : iC Tryz.prog 93 := ⟨_, Tryz.func93, by kernel_rfl, rfl⟩
theorem Y1 : iC Tryz.prog 94 := ⟨_, Tryz.func94, by kernel_rfl, rfl⟩
theorem VW : Yr Tryz.prog 156 := ⟨by kernel_rfl⟩
theorem iR : yh Tryz.prog 101 [(.bool (false)), (I6 0), (.bool (false))] := ⟨⟨_, Tryz.underlying101, trivial⟩, by kernel_rfl⟩
theorem pU : yh Tryz.prog 113 [(I6 0), (I6 0), (.slice none 0 0)] := ⟨⟨_, Tryz.underlying113, trivial⟩, by kernel_rfl⟩
theorem sD : yh Tryz.prog 147 [(I6 0), (I6 0), (.slice none 0 0), (.slice none 0 0), (.slice none 0 0), (.slice none 0 0)] := ⟨⟨_, Tryz.underlying147, trivial⟩, by kernel_rfl⟩
theorem mX : yh Tryz.prog 160 [(I6 0), (I6 0)] := ⟨⟨_, Tryz.underlying160, trivial⟩, by kernel_rfl⟩
theorem bM : yh Tryz.prog 26 [(.slice none 0 0), (.slice none 0 0), (I6 0), (I6 0)] := ⟨⟨_, Tryz.underlying26, trivial⟩, by kernel_rfl⟩
theorem il : yh Tryz.prog 49 [(I6 0), (I6 0), (.slice none 0 0), (I6 0)] := ⟨⟨_, Tryz.underlying49, trivial⟩, by kernel_rfl⟩
theorem aY : yh Tryz.prog 51 [(I6 0), (I6 0)] := ⟨⟨_, Tryz.underlying51, trivial⟩, by kernel_rfl⟩
theorem sF : yh Tryz.prog 57 [(I6 0), (I6 0), (.slice none 0 0)] := ⟨⟨_, Tryz.underlying57, trivial⟩, by kernel_rfl⟩
theorem nT : yh Tryz.prog 93 [(I6 0), (I6 0), (I6 0), (I6 0), (.slice none 0 0)] := ⟨⟨_, Tryz.underlying93, trivial⟩, by kernel_rfl⟩
theorem Iy : MapOf Tryz.prog 125 (.bool (false)) := ⟨_, _, Tryz.underlying125, Tryz.underlying3, by kernel_rfl⟩
theorem iB : MapOf Tryz.prog 131 (aV []) := ⟨_, _, Tryz.underlying131, Tryz.underlying3, by kernel_rfl⟩
theorem Vi : MapOf Tryz.prog 89 (I6 0) := ⟨_, _, Tryz.underlying89, Tryz.underlying3, by kernel_rfl⟩
theorem FK : L6 Tryz.prog 174 (.agg #[(I6 0), (I6 0)]) := ⟨_, _, Tryz.underlying174, Tryz.underlying4, by kernel_rfl⟩
theorem lY : One Tryz.prog 104 (.pointer none) := ⟨⟨_, Tryz.underlying104, trivial⟩, by kernel_rfl, rfl⟩
theorem ug : One Tryz.prog 111 (.slice none 0 0) := ⟨⟨_, Tryz.underlying111, trivial⟩, by kernel_rfl, rfl⟩
theorem Jm : One Tryz.prog 125 (.map none) := ⟨⟨_, Tryz.underlying125, trivial⟩, by kernel_rfl, rfl⟩
theorem AR : One Tryz.prog 145 (.slice none 0 0) := ⟨⟨_, Tryz.underlying145, trivial⟩, by kernel_rfl, rfl⟩
theorem qQ : One Tryz.prog 153 (.slice none 0 0) := ⟨⟨_, Tryz.underlying153, trivial⟩, by kernel_rfl, rfl⟩
theorem DK : One Tryz.prog 159 .nilFunc := ⟨⟨_, Tryz.underlying159, trivial⟩, by kernel_rfl, rfl⟩
theorem PX : One Tryz.prog 165 .nilFunc := ⟨⟨_, Tryz.underlying165, trivial⟩, by kernel_rfl, rfl⟩
theorem Ma : One Tryz.prog 166 .nilFunc := ⟨⟨_, Tryz.underlying166, trivial⟩, by kernel_rfl, rfl⟩
theorem gD : One Tryz.prog 23 (.slice none 0 0) := ⟨⟨_, Tryz.underlying23, trivial⟩, by kernel_rfl, rfl⟩
theorem jU : One Tryz.prog 24 (.slice none 0 0) := ⟨⟨_, Tryz.underlying24, trivial⟩, by kernel_rfl, rfl⟩
theorem qD : One Tryz.prog 27 (.slice none 0 0) := ⟨⟨_, Tryz.underlying27, trivial⟩, by kernel_rfl, rfl⟩
theorem aU : One Tryz.prog 3 (I6 0) := ⟨⟨_, Tryz.underlying3, trivial⟩, by kernel_rfl, rfl⟩
theorem BB : One Tryz.prog 4 (.bool (false)) := ⟨⟨_, Tryz.underlying4, trivial⟩, by kernel_rfl, rfl⟩
theorem j3 : One Tryz.prog 47 (.slice none 0 0) := ⟨⟨_, Tryz.underlying47, trivial⟩, by kernel_rfl, rfl⟩
theorem xy : One Tryz.prog 55 (.slice none 0 0) := ⟨⟨_, Tryz.underlying55, trivial⟩, by kernel_rfl, rfl⟩
theorem Cx : One Tryz.prog 67 (.slice none 0 0) := ⟨⟨_, Tryz.underlying67, trivial⟩, by kernel_rfl, rfl⟩
theorem Vj : One Tryz.prog 89 (.map none) := ⟨⟨_, Tryz.underlying89, trivial⟩, by kernel_rfl, rfl⟩
theorem Cy : One Tryz.prog 9 (aV []) := ⟨⟨_, Tryz.underlying9, trivial⟩, by kernel_rfl, rfl⟩
theorem PY : U0 Tryz.prog 51 := ⟨⟨_, _, Tryz.underlying51, by decide, by decide, rfl, rfl, Tryz.underlying3, Tryz.underlying3, by kernel_rfl, by kernel_rfl⟩, by kernel_rfl, by kernel_rfl⟩
theorem oC : SliceOf Tryz.prog 111 147 6 := ⟨Tryz.underlying111, by kernel_rfl⟩
theorem nz : SliceOf Tryz.prog 145 160 2 := ⟨Tryz.underlying145, by kernel_rfl⟩
theorem gN : SliceOf Tryz.prog 153 9 1 := ⟨Tryz.underlying153, by kernel_rfl⟩
theorem Mc : SliceOf Tryz.prog 204 111 1 := ⟨Tryz.underlying204, by kernel_rfl⟩
theorem gU : SliceOf Tryz.prog 22 57 3 := ⟨Tryz.underlying22, by kernel_rfl⟩
theorem dx : SliceOf Tryz.prog 23 49 4 := ⟨Tryz.underlying23, by kernel_rfl⟩
theorem eQ : SliceOf Tryz.prog 24 47 1 := ⟨Tryz.underlying24, by kernel_rfl⟩
theorem bV : SliceOf Tryz.prog 27 3 1 := ⟨Tryz.underlying27, by kernel_rfl⟩
theorem aZ : SliceOf Tryz.prog 47 51 2 := ⟨Tryz.underlying47, by kernel_rfl⟩
theorem iy : SliceOf Tryz.prog 55 93 5 := ⟨Tryz.underlying55, by kernel_rfl⟩
theorem jR : SliceOf Tryz.prog 67 113 3 := ⟨Tryz.underlying67, by kernel_rfl⟩
theorem VX : Struct Tryz.prog 101 [(.bool (false)), (I6 0), (.bool (false))] [(0, 1), (1, 1), (2, 1)] := ⟨by kernel_rfl, _, Tryz.underlying101, by kernel_rfl⟩
theorem VY : Struct Tryz.prog 113 [(I6 0), (I6 0), (.slice none 0 0)] [(0, 1), (1, 1), (2, 1)] := ⟨by kernel_rfl, _, Tryz.underlying113, by kernel_rfl⟩
theorem VZ : Struct Tryz.prog 147 [(I6 0), (I6 0), (.slice none 0 0), (.slice none 0 0), (.slice none 0 0), (.slice none 0 0)] [(0, 1), (1, 1), (2, 1), (3, 1), (4, 1), (5, 1)] := ⟨by kernel_rfl, _, Tryz.underlying147, by kernel_rfl⟩
theorem Cz : Struct Tryz.prog 160 [(I6 0), (I6 0)] [(0, 1), (1, 1)] := ⟨by kernel_rfl, _, Tryz.underlying160, by kernel_rfl⟩
theorem rA : Struct Tryz.prog 26 [(.slice none 0 0), (.slice none 0 0), (I6 0), (I6 0)] [(0, 1), (1, 1), (2, 1), (3, 1)] := ⟨by kernel_rfl, _, Tryz.underlying26, by kernel_rfl⟩
theorem CB : Struct Tryz.prog 49 [(I6 0), (I6 0), (.slice none 0 0), (I6 0)] [(0, 1), (1, 1), (2, 1), (3, 1)] := ⟨by kernel_rfl, _, Tryz.underlying49, by kernel_rfl⟩
theorem qE : Struct Tryz.prog 51 [(I6 0), (I6 0)] [(0, 1), (1, 1)] := ⟨by kernel_rfl, _, Tryz.underlying51, by kernel_rfl⟩
theorem Y2 : Struct Tryz.prog 57 [(I6 0), (I6 0), (.slice none 0 0)] [(0, 1), (1, 1), (2, 1)] := ⟨by kernel_rfl, _, Tryz.underlying57, by kernel_rfl⟩
theorem qF : Struct Tryz.prog 93 [(I6 0), (I6 0), (I6 0), (I6 0), (.slice none 0 0)] [(0, 1), (1, 1), (2, 1), (3, 1), (4, 1)] := ⟨by kernel_rfl, _, Tryz.underlying93, by kernel_rfl⟩
theorem mixed : Tryz.prog.follows .mixedOrders = true := by kernel_rfl
theorem KY (w0 : World) (M : BS) (hM : ∀ b, M b → b < w0.heap.size) (hT : ze Tryz.prog 4 w0) (a : Str) (b : Str) (r : List Str) (hs : Px a b = some r) :
    Calls Tryz.prog 101 #[aV a, aV b] w0 (fun e w' => Grow w0 w' ∧ ∃ u, e = .returned u ∧ gX rV w' M u r) :=
  split_w Tryz.strings_Split hM hT hs
theorem uM (w0 : World) (M : BS) (hM : ∀ b, M b → b < w0.heap.size) (hT : ze Tryz.prog 4 w0) (a : Str) (r : Int × Bool) (hs : EF a = some r) :
    Calls Tryz.prog 102 #[aV a] w0 (fun e w' => Grow w0 w' ∧ ∃ u, e = .returned (.tuple #[.int .i64 r.1, u]) ∧ QR u r.2) :=
  atoi_w Tryz.strconv_Atoi_ok Tryz.strconv_Atoi_syntax_var Tryz.strconv_Atoi_range_var hT hs
def aN (a : Int) (b : Int) (c : Int) : Bool :=
  (decide ((b : Int) ≤ a) && decide ((a : Int) ≤ c))
theorem fe (w0 : World) (M : BS) (hM : ∀ b, M b → b < w0.heap.size) (a : Int) (b : Int) (c : Int) (r : Bool) (hs : aN a b c = r) :
    Calls Tryz.prog 51 #[(I6 a), (I6 b), (I6 c)] w0 (fun e w' => Grow w0 w' ∧ e = .returned (.bool r)) := by
 refine aQ (args := [(I6 a), (I6 b), (I6 c)]) Tryz.func51 rfl Tryz.ntmps51 (bF rfl) ?_
 have h := SH.init hM
 refine nG (aa (ae (v := (.bool (false))) rfl) (nJ (aa (ah (v := (I6 b)) rfl) (aa (ah (v := (I6 a)) rfl) (aa (Gh rfl rfl) (aa (ah (v := (.bool (decide ((b : Int) ≤ a)))) rfl) (aG rfl rfl (fun q => ah (v := (I6 a)) rfl) (aG rfl rfl (fun q => ah (v := (I6 c)) rfl) (aG rfl rfl (fun q => Gh (eD q) (eD q)) (aa (gZ rfl rfl nC) (aa (ae (v := (.bool ((decide ((b : Int) ≤ a) && decide ((a : Int) ≤ c))))) rfl) (nR (dD (v := (.bool ((decide ((b : Int) ≤ a) && decide ((a : Int) ≤ c))))) Tryz.results51 rfl ?_)))))))))))))
 obtain rfl := hs
 exact ⟨h.grown, rfl⟩
def sG (V3 : Int → Option (Int × Bool)) (x40 : Int) : Option (Int × Bool) :=
  V3 x40
def sH (F0 : List bR → Int → Option (Int × Bool)) (b : Int) (Ci : List bR) (x32 : Int) (V3 : Int → Option (Int × Bool)) : Option (Int × Bool) :=
  bif decide ((0 : Int) < (Ci.length : Int)) then ib (jV (b - 1)) ((F0 Ci (b - 1)).bind fun sI => ib (jV (x32 + sI.1)) (bif ((!sI.2) || decide ((30 : Int) < (x32 + sI.1))) then some (0, false) else sG V3 (x32 + sI.1))) else sG V3 x32
def sJ (PZ : Int → Option (Int × Bool)) (x32 : Int) : Option (Int × Bool) :=
  bif decide ((30 : Int) < x32) then some (0, false) else PZ x32
def sK (F0 : List bR → Int → Option (Int × Bool)) (b : Int) (a : List bR) (x8 : bR) (x5 : Int) (PZ : Int → Option (Int × Bool)) : Option (Int × Bool) :=
  ib (jV (x5 + 1)) (each (sH F0 b) (sJ PZ) [x8.a, x8.b] (x5 + 1))
def sM (x5 : Int) : Option (Int × Bool) :=
  some (x5, true)
def Aa (F0 : List bR → Int → Option (Int × Bool)) (a : List bR) (b : Int) : Option (Int × Bool) :=
  bif decide ((b : Int) < 1) then some (0, false) else each (sK F0 b a) sM a 0
def qG : Nat → List bR → Int → Option (Int × Bool)
  | 0 => fun _ _ => none
  | N + 1 => Aa (qG N)
theorem F7 : ∀ (N : Nat) (w0 : World) (M : BS) (hM : ∀ b, M b → b < w0.heap.size) (va : Value) (a : List bR) (ha : gy gM w0 BE M va a) (b : Int) (r : Int × Bool) (hs : qG N a b = some r),
    Calls Tryz.prog 128 #[va, (I6 b)] w0 (fun e w' => Grow w0 w' ∧ e = .returned (.tuple #[.int .i64 r.1, .bool r.2])) := by
 intro N
 induction N with
 | zero => intro w0 M hM va a ha b r hs; cases hs
 | succ N ih =>
 intro w0 M hM va a ha b r hs
 replace hs : Aa (qG N) a b = some r := hs
 generalize qG N = F0 at hs ih
 refine aQ (args := [va, (I6 b)]) Tryz.func128 rfl Tryz.ntmps128 (bF rfl) ?_
 have h := SH.init hM
 replace h := h.gz 1 ha bH
 have vC := ha.bT
 refine nG (aa (ae (v := (I6 0)) rfl) (aa (ae (v := (.bool (false))) rfl) (nK (aa (ah (v := (I6 b)) rfl) (aa (eB rfl rfl) (nN (aI hs rfl (fun c1 hs => ?_) (fun c1 hs => ?_))))))))
 refine nG (aa (ae (v := (I6 0)) rfl) (aa (ae (v := (.bool (false))) rfl) (nR (ay (Jd (v1 := (I6 0)) (v2 := (.bool (false))) Tryz.results128 rfl rfl ?_)))))
 obtain rfl := fP hs
 exact ⟨h.grown, rfl⟩
 refine nS (aa (ae (v := (I6 0)) rfl) (nK (aa (ah (v := va) rfl) (aa (bW oC rfl (h.iV 1 rfl)) (aa (ah (v := (I6 0)) rfl) (nN (aO (gu (σ := Nat × Int × Int) (inl ([4, 5, 6, 8, 10, 11, 12] ++ rg 17 39)) (fun ⟨k6, i7, x5⟩ => [(6, (I6 x5)), (17, (I6 i7))]) (fun ⟨k6, i7, x5⟩ w => SH w0 M BE w (hset [(1, .sr gM va a)]) ∧ i7 = (k6 : Int) ∧ each (sK F0 b a) sM (a.drop k6) x5 = some r) (fun ⟨k6, i7, x5⟩ => a.length - k6) ⟨0, 0, 0⟩ ⟨rfl, rfl, trivial⟩ ?_ ?_))))))))
 exact ⟨h.cn _, rfl, hs⟩
 rintro ⟨k6, i7, x5⟩ w dO ⟨h, hik, hs⟩
 refine nG ?_
 refine aa (eB rfl rfl) (nN ?_)
 refine aM (gK rfl (fun e11 => ?_) (fun e11 => ?_))
 refine aH (ak ?_)
 obtain ⟨x8, e12a, e12b⟩ := fU (hik ▸ e11)
 rw [e12b, dV] at hs
 generalize Y3 : each (sK F0 b a) sM (a.drop (k6 + 1)) = PZ at hs
 have e12r := gm ((h.iV 1 rfl)).bT hik e11
 refine aM (aO (nG ?_))
 obtain ⟨b14, o15, cs16, h, r17, i13⟩ := h.zP 1 2 rfl oC rfl (iI hik) (fZ hik e12a)
 obtain ⟨SC, u20, u22, u24, rfl, g19, g21, g23, g25⟩ := Dy r17
 replace h := h.dA 3 g19.up
 replace h := h.dA 4 g21.up.up
 replace h := h.dA 5 g23.up.up.up
 replace h := h.dA 6 g25.up.up.up.up
 refine aa (i13 _ _ _ _ _ _ _ _ _ rfl rfl) (aa (jo (k := 0) (vs := [(I6 x8.kind), (I6 x8.n), SC, u20, u22, u24]) h 2 rfl sD rfl rfl rfl (bF rfl)) (bP h 7 sD fun w b26 h => dH (vs := [(I6 x8.kind), (I6 x8.n), SC, u20, u22, u24]) h 7 [(I6 x8.kind), (I6 x8.n), SC, u20, u22, u24] rfl sD rfl rfl rfl rfl rfl (ai rfl (ai rfl (ai (h.iD 3 rfl).one (ai (h.iD 4 rfl).one (ai (h.iD 5 rfl).one (ai (h.iD 6 rfl).one aS)))))) fun w h => nJ (aa (ah (v := (I6 x5)) rfl) ?_)))
 obtain ⟨a27, hs⟩ := bB hs
 refine aa (dP rfl rfl a27) (aa (ae (v := (I6 ((x5 + 1)))) rfl) (nK (aa (ag Cv rfl) (aa (aA h 7 rfl ug rfl rfl) (aa (ag Cw rfl) (aa (aA h 7 rfl ug rfl rfl) (tL (R := (rU gM)) (vs := [u22, u24]) (xs := [x8.a, x8.b]) h 8 VV rfl rfl rfl ⟨(h.iD 5 rfl).rdc, ⟨(h.iD 6 rfl).rdc, trivial⟩⟩ rfl fun w u28 h => aa (bW Mc rfl (h.eG 8 rfl)) (aa (ah (v := (I6 0)) rfl) (nN (aO ?_))))))))))
 replace h := h.freeze 8 rfl
 refine gu (σ := Nat × Int × Int) (inl ([4, 5, 6, 10, 11, 12] ++ rg 29 24)) (fun ⟨X4, i34, x32⟩ => [(6, (I6 x32)), (29, (I6 i34))]) (fun ⟨X4, i34, x32⟩ w => SH w0 M BE w (hset [(1, .sr gM va a), (8, .rd (rU gM) u28 [x8.a, x8.b])]) ∧ i34 = (X4 : Int) ∧ each (sH F0 b) (sJ PZ) ([x8.a, x8.b].drop X4) x32 = some r) (fun ⟨X4, i34, x32⟩ => [x8.a, x8.b].length - X4) ⟨0, 0, (x5 + 1)⟩ ⟨rfl, rfl, trivial⟩ ?_ ?_
 exact ⟨h.cn _, rfl, hs⟩
 rintro ⟨X4, i34, x32⟩ w dO ⟨h, hik, hs⟩
 refine nG ?_
 refine aa (eB rfl rfl) (nN ?_)
 refine aM (gK rfl (fun e38 => ?_) (fun e38 => ?_))
 refine aH (ak ?_)
 obtain ⟨Ci, e39a, e39b⟩ := fU (hik ▸ e38)
 rw [e39b, dV] at hs
 generalize hnx37 : each (sH F0 b) (sJ PZ) ([x8.a, x8.b].drop (X4 + 1)) = V3 at hs
 have e39r := gm ((h.ny 8 rfl)).bT hik e38
 refine bX (σ := Int) (inl ([4, 5, 6, 10, 11, 12] ++ rg 31 21)) (fun x40 => [(6, (I6 x40))]) (fun x40 w => SH w0 M BE w (hset [(1, .sr gM va a), (8, .rd (rU gM) u28 [x8.a, x8.b])]) ∧ sG V3 x40 = some r) ?_ ?_
 rintro x40 w dO ⟨h, hs⟩
 refine aC (aa (dP rfl rfl e39r) (aa (ah (v := (I6 ((i34 + 1)))) rfl) (az (au ?_))))
 subst hnx37
 exact jB ⟨X4 + 1, i34 + 1, x40⟩ ⟨h.cn _, by omega, hs⟩ (by have := p8 e38; dsimp only; omega)
 refine aO (nG ?_)
 obtain ⟨b42, o43, cs44, h, r45, i41⟩ := h.Cm 8 9 rfl Mc rfl (iI hik) (fZ hik e39a)
 obtain ⟨u46, rfl, g47⟩ := r45
 replace h := h.dA 10 g47.up
 refine aa (i41 _ _ _ _ _ _ _ _ _ rfl rfl) (aa (fq (k := 0) h 9 rfl ug rfl rfl) (aa (ae (v := u46) rfl) (nJ (aa (ah (v := u46) rfl) (aa (bW oC rfl (h.ny 10 rfl)) (aa (lT rfl rfl) (nN (aI hs rfl (fun c48 hs => ?_) (fun c48 hs => ?_)))))))))
 refine nG (aa (ah (v := u46) rfl) (aa (ah (v := (I6 b)) rfl) ?_))
 obtain ⟨a49, hs⟩ := bB hs
 refine aa (mV rfl rfl a49) ?_
 obtain ⟨sI, e51, hs⟩ := aK hs
 refine aX Vf rfl rfl (ih _ _ h.lt u46 Ci (h.ny 10 rfl) (b - 1) _ e51) ?_
 rintro _ w ⟨k52, rfl⟩
 refine ⟨_, rfl, ?_⟩
 replace h := h.grow k52
 refine aa (ah (v := (.tuple #[(I6 sI.1), (.bool (sI.2))])) rfl) (aa (bu rfl rfl) (aa (bu rfl rfl) (aa (ae (v := (I6 sI.1)) rfl) (aa (ae (v := (.bool (sI.2))) rfl) (nJ (aa (ah (v := (I6 x32)) rfl) (aa (ah (v := (I6 sI.1)) rfl) ?_)))))))
 obtain ⟨a53, hs⟩ := bB hs
 refine aa (dP rfl rfl a53) (aa (ae (v := (I6 ((x32 + sI.1)))) rfl) (nJ (aa (ah (v := (.bool (sI.2))) rfl) (aa (gL rfl) (aa (ah (v := (.bool ((!sI.2)))) rfl) (aG rfl rfl (fun q => ah (v := (I6 ((x32 + sI.1)))) rfl) (aG rfl rfl (fun q => lT (eD q) rfl) (aa (iJ rfl rfl nC) (nN (aI hs rfl (fun c54 hs => ?_) (fun c54 hs => ?_)))))))))))
 refine nG (aa (ae (v := (I6 0)) rfl) (aa (ae (v := (.bool (false))) rfl) (nR (aF (ay (ay (aF (ay (aF (ay (ay (aF (ay (Jd (v1 := (I6 0)) (v2 := (.bool (false))) Tryz.results128 rfl rfl ?_))))))))))))))
 obtain rfl := fP hs
 exact ⟨h.grown, rfl⟩
 refine aH (ax (au ?_))
 exact bQ (x32 + sI.1) ⟨h.cn _, hs⟩
 refine aH (ax (au ?_))
 exact bQ x32 ⟨h.cn _, hs⟩
 rw [fV (hik ▸ e38), fQ] at hs
 refine nE (aa (ah (v := (I6 x32)) rfl) (aa (lT rfl rfl) (nN (aI hs rfl (fun c55 hs => ?_) (fun c55 hs => ?_)))))
 refine nG (aa (ae (v := (I6 0)) rfl) (aa (ae (v := (.bool (false))) rfl) (nR (aF (ay (ay (aF (ay (Jd (v1 := (I6 0)) (v2 := (.bool (false))) Tryz.results128 rfl rfl ?_)))))))))
 obtain rfl := fP hs
 exact ⟨h.grown, rfl⟩
 refine aH (ax (ak (aC (aa (dP rfl rfl e12r) (aa (ah (v := (I6 ((i7 + 1)))) rfl) (az (au ?_)))))))
 subst Y3
 exact jB ⟨k6 + 1, i7 + 1, x32⟩ ⟨h.cn _, by omega, hs⟩ (by have := p8 e11; dsimp only; omega)
 rw [fV (hik ▸ e11), fQ] at hs
 refine nE (aa (ah (v := (I6 x5)) rfl) (aa (ae (v := (I6 x5)) rfl) (aa (ae (v := (.bool (true))) rfl) (nR (Jd (v1 := (I6 x5)) (v2 := (.bool (true))) Tryz.results128 rfl rfl ?_)))))
 obtain rfl := fP hs
 exact ⟨h.grown, rfl⟩
theorem mi (w0 : World) (M : BS) (hM : ∀ b, M b → b < w0.heap.size) (a : Str) (b : UInt8) (r : Bool) (hs : hasB a b = r) :
    Calls Tryz.prog 145 #[(aV a), (aV [b])] w0 (fun e w' => Grow w0 w' ∧ e = .returned (.bool r)) := by
  refine (Tryz.strings_Contains_one ⟨a.toArray⟩ b w0).mono ?_
  rintro e w' ⟨rfl, rfl⟩
  subst hs
  exact ⟨aP.refl _ _, by simp [hasB]⟩
def aJ (a : Int) (b : Int) : Bool :=
  (decide ((0 : Int) ≤ a) && decide ((a : Int) < b))
theorem jX (w0 : World) (M : BS) (hM : ∀ b, M b → b < w0.heap.size) (a : Int) (b : Int) (r : Bool) (hs : aJ a b = r) :
    Calls Tryz.prog 55 #[(I6 a), (I6 b)] w0 (fun e w' => Grow w0 w' ∧ e = .returned (.bool r)) := by
 refine aQ (args := [(I6 a), (I6 b)]) Tryz.func55 rfl Tryz.ntmps55 (bF rfl) ?_
 have h := SH.init hM
 refine nG (aa (ae (v := (.bool (false))) rfl) (nJ (aa (ah (v := (I6 a)) rfl) (aa (qV rfl rfl) (aa (ah (v := (.bool (decide ((0 : Int) ≤ a)))) rfl) (aG rfl rfl (fun q => ah (v := (I6 a)) rfl) (aG rfl rfl (fun q => ah (v := (I6 b)) rfl) (aG rfl rfl (fun q => eB (eD q) (eD q)) (aa (gZ rfl rfl nC) (aa (ae (v := (.bool ((decide ((0 : Int) ≤ a) && decide ((a : Int) < b))))) rfl) (nR (dD (v := (.bool ((decide ((0 : Int) ≤ a) && decide ((a : Int) < b))))) Tryz.results55 rfl ?_))))))))))))
 obtain rfl := hs
 exact ⟨h.grown, rfl⟩
def dU (a : Int) : Bool :=
  (aN a (-1000000000) 1000000000)
theorem wC (w0 : World) (M : BS) (hM : ∀ b, M b → b < w0.heap.size) (a : Int) (r : Bool) (hs : dU a = r) :
    Calls Tryz.prog 53 #[(I6 a)] w0 (fun e w' => Grow w0 w' ∧ e = .returned (.bool r)) := by
 refine aQ (args := [(I6 a)]) Tryz.func53 rfl Tryz.ntmps53 (bF rfl) ?_
 have h := SH.init hM
 refine nG (aa (ae (v := (.bool (false))) rfl) (nJ (aa (ah (v := (I6 a)) rfl) (aX uL rfl rfl (fe _ _ h.lt a (-1000000000) 1000000000 _ rfl) ?_))))
 rintro _ w ⟨k1, rfl⟩
 refine ⟨_, rfl, ?_⟩
 replace h := h.grow k1
 refine aa (ae (v := (.bool ((aN a (-1000000000) 1000000000)))) rfl) (nR (dD (v := (.bool ((aN a (-1000000000) 1000000000)))) Tryz.results53 rfl ?_))
 obtain rfl := hs
 exact ⟨h.grown, rfl⟩
def iN (x2 : Bool) : Int :=
  bif (!x2) then 3 else 0
def gJ (a : Tok) (b : List iw) (c : Int) : Int :=
  bif decide ((a.kind : Int) = 1) then iN (dU a.n) else bif decide ((a.kind : Int) = 2) then iN (aJ a.n c) else bif decide ((a.kind : Int) = 3) then iN (aN a.n 1 5) else bif decide ((a.kind : Int) = 4) then iN (aN a.n 0 3) else bif decide ((a.kind : Int) = 5) then iN (aN a.n 1 4) else bif decide ((a.kind : Int) = 6) then bif (!(aJ a.n (b.length : Int))) then 5 else iN true else 4
theorem xz (w0 : World) (M : BS) (hM : ∀ b, M b → b < w0.heap.size) (a : Tok) (vb : Value) (b : List iw) (hb : gy kD w0 BE M vb b) (c : Int) (r : Int) (hs : gJ a b c = r) :
    Calls Tryz.prog 107 #[(.agg #[(I6 a.kind), (I6 a.n)]), vb, (I6 c)] w0 (fun e w' => Grow w0 w' ∧ e = .returned (.int .i64 r)) := by
 refine aQ (args := [(.agg #[(I6 a.kind), (I6 a.n)]), vb, (I6 c)]) Tryz.func107 rfl Tryz.ntmps107 (bF rfl) ?_
 have h := SH.init hM
 replace h := h.gz 1 hb bH
 have NF := hb.bT
 refine nG (mD (cs := [(I6 a.kind), (I6 a.n)]) h 2 rfl rfl fun w b1 h => aa (ae (v := (I6 0)) rfl) (nJ (aa (ae (v := (.bool (false))) rfl) (nN (bX (σ := Bool) (inl (rg 6 38)) (fun x2 => [(7, (.bool (x2)))]) (fun x2 w => SH w0 M BE w (hset []) ∧ iN x2 = r) ?_ ?_)))))
 rintro x2 w dO ⟨h, hs⟩
 refine aM (nG (aa (ah (v := (.bool (x2))) rfl) (aa (gL rfl) (nN (aI hs rfl (fun c3 hs => ?_) (fun c3 hs => ?_))))))
 refine nG (aa (ae (v := (I6 3)) rfl) (nR (ay (dD (v := (I6 3)) Tryz.results107 rfl ?_))))
 obtain rfl := hs
 exact ⟨h.grown, rfl⟩
 refine nS (aa (ae (v := (I6 0)) rfl) (nR (dD (v := (I6 0)) Tryz.results107 rfl ?_)))
 obtain rfl := hs
 exact ⟨h.grown, rfl⟩
 refine nG (aa (ag Iu rfl) (aa (aA h 2 rfl aU rfl rfl) (nN (aO (nG (aa (bz rfl rfl) (aa (ae (v := (.bool (decide ((a.kind : Int) = 1)))) rfl) (nN (aI hs rfl (fun c4 hs => ?_) (fun c4 hs => ?_))))))))))
 refine aC (aa (ag rz rfl) (aa (aA h 2 rfl aU rfl rfl) (aX Ti rfl rfl (wC _ _ h.lt a.n _ rfl) ?_)))
 rintro _ w ⟨k5, rfl⟩
 refine ⟨_, rfl, ?_⟩
 replace h := h.grow k5
 refine aa (ae (v := (.bool ((dU a.n)))) rfl) (az (ax (au ?_)))
 exact bQ (dU a.n) ⟨h.cn _, hs⟩
 refine nG (aa (bz rfl rfl) (aa (ae (v := (.bool (decide ((a.kind : Int) = 2)))) rfl) (nN (aI hs rfl (fun c6 hs => ?_) (fun c6 hs => ?_)))))
 refine aC (aa (ag rz rfl) (aa (aA h 2 rfl aU rfl rfl) (aa (ah (v := (I6 c)) rfl) (aX Gv rfl rfl (jX _ _ h.lt a.n c _ rfl) ?_))))
 rintro _ w ⟨k7, rfl⟩
 refine ⟨_, rfl, ?_⟩
 replace h := h.grow k7
 refine aa (ae (v := (.bool ((aJ a.n c)))) rfl) (az (ax (au ?_)))
 exact bQ (aJ a.n c) ⟨h.cn _, hs⟩
 refine nG (aa (bz rfl rfl) (aa (ae (v := (.bool (decide ((a.kind : Int) = 3)))) rfl) (nN (aI hs rfl (fun c8 hs => ?_) (fun c8 hs => ?_)))))
 refine aC (aa (ag rz rfl) (aa (aA h 2 rfl aU rfl rfl) (aX uL rfl rfl (fe _ _ h.lt a.n 1 5 _ rfl) ?_)))
 rintro _ w ⟨k9, rfl⟩
 refine ⟨_, rfl, ?_⟩
 replace h := h.grow k9
 refine aa (ae (v := (.bool ((aN a.n 1 5)))) rfl) (az (ax (au ?_)))
 exact bQ (aN a.n 1 5) ⟨h.cn _, hs⟩
 refine nG (aa (bz rfl rfl) (aa (ae (v := (.bool (decide ((a.kind : Int) = 4)))) rfl) (nN (aI hs rfl (fun c10 hs => ?_) (fun c10 hs => ?_)))))
 refine aC (aa (ag rz rfl) (aa (aA h 2 rfl aU rfl rfl) (aX uL rfl rfl (fe _ _ h.lt a.n 0 3 _ rfl) ?_)))
 rintro _ w ⟨k11, rfl⟩
 refine ⟨_, rfl, ?_⟩
 replace h := h.grow k11
 refine aa (ae (v := (.bool ((aN a.n 0 3)))) rfl) (az (ax (au ?_)))
 exact bQ (aN a.n 0 3) ⟨h.cn _, hs⟩
 refine nG (aa (bz rfl rfl) (aa (ae (v := (.bool (decide ((a.kind : Int) = 5)))) rfl) (nN (aI hs rfl (fun c12 hs => ?_) (fun c12 hs => ?_)))))
 refine aC (aa (ag rz rfl) (aa (aA h 2 rfl aU rfl rfl) (aX uL rfl rfl (fe _ _ h.lt a.n 1 4 _ rfl) ?_)))
 rintro _ w ⟨k13, rfl⟩
 refine ⟨_, rfl, ?_⟩
 replace h := h.grow k13
 refine aa (ae (v := (.bool ((aN a.n 1 4)))) rfl) (az (ax (au ?_)))
 exact bQ (aN a.n 1 4) ⟨h.cn _, hs⟩
 refine nG (aa (bz rfl rfl) (aa (ae (v := (.bool (decide ((a.kind : Int) = 6)))) rfl) (nN (aI hs rfl (fun c14 hs => ?_) (fun c14 hs => ?_)))))
 refine aM (nG (aa (ag rz rfl) (aa (aA h 2 rfl aU rfl rfl) (aa (ah (v := vb) rfl) (aa (bW jR rfl (h.iV 1 rfl)) (aX Gv rfl rfl (jX _ _ h.lt a.n (b.length : Int) _ rfl) ?_))))))
 rintro _ w ⟨k15, rfl⟩
 refine ⟨_, rfl, ?_⟩
 replace h := h.grow k15
 refine aa (gL rfl) (nN (aI hs rfl (fun c16 hs => ?_) (fun c16 hs => ?_)))
 refine nG (aa (ae (v := (I6 5)) rfl) (nR (ay (aF (ay (dD (v := (I6 5)) Tryz.results107 rfl ?_))))))
 obtain rfl := hs
 exact ⟨h.grown, rfl⟩
 refine aH (ak (aC (aa (ae (v := (.bool (true))) rfl) (az (ax (au ?_))))))
 exact bQ true ⟨h.cn _, hs⟩
 refine nG (aa (ae (v := (I6 4)) rfl) (nR (aF (ay (dD (v := (I6 4)) Tryz.results107 rfl ?_)))))
 obtain rfl := hs
 exact ⟨h.grown, rfl⟩
def vD (a : Tok) (b : List iw) : Option Int :=
  bif decide ((a.kind : Int) = 3) then some 2 else bif decide ((a.kind : Int) = 4) then some 1 else bif decide ((a.kind : Int) = 6) then (idx b a.n).bind fun x5 => some x5.params else some 0
theorem wD (w0 : World) (M : BS) (hM : ∀ b, M b → b < w0.heap.size) (a : Tok) (vb : Value) (b : List iw) (hb : gy kD w0 BE M vb b) (r : Int) (hs : vD a b = some r) :
    Calls Tryz.prog 108 #[(.agg #[(I6 a.kind), (I6 a.n)]), vb] w0 (fun e w' => Grow w0 w' ∧ e = .returned (.int .i64 r)) := by
 refine aQ (args := [(.agg #[(I6 a.kind), (I6 a.n)]), vb]) Tryz.func108 rfl Tryz.ntmps108 (bF rfl) ?_
 have h := SH.init hM
 replace h := h.gz 1 hb bH
 have NF := hb.bT
 refine nG (mD (cs := [(I6 a.kind), (I6 a.n)]) h 2 rfl rfl fun w b1 h => aa (ae (v := (I6 0)) rfl) (nK (aa (ag Iu rfl) (aa (aA h 2 rfl aU rfl rfl) (nN (aO (nG (aa (bz rfl rfl) (aa (ae (v := (.bool (decide ((a.kind : Int) = 3)))) rfl) (nN (aI hs rfl (fun c2 hs => ?_) (fun c2 hs => ?_))))))))))))
 refine nG (aa (ae (v := (I6 2)) rfl) (nR (aF (ay (dD (v := (I6 2)) Tryz.results108 rfl ?_)))))
 obtain rfl := fP hs
 exact ⟨h.grown, rfl⟩
 refine nG (aa (bz rfl rfl) (aa (ae (v := (.bool (decide ((a.kind : Int) = 4)))) rfl) (nN (aI hs rfl (fun c3 hs => ?_) (fun c3 hs => ?_)))))
 refine nG (aa (ae (v := (I6 1)) rfl) (nR (aF (ay (dD (v := (I6 1)) Tryz.results108 rfl ?_)))))
 obtain rfl := fP hs
 exact ⟨h.grown, rfl⟩
 refine nG (aa (bz rfl rfl) (aa (ae (v := (.bool (decide ((a.kind : Int) = 6)))) rfl) (nN (aI hs rfl (fun c4 hs => ?_) (fun c4 hs => ?_)))))
 refine nG (aa (ah (v := vb) rfl) (aa (ag rz rfl) (aa (aA h 2 rfl aU rfl rfl) ?_)))
 obtain ⟨x5, e6, hs⟩ := aK hs
 obtain ⟨b8, o9, cs10, h, r11, i7⟩ := h.zP 1 3 rfl jR rfl (aB e6).1 (aB e6).2
 obtain ⟨u12, rfl, g13⟩ := wK r11
 replace h := h.dA 4 g13.up
 refine aa (i7 _ _ _ _ _ _ _ _ _ rfl rfl) (aa (ag zf rfl) (aa (fq (k := 0) h 3 rfl aU rfl rfl) (aa (ae (v := (I6 x5.params)) rfl) (nR (aF (ay (dD (v := (I6 x5.params)) Tryz.results108 rfl ?_)))))))
 obtain rfl := fP hs
 exact ⟨h.grown, rfl⟩
 refine aH (ax (ak (nG (aa (ae (v := (I6 0)) rfl) (nR (dD (v := (I6 0)) Tryz.results108 rfl ?_))))))
 obtain rfl := fP hs
 exact ⟨h.grown, rfl⟩
def xA (a : List Int) (s : Int × Int) (Y4 : Int × Int → Option Int) : Option Int :=
  match s with | (Ja, oD) => bif decide ((oD : Int) < (a.length : Int)) then (idx a oD).bind fun x25 => ib (jV (oD + 1)) (Y4 ((max Ja x25), (oD + 1))) else some Ja
def slices_Max_int (N : Nat) (a : List Int) : Option Int :=
  bif decide (((a.length : Int) : Int) < 1) then none else (idx a 0).bind fun x2 => again (xA a) N (x2, 1)
theorem Jn (N : Nat) (w0 : World) (M : BS) (hM : ∀ b, M b → b < w0.heap.size) (va : Value) (a : List Int) (ha : gy eP w0 BE M va a) (r : Int) (hs : slices_Max_int N a = some r) :
    Calls Tryz.prog 164 #[va] w0 (fun e w' => Grow w0 w' ∧ e = .returned (.int .i64 r)) := by
 refine aQ (args := [va]) Tryz.func164 rfl Tryz.ntmps164 (bF rfl) ?_
 have h := SH.init hM
 replace h := h.gz 1 ha bH
 have vC := ha.bT
 refine nG (aa (ae (v := (I6 0)) rfl) (nK (aa (ah (v := va) rfl) (aa (bW bV rfl (h.iV 1 rfl)) (aa (eB rfl rfl) (nN (aI hs rfl (fun c1 hs => ?_) (fun c1 hs => ?_))))))))
 cases hs
 refine nS (aa (ah (v := va) rfl) ?_)
 obtain ⟨x2, e3, hs⟩ := aK hs
 obtain ⟨b5, o6, cs7, h, r8, i4⟩ := h.zP 1 2 rfl bV rfl (aB e3).1 (aB e3).2
 obtain rfl := r8
 refine aa (i4 _ _ _ _ _ _ _ _ _ rfl rfl) (aa (fq (k := 0) h 2 rfl aU rfl rfl) (aa (ae (v := (I6 x2)) rfl) (nK (aa (ae (v := (I6 1)) rfl) (nN (aO (gu (σ := Nat × Int × Int) (inl ([3, 4] ++ rg 12 12)) (fun ⟨m20, Ja, oD⟩ => [(3, (I6 Ja)), (4, (I6 oD))]) (fun ⟨m20, Ja, oD⟩ w => SH w0 M BE w (hset [(1, .sr eP va a)]) ∧ again (xA a) m20 (Ja, oD) = some r) (fun ⟨m20, Ja, oD⟩ => m20) ⟨N, x2, 1⟩ ⟨rfl, rfl, trivial⟩ ?_ ?_)))))))
 exact ⟨h.cn _, hs⟩
 rintro ⟨m20, Ja, oD⟩ w dO ⟨h, hs⟩
 obtain ⟨m201, m20e, m20h⟩ := qA hs
 subst m20e
 replace hs := m20h
 generalize Y5 : again (xA a) m201 = Y4 at hs
 refine aM (nG (aa (ah (v := (I6 oD)) rfl) (aa (ah (v := va) rfl) (aa (bW bV rfl (h.iV 1 rfl)) (aa (eB rfl rfl) (nN (aI hs rfl (fun c24 hs => ?_) (fun c24 hs => ?_))))))))
 refine aH (ak (aM (aO (aC (aa (ah (v := (I6 Ja)) rfl) (aa (ah (v := va) rfl) (aa (ah (v := (I6 oD)) rfl) ?_)))))))
 obtain ⟨x25, e26, hs⟩ := aK hs
 obtain ⟨b28, o29, cs30, h, r31, i27⟩ := h.zP 1 3 rfl bV rfl (aB e26).1 (aB e26).2
 obtain rfl := r31
 refine aa (i27 _ _ _ _ _ _ _ _ _ rfl rfl) (aa (fq (k := 0) h 3 rfl aU rfl rfl) (aa (r_max rfl rfl) (aa (ae (v := (I6 ((max Ja x25)))) rfl) (az (ax (ak (aC (aa (ah (v := (I6 oD)) rfl) ?_))))))))
 obtain ⟨a32, hs⟩ := bB hs
 refine aa (dP rfl rfl a32) (aa (ae (v := (I6 ((oD + 1)))) rfl) (az (au ?_)))
 subst Y5
 exact jB ⟨m201, (max Ja x25), (oD + 1)⟩ ⟨h.cn _, hs⟩
 refine nE (aa (ah (v := (I6 Ja)) rfl) (aa (ae (v := (I6 Ja)) rfl) (nR (dD (v := (I6 Ja)) Tryz.results164 rfl ?_))))
 obtain rfl := fP hs
 exact ⟨h.grown, rfl⟩
def oF (x29 : Tok) (b : List iw) (zQ : List Int → Option Int) (x66 : List Int) : Option Int :=
  (vD x29 b).bind fun tY => ib (Room 8 x66 [tY]) (zQ (x66 ++ [tY]))
def oG (vP : List Int) (Md : List Int → Option Int) (i28 : Int) (x29 : Tok) (b : List iw) (zQ : List Int → Option Int) (x57 : Bool) : Option Int :=
  bif x57 then ib (jV ((vP.length : Int) - 1)) ((sub? vP 0 ((vP.length : Int) - 1)).bind fun x60 => Md (vP.take (((vP.length : Int) - 1)).toNat)) else bif (decide ((0 : Int) < i28) && decide (((vP.length : Int) : Int) = 0)) then some 4 else bif decide ((0 : Int) < i28) then ib (jV ((vP.length : Int) - 1)) ((idx vP ((vP.length : Int) - 1)).bind fun x75 => ib (jV (x75 - 1)) (oF x29 b zQ (vP.set (((vP.length : Int) - 1)).toNat (x75 - 1)))) else oF x29 b zQ vP
def oH (i28 : Int) (x29 : Tok) (b : List iw) (zQ : List Int → Option Int) (vP : List Int) (Md : List Int → Option Int) : Option Int :=
  bif decide ((0 : Int) < (vP.length : Int)) then ib (jV ((vP.length : Int) - 1)) ((idx vP ((vP.length : Int) - 1)).bind fun x89 => oG vP Md i28 x29 b zQ (decide ((x89 : Int) = 0))) else oG vP Md i28 x29 b zQ false
def oI (KF : Bool) : Option Int :=
  bif KF then some 4 else some 0
def oJ (N : Nat) (b : List iw) (c : Int) (i28 : Int) (x29 : Tok) (DL : List Int) (zQ : List Int → Option Int) : Option Int :=
  bif decide (((gJ x29 b c) : Int) ≠ 0) then some (gJ x29 b c) else again (oH i28 x29 b zQ) N DL
def oK (N : Nat) (a : List Tok) (DL : List Int) : Option Int :=
  bif decide (((a.length : Int) : Int) = 0) then oI true else ib (Room 8 [0] DL) ((slices_Max_int N ([0] ++ DL)).bind fun zh => oI (decide ((0 : Int) < zh)))
def oL (x4 : iw) (s : Unit) (Jo : Unit → Option Int) : Option Int :=
  bif (!(aN x4.params 0 3)) then some 3 else Jo ()
def oM (N : Nat) (b : List iw) (c : Int) (a : List Tok) (s : Unit) : Option Int :=
  dW (oJ N b c) (oK N a) 0 a []
def uh (N : Nat) (a : List Tok) (b : List iw) (c : Int) : Option Int :=
  bif decide ((24 : Int) < (a.length : Int)) then some 2 else each oL (oM N b c a) b ()
theorem wO (N : Nat) (w0 : World) (M : BS) (hM : ∀ b, M b → b < w0.heap.size) (va : Value) (a : List Tok) (ha : gy nO w0 BE M va a) (vb : Value) (b : List iw) (hb : gy kD w0 BE M vb b) (c : Int) (r : Int) (hs : uh N a b c = some r) :
    Calls Tryz.prog 146 #[va, vb, (I6 c)] w0 (fun e w' => Grow w0 w' ∧ e = .returned (.int .i64 r)) := by
 refine aQ (args := [va, vb, (I6 c)]) Tryz.func146 rfl Tryz.ntmps146 (bF rfl) ?_
 have h := SH.init hM
 replace h := h.gz 1 ha bH
 replace h := h.gz 2 hb (dL bH)
 have vC := ha.bT
 have NF := hb.bT
 refine nG (aa (ae (v := (I6 0)) rfl) (nK (aa (ah (v := va) rfl) (aa (bW nz rfl (h.iV 1 rfl)) (aa (lT rfl rfl) (nN (aI hs rfl (fun c1 hs => ?_) (fun c1 hs => ?_))))))))
 refine nG (aa (ae (v := (I6 2)) rfl) (nR (ay (dD (v := (I6 2)) Tryz.results146 rfl ?_))))
 obtain rfl := fP hs
 exact ⟨h.grown, rfl⟩
 refine aH (ak (aM (nG (aa (ah (v := vb) rfl) (aa (bW jR rfl (h.iV 2 rfl)) (aa (ah (v := (I6 0)) rfl) (nN (aO (gu (σ := Nat × Int) (inl ([6, 8] ++ rg 18 9)) (fun ⟨k2, i3⟩ => [(18, (I6 i3))]) (fun ⟨k2, i3⟩ w => SH w0 M BE w (hset [(1, .sr nO va a), (2, .sr kD vb b)]) ∧ i3 = (k2 : Int) ∧ each oL (oM N b c a) (b.drop k2) () = some r) (fun ⟨k2, i3⟩ => b.length - k2) ⟨0, 0⟩ ⟨rfl, trivial⟩ ?_ ?_)))))))))
 exact ⟨h.cn _, rfl, hs⟩
 rintro ⟨k2, i3⟩ w dO ⟨h, hik, hs⟩
 refine nG ?_
 refine aa (eB rfl rfl) (nN ?_)
 refine aM (gK rfl (fun e7 => ?_) (fun e7 => ?_))
 refine aH (ak ?_)
 obtain ⟨x4, e8a, e8b⟩ := fU (hik ▸ e7)
 rw [e8b, dV] at hs
 generalize Me : each oL (oM N b c a) (b.drop (k2 + 1)) = Jo at hs
 have Y6 := gm ((h.iV 2 rfl)).bT hik e7
 refine aM (aO (nG ?_))
 obtain ⟨b10, o11, cs12, h, r13, i9⟩ := h.zP 2 3 rfl jR rfl (iI hik) (fZ hik e8a)
 obtain ⟨V4, rfl, g15⟩ := wK r13
 replace h := h.dA 4 g15.up
 refine aa (i9 _ _ _ _ _ _ _ _ _ rfl rfl) (aa (jo (k := 0) (vs := [(I6 x4.params), (I6 x4.locals), V4]) h 3 rfl pU rfl rfl rfl (bF rfl)) (bP h 5 pU fun w b16 h => dH (vs := [(I6 x4.params), (I6 x4.locals), V4]) h 5 [(I6 x4.params), (I6 x4.locals), V4] rfl pU rfl rfl rfl rfl rfl (ai rfl (ai rfl (ai (h.iD 4 rfl).one aS))) fun w h => nJ (aa (ag zf rfl) (aa (aA h 5 rfl aU rfl rfl) (aX uL rfl rfl (fe _ _ h.lt x4.params 0 3 _ rfl) ?_)))))
 rintro _ w ⟨k17, rfl⟩
 refine ⟨_, rfl, ?_⟩
 replace h := h.grow k17
 refine aa (gL rfl) (nN (aI hs rfl (fun c18 hs => ?_) (fun c18 hs => ?_)))
 refine nG (aa (ae (v := (I6 3)) rfl) (nR (aF (ay (ay (aF (ay (dD (v := (I6 3)) Tryz.results146 rfl ?_))))))))
 obtain rfl := fP hs
 exact ⟨h.grown, rfl⟩
 refine aH (ax (ak (aC (aa (dP rfl rfl Y6) (aa (ah (v := (I6 ((i3 + 1)))) rfl) (az (au ?_)))))))
 subst Me
 exact jB ⟨k2 + 1, i3 + 1⟩ ⟨h.cn _, by omega, hs⟩ (by have := p8 e7; dsimp only; omega)
 rw [fV (hik ▸ e7), fQ] at hs
 refine nE (aa (ae (v := (.slice none 0 0)) rfl) (nK (aa (ah (v := va) rfl) (aa (bW nz rfl (h.iV 1 rfl)) (aa (ah (v := (I6 0)) rfl) (nN (aO ?_)))))))
 replace h := h.yj (R := eP) (E := 3) 9
 refine gu (σ := Nat × Int × Value × List Int) (inl ([6, 9, 10, 11, 12] ++ rg 29 53)) (fun ⟨k27, i28, v25, DL⟩ => [(9, v25), (29, (I6 i28))]) (fun ⟨k27, i28, v25, DL⟩ w => SH w0 M BE w (hset [(1, .sr nO va a), (2, .sr kD vb b), (9, .own eP 3 v25 DL)]) ∧ i28 = (k27 : Int) ∧ dW (oJ N b c) (oK N a) i28 (a.drop k27) DL = some r) (fun ⟨k27, i28, v25, DL⟩ => a.length - k27) ⟨0, 0, (.slice none 0 0), []⟩ ⟨rfl, rfl, trivial⟩ ?_ ?_
 exact ⟨h.cn _, rfl, hs⟩
 rintro ⟨k27, i28, v25, DL⟩ w dO ⟨h, hik, hs⟩
 refine nG ?_
 refine aa (eB rfl rfl) (nN ?_)
 refine aM (gK rfl (fun e32 => ?_) (fun e32 => ?_))
 refine aH (ak ?_)
 obtain ⟨x29, e33a, e33b⟩ := fU (hik ▸ e32)
 rw [e33b, ja] at hs
 generalize Y7 : dW (oJ N b c) (oK N a) (i28 + 1) (a.drop (k27 + 1)) = zQ at hs
 have e33r := gm ((h.iV 1 rfl)).bT hik e32
 refine aM (aO (nG (aa (ah (v := (I6 i28)) rfl) ?_)))
 obtain ⟨b35, o36, cs37, h, r38, i34⟩ := h.zP 1 10 rfl nz rfl (iI hik) (fZ hik e33a)
 obtain rfl := r38
 refine aa (i34 _ _ _ _ _ _ _ _ _ rfl rfl) (aa (jo (k := 0) (vs := [(I6 x29.kind), (I6 x29.n)]) h 10 rfl mX rfl rfl rfl (bF rfl)) (bP h 11 mX fun w b39 h => aa (ae (v := (I6 i28)) rfl) (dH (vs := [(I6 x29.kind), (I6 x29.n)]) h 11 [(I6 x29.kind), (I6 x29.n)] rfl mX rfl rfl rfl rfl rfl (ai rfl (ai rfl aS)) fun w h => nK (aa (dK (vs := [(I6 x29.kind), (I6 x29.n)]) h 11 rfl mX rfl rfl rfl) (aa (ah (v := vb) rfl) (aa (ah (v := (I6 c)) rfl) (aX Vb rfl rfl (xz _ _ h.lt x29 vb b (h.iV 2 rfl) c _ rfl) ?_)))))))
 rintro _ w ⟨k40, rfl⟩
 refine ⟨_, rfl, ?_⟩
 replace h := h.grow k40
 refine aa (ae (v := (I6 ((gJ x29 b c)))) rfl) (nJ (aa (ah (v := (I6 ((gJ x29 b c)))) rfl) (aa (iA rfl rfl) (nN (aI hs rfl (fun c41 hs => ?_) (fun c41 hs => ?_))))))
 refine nG (aa (ah (v := (I6 ((gJ x29 b c)))) rfl) (aa (ae (v := (I6 ((gJ x29 b c)))) rfl) (nR (ay (aF (ay (ay (aF (ay (dD (v := (I6 ((gJ x29 b c)))) Tryz.results146 rfl ?_))))))))))
 obtain rfl := fP hs
 exact ⟨h.grown, rfl⟩
 refine aH (ak (aM (aO (gu (σ := Nat × Value × List Int) (inl ([9] ++ rg 41 17)) (fun ⟨m53, v48, vP⟩ => [(9, v48)]) (fun ⟨m53, v48, vP⟩ w => SH w0 M BE w (hset [(1, .sr nO va a), (2, .sr kD vb b), (9, .own eP 3 v48 vP), (11, .blk b39 [(I6 x29.kind), (I6 x29.n)])]) ∧ again (oH i28 x29 b zQ) m53 vP = some r) (fun ⟨m53, v48, vP⟩ => m53) ⟨N, v25, DL⟩ ⟨rfl, trivial⟩ ?_ ?_))))
 exact ⟨h.cn _, hs⟩
 rintro ⟨m53, v48, vP⟩ w dO ⟨h, hs⟩
 obtain ⟨m531, m53e, m53h⟩ := qA hs
 subst m53e
 replace hs := m53h
 generalize Y8 : again (oH i28 x29 b zQ) m531 = Md at hs
 refine aM (bX (σ := Bool) (inl (rg 41 12)) (fun x57 => [(52, (.bool (x57)))]) (fun x57 w => SH w0 M BE w (hset [(1, .sr nO va a), (2, .sr kD vb b), (9, .own eP 3 v48 vP), (11, .blk b39 [(I6 x29.kind), (I6 x29.n)])]) ∧ oG vP Md i28 x29 b zQ x57 = some r) ?_ ?_)
 rintro x57 w dO ⟨h, hs⟩
 refine aI hs rfl (fun c58 hs => ?_) (fun c58 hs => ?_)
 refine aH (ak (aO (aC (aa (ah (v := v48) rfl) (aa (ah (v := v48) rfl) (aa (bW bV rfl (h.eG 9 rfl)) ?_))))))
 obtain ⟨a59, hs⟩ := bB hs
 refine aa (mV rfl rfl a59) ?_
 obtain ⟨x60, e61, hs⟩ := aK hs
 obtain ⟨e64, e64a, e64b, e64c⟩ := UR e61
 obtain ⟨u62, h, i63⟩ := h.cutO 9 rfl bV rfl e64b e64c
 refine aa (i63 _ _ _ _ _ _ _ _ _ _ rfl (.inl ⟨rfl, rfl⟩) (.inr (congrArg some rfl))) (aa (ae (v := u62) rfl) (az (ax (au ?_))))
 subst Y8
 exact jB ⟨m531, u62, (vP.take (((vP.length : Int) - 1)).toNat)⟩ ⟨h.cn _, hs⟩
 refine iL (bI (bI (eH (ak (aM (nG (aa (ah (v := (I6 i28)) rfl) (aa (lT rfl rfl) (aa (ah (v := (.bool (decide ((0 : Int) < i28)))) rfl) (aG rfl rfl (fun q => ah (v := v48) rfl) (aG rfl rfl (fun q => bW bV (eD q) (h.eG 9 rfl)) (aG rfl rfl (fun q => bz (eD q) rfl) (aa (gZ rfl rfl nC) (nN (aI hs rfl (fun Al hs => ?_) (fun Al hs => ?_))))))))))))))))
 refine nG (aa (ae (v := (I6 4)) rfl) (nR (ay (aF (ay (ay (aF (ay (dD (v := (I6 4)) Tryz.results146 rfl ?_)))))))))
 obtain rfl := fP hs
 exact ⟨h.grown, rfl⟩
 refine aH (ak (bX (σ := List Int) (inl (rg 65 10)) (fun x66 => []) (fun x66 w => SH w0 M BE w (hset [(1, .sr nO va a), (2, .sr kD vb b), (9, .own eP 3 v48 x66), (11, .blk b39 [(I6 x29.kind), (I6 x29.n)])]) ∧ oF x29 b zQ x66 = some r) ?_ ?_))
 rintro x66 w dO ⟨h, hs⟩
 refine aC (aa (ah (v := v48) rfl) (aa (dK (vs := [(I6 x29.kind), (I6 x29.n)]) h 11 rfl mX rfl rfl rfl) (aa (ah (v := vb) rfl) ?_)))
 obtain ⟨tY, e68, hs⟩ := aK hs
 refine aX PR rfl rfl (wD _ _ h.lt x29 vb b (h.iV 2 rfl) _ e68) ?_
 rintro _ w ⟨k69, rfl⟩
 refine ⟨_, rfl, ?_⟩
 replace h := h.grow k69
 refine tL (R := eP) (vs := [(I6 tY)]) (xs := [tY]) h 13 jC rfl rfl rfl ⟨rfl, trivial⟩ rfl fun w u70 h => ?_
 obtain ⟨a71, hs⟩ := bB hs
 refine lV (R := eP) (m := [tY]) h 9 rfl (h.eG 13 rfl) jC rfl rfl rfl a71.1 a71.2 fun w u72 h => aa (ae (v := u72) rfl) (az (ax (ak (aC (aa (dP rfl rfl e33r) (aa (ah (v := (I6 ((i28 + 1)))) rfl) (az (au ?_))))))))
 subst Y7
 exact jB ⟨k27 + 1, i28 + 1, u72, (x66 ++ [tY])⟩ ⟨h.cn _, by omega, hs⟩ (by have := p8 e32; dsimp only; omega)
 refine nG (aa (ah (v := (I6 i28)) rfl) (aa (lT rfl rfl) (nN (aI hs rfl (fun c73 hs => ?_) (fun c73 hs => ?_)))))
 refine aC (aa (ah (v := v48) rfl) (aa (ah (v := v48) rfl) (aa (bW bV rfl (h.eG 9 rfl)) ?_)))
 obtain ⟨a74, hs⟩ := bB hs
 refine aa (mV rfl rfl a74) ?_
 obtain ⟨x75, e76, hs⟩ := aK hs
 obtain ⟨b78, q79, i77⟩ := h.qY 9 rfl bV rfl (aB e76).1 (aB e76).2
 refine aa (i77 _ _ _ _ _ _ _ _ _ rfl rfl) ?_
 obtain ⟨cs80, m81, r82⟩ := h.uF 9 rfl q79 (aB e76).2
 obtain rfl := r82
 refine aa (kH (k := 0) m81 aU rfl rfl) ?_
 obtain ⟨a83, hs⟩ := bB hs
 refine aa (mV rfl rfl a83) ?_
 obtain ⟨Mf, q86, i84⟩ := h.qY 9 rfl bV rfl (aB e76).1 (aB e76).2
 refine aa (i84 _ _ _ _ _ _ _ _ _ rfl rfl) (Ii (off := 0) (a' := (x75 - 1)) h 9 rfl q86 rfl (aB e76).2 aU rfl rfl rfl rfl (fun cs hq => set1 rfl hq rfl rfl) fun w h => az (au ?_))
 exact bQ (vP.set (((vP.length : Int) - 1)).toNat (x75 - 1)) ⟨h.cn _, hs⟩
 refine aH (au ?_)
 exact bQ vP ⟨h.cn _, hs⟩
 refine aC (aa (ah (v := v48) rfl) (aa (bW bV rfl (h.eG 9 rfl)) (aa (lT rfl rfl) (aa (ah (v := (.bool (decide ((0 : Int) < (vP.length : Int))))) rfl) (kT (b := decide ((0 : Int) < (vP.length : Int))) hs (fun c87 hs => ?_) (fun c87 hs => ?_))))))
 refine eT rfl (cB c87) (aa (ah (v := v48) rfl) (eT rfl (cB c87) (aa (ah (v := v48) rfl) (eT rfl (cB c87) (aa (bW bV rfl (h.eG 9 rfl)) (eT rfl (cB c87) ?_))))))
 obtain ⟨a88, hs⟩ := bB hs
 refine aa (mV rfl rfl a88) (eT rfl (cB c87) ?_)
 obtain ⟨x89, e90, hs⟩ := aK hs
 obtain ⟨b92, q93, i91⟩ := h.qY 9 rfl bV rfl (aB e90).1 (aB e90).2
 refine aa (i91 _ _ _ _ _ _ _ _ _ rfl rfl) (eT rfl (cB c87) ?_)
 obtain ⟨cs94, m95, r96⟩ := h.uF 9 rfl q93 (aB e90).2
 obtain rfl := r96
 refine aa (kH (k := 0) m95 aU rfl rfl) (eT rfl (cB c87) (aa (bz rfl rfl) (aa (fB (b := true) (v := (.bool (decide ((x89 : Int) = 0)))) (cB c87) rfl) (az (au ?_)))))
 exact bQ (decide ((x89 : Int) = 0)) ⟨h.cn _, hs⟩
 refine vT rfl (cB c87) rfl (vT rfl (cB c87) rfl (vT rfl (cB c87) rfl (vT rfl (cB c87) rfl (vT rfl (cB c87) rfl (vT rfl (cB c87) rfl (vT rfl (cB c87) rfl (aa (fB (b := false) (v := (.bool (false))) (cB c87) rfl) (az (au ?_)))))))))
 exact bQ false ⟨h.cn _, hs⟩
 rw [fV (hik ▸ e32), mh] at hs
 refine iL (bI (bI (eH (ak (aM (bX (σ := Bool) (inl (rg 82 10)) (fun KF => [(91, (.bool (KF)))]) (fun KF w => SH w0 M BE w (hset []) ∧ oI KF = some r) ?_ ?_))))))
 rintro KF w dO ⟨h, hs⟩
 refine aI hs rfl (fun c98 hs => ?_) (fun c98 hs => ?_)
 refine nG (aa (ae (v := (I6 4)) rfl) (nR (ay (dD (v := (I6 4)) Tryz.results146 rfl ?_))))
 obtain rfl := fP hs
 exact ⟨h.grown, rfl⟩
 refine nS (aa (ae (v := (I6 0)) rfl) (nR (dD (v := (I6 0)) Tryz.results146 rfl ?_)))
 obtain rfl := fP hs
 exact ⟨h.grown, rfl⟩
 refine aC (aa (ah (v := va) rfl) (aa (bW nz rfl (h.iV 1 rfl)) (aa (bz rfl rfl) (aa (ah (v := (.bool (decide (((a.length : Int) : Int) = 0)))) rfl) (kT (b := decide (((a.length : Int) : Int) = 0)) hs (fun V5 hs => ?_) (fun V5 hs => ?_))))))
 refine X3 rfl (cB V5) rfl (X3 rfl (cB V5) rfl (X3 rfl (cB V5) rfl (X3 rfl (cB V5) rfl (X3 rfl (cB V5) rfl (aa (fB (b := true) (v := (.bool (true))) (cB V5) rfl) (az (au ?_)))))))
 exact bQ true ⟨h.cn _, hs⟩
 refine eT rfl (cB V5) (tL (R := eP) (vs := [(I6 0)]) (xs := [0]) h 14 jC rfl rfl rfl ⟨rfl, trivial⟩ rfl fun w u100 h => eT rfl (cB V5) (aa (ah (v := v25) rfl) (eT rfl (cB V5) ?_)))
 obtain ⟨V6, hs⟩ := bB hs
 refine lV (R := eP) (m := DL) h 14 rfl (h.eG 9 rfl) jC rfl rfl rfl V6.1 V6.2 fun w u102 h => eT rfl (cB V5) ?_
 obtain ⟨zh, e104, hs⟩ := aK hs
 refine aX fnOk164 rfl rfl (Jn N _ _ h.lt u102 ([0] ++ DL) (h.eG 14 rfl) _ e104) ?_
 rintro _ w ⟨k105, rfl⟩
 refine ⟨_, rfl, ?_⟩
 replace h := h.grow k105
 refine eT rfl (cB V5) (aa (lT rfl rfl) (aa (fB (b := false) (v := (.bool (decide ((0 : Int) < zh)))) (cB V5) rfl) (az (au ?_))))
 exact bQ (decide ((0 : Int) < zh)) ⟨h.cn _, hs⟩
def bK (mU : Str) : Bool :=
  (hasB mU 78)
theorem zi (w0 : World) (M : BS) (hM : ∀ b, M b → b < w0.heap.size) (mU : Str) (q0 : Nat) (hq0 : ∃ E, w0.heap[q0]? = some (.cells #[(aV mU)] E (0, 0))) (r : Bool) (hs : bK mU = r) :
    Calls Tryz.prog 144 #[(aV [78]), (.pointer (some ⟨q0, 0, none⟩))] w0 (fun e w' => Grow w0 w' ∧ e = .returned (.bool r)) := by
 refine aQ (args := [(aV [78]), (.pointer (some ⟨q0, 0, none⟩))]) Tryz.func144 rfl Tryz.ntmps144 (bF rfl) ?_
 have h := SH.init hM
 replace h := h.LF 1 (cs := [(aV mU)]) hq0 bH
 refine nG (aa (ae (v := (.bool (false))) rfl) (nJ (aa (fq (k := 0) h 1 rfl Cy rfl rfl) (aa (ah (v := (aV [78])) rfl) (aX FJ rfl rfl (mi _ _ h.lt mU 78 _ rfl) ?_)))))
 rintro _ w ⟨k1, rfl⟩
 refine ⟨_, rfl, ?_⟩
 replace h := h.grow k1
 refine aa (ae (v := (.bool ((hasB mU 78)))) rfl) (nR (dD (v := (.bool ((hasB mU 78)))) Tryz.results144 rfl ?_))
 obtain rfl := hs
 exact ⟨h.grown, rfl⟩
def dw (mU : Str) : Bool :=
  (hasB mU 69)
theorem zk (w0 : World) (M : BS) (hM : ∀ b, M b → b < w0.heap.size) (mU : Str) (q0 : Nat) (hq0 : ∃ E, w0.heap[q0]? = some (.cells #[(aV mU)] E (0, 0))) (r : Bool) (hs : dw mU = r) :
    Calls Tryz.prog 144 #[(aV [69]), (.pointer (some ⟨q0, 0, none⟩))] w0 (fun e w' => Grow w0 w' ∧ e = .returned (.bool r)) := by
 refine aQ (args := [(aV [69]), (.pointer (some ⟨q0, 0, none⟩))]) Tryz.func144 rfl Tryz.ntmps144 (bF rfl) ?_
 have h := SH.init hM
 replace h := h.LF 1 (cs := [(aV mU)]) hq0 bH
 refine nG (aa (ae (v := (.bool (false))) rfl) (nJ (aa (fq (k := 0) h 1 rfl Cy rfl rfl) (aa (ah (v := (aV [69])) rfl) (aX FJ rfl rfl (mi _ _ h.lt mU 69 _ rfl) ?_)))))
 rintro _ w ⟨k1, rfl⟩
 refine ⟨_, rfl, ?_⟩
 replace h := h.grow k1
 refine aa (ae (v := (.bool ((hasB mU 69)))) rfl) (nR (dD (v := (.bool ((hasB mU 69)))) Tryz.results144 rfl ?_))
 obtain rfl := hs
 exact ⟨h.grown, rfl⟩
def dX (mU : Str) : Bool :=
  (hasB mU 70)
theorem rX (w0 : World) (M : BS) (hM : ∀ b, M b → b < w0.heap.size) (mU : Str) (q0 : Nat) (hq0 : ∃ E, w0.heap[q0]? = some (.cells #[(aV mU)] E (0, 0))) (r : Bool) (hs : dX mU = r) :
    Calls Tryz.prog 144 #[(aV [70]), (.pointer (some ⟨q0, 0, none⟩))] w0 (fun e w' => Grow w0 w' ∧ e = .returned (.bool r)) := by
 refine aQ (args := [(aV [70]), (.pointer (some ⟨q0, 0, none⟩))]) Tryz.func144 rfl Tryz.ntmps144 (bF rfl) ?_
 have h := SH.init hM
 replace h := h.LF 1 (cs := [(aV mU)]) hq0 bH
 refine nG (aa (ae (v := (.bool (false))) rfl) (nJ (aa (fq (k := 0) h 1 rfl Cy rfl rfl) (aa (ah (v := (aV [70])) rfl) (aX FJ rfl rfl (mi _ _ h.lt mU 70 _ rfl) ?_)))))
 rintro _ w ⟨k1, rfl⟩
 refine ⟨_, rfl, ?_⟩
 replace h := h.grow k1
 refine aa (ae (v := (.bool ((hasB mU 70)))) rfl) (nR (dD (v := (.bool ((hasB mU 70)))) Tryz.results144 rfl ?_))
 obtain rfl := hs
 exact ⟨h.grown, rfl⟩
def iG (mU : Str) : Bool :=
  (hasB mU 65)
theorem zl (w0 : World) (M : BS) (hM : ∀ b, M b → b < w0.heap.size) (mU : Str) (q0 : Nat) (hq0 : ∃ E, w0.heap[q0]? = some (.cells #[(aV mU)] E (0, 0))) (r : Bool) (hs : iG mU = r) :
    Calls Tryz.prog 144 #[(aV [65]), (.pointer (some ⟨q0, 0, none⟩))] w0 (fun e w' => Grow w0 w' ∧ e = .returned (.bool r)) := by
 refine aQ (args := [(aV [65]), (.pointer (some ⟨q0, 0, none⟩))]) Tryz.func144 rfl Tryz.ntmps144 (bF rfl) ?_
 have h := SH.init hM
 replace h := h.LF 1 (cs := [(aV mU)]) hq0 bH
 refine nG (aa (ae (v := (.bool (false))) rfl) (nJ (aa (fq (k := 0) h 1 rfl Cy rfl rfl) (aa (ah (v := (aV [65])) rfl) (aX FJ rfl rfl (mi _ _ h.lt mU 65 _ rfl) ?_)))))
 rintro _ w ⟨k1, rfl⟩
 refine ⟨_, rfl, ?_⟩
 replace h := h.grow k1
 refine aa (ae (v := (.bool ((hasB mU 65)))) rfl) (nR (dD (v := (.bool ((hasB mU 65)))) Tryz.results144 rfl ?_))
 obtain rfl := hs
 exact ⟨h.grown, rfl⟩
def uu (mU : Str) : Bool :=
  (hasB mU 66)
theorem zm (w0 : World) (M : BS) (hM : ∀ b, M b → b < w0.heap.size) (mU : Str) (q0 : Nat) (hq0 : ∃ E, w0.heap[q0]? = some (.cells #[(aV mU)] E (0, 0))) (r : Bool) (hs : uu mU = r) :
    Calls Tryz.prog 144 #[(aV [66]), (.pointer (some ⟨q0, 0, none⟩))] w0 (fun e w' => Grow w0 w' ∧ e = .returned (.bool r)) := by
 refine aQ (args := [(aV [66]), (.pointer (some ⟨q0, 0, none⟩))]) Tryz.func144 rfl Tryz.ntmps144 (bF rfl) ?_
 have h := SH.init hM
 replace h := h.LF 1 (cs := [(aV mU)]) hq0 bH
 refine nG (aa (ae (v := (.bool (false))) rfl) (nJ (aa (fq (k := 0) h 1 rfl Cy rfl rfl) (aa (ah (v := (aV [66])) rfl) (aX FJ rfl rfl (mi _ _ h.lt mU 66 _ rfl) ?_)))))
 rintro _ w ⟨k1, rfl⟩
 refine ⟨_, rfl, ?_⟩
 replace h := h.grow k1
 refine aa (ae (v := (.bool ((hasB mU 66)))) rfl) (nR (dD (v := (.bool ((hasB mU 66)))) Tryz.results144 rfl ?_))
 obtain rfl := hs
 exact ⟨h.grown, rfl⟩
def oN (KG : Unit → Option Int) (iU : Int) : Option Int :=
  bif decide ((iU : Int) ≠ 0) then some iU else KG ()
def oO (F0 : List bR → List iw → Int → Option Int) (x3 : bR) (b : List iw) (c : Int) (KG : Unit → Option Int) (Ci : Int) : Option Int :=
  bif decide ((Ci : Int) = 0) then (F0 x3.b b c).bind fun y39 => oN KG y39 else oN KG Ci
def oP (F0 : List bR → List iw → Int → Option Int) (x3 : bR) (a : List bR) (b : List iw) (c : Int) (KG : Unit → Option Int) (x34 : Int) : Option Int :=
  bif decide ((x34 : Int) = 0) then (F0 x3.a b c).bind fun DN => oO F0 x3 b c KG DN else oO F0 x3 b c KG x34
def oQ (N : Nat) (F0 : List bR → List iw → Int → Option Int) (x3 : bR) (b : List iw) (c : Int) (a : List bR) (KG : Unit → Option Int) (CE : Int) : Option Int :=
  bif (decide ((CE : Int) = 0) && (dX ((lk x3.kind ([(1, [78, 69]), (2, [78, 69, 70]), (3, [69]), (4, []), (5, [69]), (6, [69, 65, 66]), (7, [69, 65]), (8, [69])] : List (Int × Str))).getD []))) then (uh N x3.f b c).bind fun rY => oP F0 x3 a b c KG rY else oP F0 x3 a b c KG CE
def oU (N : Nat) (F0 : List bR → List iw → Int → Option Int) (a : List bR) (b : List iw) (c : Int) (x3 : bR) (s : Unit) (KG : Unit → Option Int) : Option Int :=
  bif ((((((!(lk x3.kind ([(1, [78, 69]), (2, [78, 69, 70]), (3, [69]), (4, []), (5, [69]), (6, [69, 65, 66]), (7, [69, 65]), (8, [69])] : List (Int × Str))).isSome) || (decide ((x3.n : Int) ≠ 0) && (!(bK ((lk x3.kind ([(1, [78, 69]), (2, [78, 69, 70]), (3, [69]), (4, []), (5, [69]), (6, [69, 65, 66]), (7, [69, 65]), (8, [69])] : List (Int × Str))).getD []))))) || (decide ((0 : Int) < (x3.e.length : Int)) && (!(dw ((lk x3.kind ([(1, [78, 69]), (2, [78, 69, 70]), (3, [69]), (4, []), (5, [69]), (6, [69, 65, 66]), (7, [69, 65]), (8, [69])] : List (Int × Str))).getD []))))) || (decide ((0 : Int) < (x3.f.length : Int)) && (!(dX ((lk x3.kind ([(1, [78, 69]), (2, [78, 69, 70]), (3, [69]), (4, []), (5, [69]), (6, [69, 65, 66]), (7, [69, 65]), (8, [69])] : List (Int × Str))).getD []))))) || (decide ((0 : Int) < (x3.a.length : Int)) && (!(iG ((lk x3.kind ([(1, [78, 69]), (2, [78, 69, 70]), (3, [69]), (4, []), (5, [69]), (6, [69, 65, 66]), (7, [69, 65]), (8, [69])] : List (Int × Str))).getD []))))) || (decide ((0 : Int) < (x3.b.length : Int)) && (!(uu ((lk x3.kind ([(1, [78, 69]), (2, [78, 69, 70]), (3, [69]), (4, []), (5, [69]), (6, [69, 65, 66]), (7, [69, 65]), (8, [69])] : List (Int × Str))).getD []))))) then some 4 else bif ((decide ((x3.kind : Int) = 1) && (!(aJ x3.n c))) || (decide ((x3.kind : Int) = 2) && (!(aN x3.n 0 3)))) then some 3 else bif (hasB ((lk x3.kind ([(1, [78, 69]), (2, [78, 69, 70]), (3, [69]), (4, []), (5, [69]), (6, [69, 65, 66]), (7, [69, 65]), (8, [69])] : List (Int × Str))).getD []) 69) then (uh N x3.e b c).bind fun xc => oQ N F0 x3 b c a KG xc else oQ N F0 x3 b c a KG 0
def oV (s : Unit) : Option Int :=
  some 0
def vX (N : Nat) (F0 : List bR → List iw → Int → Option Int) (a : List bR) (b : List iw) (c : Int) : Option Int :=
  each (oU N F0 a b c) oV a ()
def lu : Nat → List bR → List iw → Int → Option Int
  | 0 => fun _ _ _ => none
  | N + 1 => vX N (lu N)
theorem BU : ∀ (N : Nat) (w0 : World) (M : BS) (hM : ∀ b, M b → b < w0.heap.size) (va : Value) (a : List bR) (ha : gy gM w0 BE M va a) (vb : Value) (b : List iw) (hb : gy kD w0 BE M vb b) (c : Int) (r : Int) (hs : lu N a b c = some r),
    Calls Tryz.prog 129 #[va, vb, (I6 c)] w0 (fun e w' => Grow w0 w' ∧ e = .returned (.int .i64 r)) := by
 intro N
 induction N with
 | zero => intro w0 M hM va a ha vb b hb c r hs; cases hs
 | succ N ih =>
 intro w0 M hM va a ha vb b hb c r hs
 replace hs : vX N (lu N) a b c = some r := hs
 generalize lu N = F0 at hs ih
 refine aQ (args := [va, vb, (I6 c)]) Tryz.func129 rfl Tryz.ntmps129 (bF rfl) ?_
 have h := SH.init hM
 replace h := h.gz 1 ha bH
 replace h := h.gz 2 hb (dL bH)
 have vC := ha.bT
 have NF := hb.bT
 refine nG (aa (ae (v := (I6 0)) rfl) (nK (aa (ah (v := va) rfl) (aa (bW oC rfl (h.iV 1 rfl)) (aa (ah (v := (I6 0)) rfl) (nN (aO (gu (σ := Nat × Int) (inl ([6, 8, 9, 10, 11, 12] ++ rg 15 126)) (fun ⟨k1, i2⟩ => [(15, (I6 i2))]) (fun ⟨k1, i2⟩ w => SH w0 M BE w (hset [(1, .sr gM va a), (2, .sr kD vb b)]) ∧ i2 = (k1 : Int) ∧ each (oU N F0 a b c) oV (a.drop k1) () = some r) (fun ⟨k1, i2⟩ => a.length - k1) ⟨0, 0⟩ ⟨rfl, trivial⟩ ?_ ?_))))))))
 exact ⟨h.cn _, rfl, hs⟩
 rintro ⟨k1, i2⟩ w dO ⟨h, hik, hs⟩
 refine nG ?_
 refine aa (eB rfl rfl) (nN ?_)
 refine aM (gK rfl (fun e6 => ?_) (fun e6 => ?_))
 refine aH (ak ?_)
 obtain ⟨x3, e7a, e7b⟩ := fU (hik ▸ e6)
 rw [e7b, dV] at hs
 generalize Y9 : each (oU N F0 a b c) oV (a.drop (k1 + 1)) = KG at hs
 have e7r := gm ((h.iV 1 rfl)).bT hik e6
 refine aM (aO (nG ?_))
 obtain ⟨b9, o10, cs11, h, r12, i8⟩ := h.zP 1 3 rfl oC rfl (iI hik) (fZ hik e7a)
 obtain ⟨Mg, Jb, QB, Q5, rfl, g14, g16, g18, g20⟩ := Dy r12
 replace h := h.dA 4 g14.up
 replace h := h.dA 5 g16.up.up
 replace h := h.dA 6 g18.up.up.up
 replace h := h.dA 7 g20.up.up.up.up
 refine aa (i8 _ _ _ _ _ _ _ _ _ rfl rfl) (aa (jo (k := 0) (vs := [(I6 x3.kind), (I6 x3.n), Mg, Jb, QB, Q5]) h 3 rfl sD rfl rfl rfl (bF rfl)) (bP h 8 sD fun w NA h => dH (vs := [(I6 x3.kind), (I6 x3.n), Mg, Jb, QB, Q5]) h 8 [(I6 x3.kind), (I6 x3.n), Mg, Jb, QB, Q5] rfl sD rfl rfl rfl rfl rfl (ai rfl (ai rfl (ai (h.iD 4 rfl).one (ai (h.iD 5 rfl).one (ai (h.iD 6 rfl).one (ai (h.iD 7 rfl).one aS)))))) fun w h => nJ (Cq h 9 fun w b22 h => iW (ko := [(1, (aV [78, 69]))]) h 9 rfl iB rfl rfl rfl rfl fun w h => iW (ko := [(1, (aV [78, 69])), (2, (aV [78, 69, 70]))]) h 9 rfl iB rfl rfl rfl rfl fun w h => iW (ko := [(1, (aV [78, 69])), (2, (aV [78, 69, 70])), (3, (aV [69]))]) h 9 rfl iB rfl rfl rfl rfl fun w h => iW (ko := [(1, (aV [78, 69])), (2, (aV [78, 69, 70])), (3, (aV [69])), (4, (aV []))]) h 9 rfl iB rfl rfl rfl rfl fun w h => iW (ko := [(1, (aV [78, 69])), (2, (aV [78, 69, 70])), (3, (aV [69])), (4, (aV [])), (5, (aV [69]))]) h 9 rfl iB rfl rfl rfl rfl fun w h => iW (ko := [(1, (aV [78, 69])), (2, (aV [78, 69, 70])), (3, (aV [69])), (4, (aV [])), (5, (aV [69])), (6, (aV [69, 65, 66]))]) h 9 rfl iB rfl rfl rfl rfl fun w h => iW (ko := [(1, (aV [78, 69])), (2, (aV [78, 69, 70])), (3, (aV [69])), (4, (aV [])), (5, (aV [69])), (6, (aV [69, 65, 66])), (7, (aV [69, 65]))]) h 9 rfl iB rfl rfl rfl rfl fun w h => iW (ko := [(1, (aV [78, 69])), (2, (aV [78, 69, 70])), (3, (aV [69])), (4, (aV [])), (5, (aV [69])), (6, (aV [69, 65, 66])), (7, (aV [69, 65])), (8, (aV [69]))]) h 9 rfl iB rfl rfl rfl rfl fun w h => aa (ah (v := (.map (some b22))) rfl) (aa (ag mO rfl) (aa (aA h 8 rfl aU rfl rfl) (aa (r_lk2 (f := aV) (zz := []) ([(1, [78, 69]), (2, [78, 69, 70]), (3, [69]), (4, []), (5, [69]), (6, [69, 65, 66]), (7, [69, 65]), (8, [69])] : List (Int × Str)) h 9 rfl iB rfl rfl rfl rfl) (aa (ah (v := (.tuple #[(aV ((lk x3.kind ([(1, [78, 69]), (2, [78, 69, 70]), (3, [69]), (4, []), (5, [69]), (6, [69, 65, 66]), (7, [69, 65]), (8, [69])] : List (Int × Str))).getD [])), (.bool ((lk x3.kind ([(1, [78, 69]), (2, [78, 69, 70]), (3, [69]), (4, []), (5, [69]), (6, [69, 65, 66]), (7, [69, 65]), (8, [69])] : List (Int × Str))).isSome))])) rfl) (aa (bu rfl rfl) (aa (bu rfl rfl) ?_)))))))))
 refine tK h 10 Cy fun w FL h => gq h 10 [(aV ((lk x3.kind ([(1, [78, 69]), (2, [78, 69, 70]), (3, [69]), (4, []), (5, [69]), (6, [69, 65, 66]), (7, [69, 65]), (8, [69])] : List (Int × Str))).getD []))] rfl Cy rfl rfl rfl rfl rfl fun w h => aa (ae (v := (.bool ((lk x3.kind ([(1, [78, 69]), (2, [78, 69, 70]), (3, [69]), (4, []), (5, [69]), (6, [69, 65, 66]), (7, [69, 65]), (8, [69])] : List (Int × Str))).isSome))) rfl) (nJ (aa (r9 (c1 := []) (c2 := [(.pointer (some ⟨FL, 0, none⟩))]) rfl rfl) (aa (ae (v := (.func (.func 144) #[] #[(.pointer (some ⟨FL, 0, none⟩))])) rfl) (nK (aa (ah (v := (.bool ((lk x3.kind ([(1, [78, 69]), (2, [78, 69, 70]), (3, [69]), (4, []), (5, [69]), (6, [69, 65, 66]), (7, [69, 65]), (8, [69])] : List (Int × Str))).isSome))) rfl) (aa (gL rfl) (aa (ah (v := (.bool ((!(lk x3.kind ([(1, [78, 69]), (2, [78, 69, 70]), (3, [69]), (4, []), (5, [69]), (6, [69, 65, 66]), (7, [69, 65]), (8, [69])] : List (Int × Str))).isSome)))) rfl) (aG rfl rfl (fun q => ag zg rfl) (aG rfl rfl (fun q => aA h 8 rfl aU (eD q) rfl) (aG rfl rfl (fun q => iA (eD q) rfl) (aG rfl rfl (fun q => ah (v := (.bool (decide ((x3.n : Int) ≠ 0)))) (eD q)) (kG ((!(lk x3.kind ([(1, [78, 69]), (2, [78, 69, 70]), (3, [69]), (4, []), (5, [69]), (6, [69, 65, 66]), (7, [69, 65]), (8, [69])] : List (Int × Str))).isSome) == false) rfl rfl (fun q => ah (v := (.func (.func 144) #[] #[(.pointer (some ⟨FL, 0, none⟩))])) rfl) (FD [(.pointer (some ⟨FL, 0, none⟩))] ((!(lk x3.kind ([(1, [78, 69]), (2, [78, 69, 70]), (3, [69]), (4, []), (5, [69]), (6, [69, 65, 66]), (7, [69, 65]), (8, [69])] : List (Int × Str))).isSome) == false) rfl rfl DJ (fun q => (eD q)) (fun q => ky rfl rfl) (zi _ _ h.lt ((lk x3.kind ([(1, [78, 69]), (2, [78, 69, 70]), (3, [69]), (4, []), (5, [69]), (6, [69, 65, 66]), (7, [69, 65]), (8, [69])] : List (Int × Str))).getD []) FL (h.uD 10 rfl) _ rfl) fun w k24 => ?_)))))))))))))
 replace h := h.grow k24
 refine kG ((!(lk x3.kind ([(1, [78, 69]), (2, [78, 69, 70]), (3, [69]), (4, []), (5, [69]), (6, [69, 65, 66]), (7, [69, 65]), (8, [69])] : List (Int × Str))).isSome) == false) rfl rfl (fun q => gL (eD q)) (aG rfl rfl (fun q => gZ (eD q) (QN q) nC) (aa (iJ rfl rfl nC) (aa (ah (v := (.bool (((!(lk x3.kind ([(1, [78, 69]), (2, [78, 69, 70]), (3, [69]), (4, []), (5, [69]), (6, [69, 65, 66]), (7, [69, 65]), (8, [69])] : List (Int × Str))).isSome) || (decide ((x3.n : Int) ≠ 0) && (!(bK ((lk x3.kind ([(1, [78, 69]), (2, [78, 69, 70]), (3, [69]), (4, []), (5, [69]), (6, [69, 65, 66]), (7, [69, 65]), (8, [69])] : List (Int × Str))).getD [])))))))) rfl) (aG rfl rfl (fun q => ag Cu rfl) (aG rfl rfl (fun q => aA h 8 rfl AR (eD q) rfl) (aG rfl rfl (fun q => bW nz (eD q) (h.ny 4 rfl)) (aG rfl rfl (fun q => lT (eD q) rfl) (aG rfl rfl (fun q => ah (v := (.bool (decide ((0 : Int) < (x3.e.length : Int))))) (eD q)) (kG (((!(lk x3.kind ([(1, [78, 69]), (2, [78, 69, 70]), (3, [69]), (4, []), (5, [69]), (6, [69, 65, 66]), (7, [69, 65]), (8, [69])] : List (Int × Str))).isSome) || (decide ((x3.n : Int) ≠ 0) && (!(bK ((lk x3.kind ([(1, [78, 69]), (2, [78, 69, 70]), (3, [69]), (4, []), (5, [69]), (6, [69, 65, 66]), (7, [69, 65]), (8, [69])] : List (Int × Str))).getD []))))) == false) rfl rfl (fun q => ah (v := (.func (.func 144) #[] #[(.pointer (some ⟨FL, 0, none⟩))])) rfl) (FD [(.pointer (some ⟨FL, 0, none⟩))] (((!(lk x3.kind ([(1, [78, 69]), (2, [78, 69, 70]), (3, [69]), (4, []), (5, [69]), (6, [69, 65, 66]), (7, [69, 65]), (8, [69])] : List (Int × Str))).isSome) || (decide ((x3.n : Int) ≠ 0) && (!(bK ((lk x3.kind ([(1, [78, 69]), (2, [78, 69, 70]), (3, [69]), (4, []), (5, [69]), (6, [69, 65, 66]), (7, [69, 65]), (8, [69])] : List (Int × Str))).getD []))))) == false) rfl rfl DJ (fun q => (eD q)) (fun q => ky rfl rfl) (zk _ _ h.lt ((lk x3.kind ([(1, [78, 69]), (2, [78, 69, 70]), (3, [69]), (4, []), (5, [69]), (6, [69, 65, 66]), (7, [69, 65]), (8, [69])] : List (Int × Str))).getD []) FL (h.uD 10 rfl) _ rfl) fun w k25 => ?_))))))))))
 replace h := h.grow k25
 refine kG (((!(lk x3.kind ([(1, [78, 69]), (2, [78, 69, 70]), (3, [69]), (4, []), (5, [69]), (6, [69, 65, 66]), (7, [69, 65]), (8, [69])] : List (Int × Str))).isSome) || (decide ((x3.n : Int) ≠ 0) && (!(bK ((lk x3.kind ([(1, [78, 69]), (2, [78, 69, 70]), (3, [69]), (4, []), (5, [69]), (6, [69, 65, 66]), (7, [69, 65]), (8, [69])] : List (Int × Str))).getD []))))) == false) rfl rfl (fun q => gL (eD q)) (aG rfl rfl (fun q => gZ (eD q) (QN q) nC) (aa (iJ rfl rfl nC) (aa (ah (v := (.bool ((((!(lk x3.kind ([(1, [78, 69]), (2, [78, 69, 70]), (3, [69]), (4, []), (5, [69]), (6, [69, 65, 66]), (7, [69, 65]), (8, [69])] : List (Int × Str))).isSome) || (decide ((x3.n : Int) ≠ 0) && (!(bK ((lk x3.kind ([(1, [78, 69]), (2, [78, 69, 70]), (3, [69]), (4, []), (5, [69]), (6, [69, 65, 66]), (7, [69, 65]), (8, [69])] : List (Int × Str))).getD []))))) || (decide ((0 : Int) < (x3.e.length : Int)) && (!(dw ((lk x3.kind ([(1, [78, 69]), (2, [78, 69, 70]), (3, [69]), (4, []), (5, [69]), (6, [69, 65, 66]), (7, [69, 65]), (8, [69])] : List (Int × Str))).getD [])))))))) rfl) (aG rfl rfl (fun q => ag EL rfl) (aG rfl rfl (fun q => aA h 8 rfl AR (eD q) rfl) (aG rfl rfl (fun q => bW nz (eD q) (h.ny 5 rfl)) (aG rfl rfl (fun q => lT (eD q) rfl) (aG rfl rfl (fun q => ah (v := (.bool (decide ((0 : Int) < (x3.f.length : Int))))) (eD q)) (kG ((((!(lk x3.kind ([(1, [78, 69]), (2, [78, 69, 70]), (3, [69]), (4, []), (5, [69]), (6, [69, 65, 66]), (7, [69, 65]), (8, [69])] : List (Int × Str))).isSome) || (decide ((x3.n : Int) ≠ 0) && (!(bK ((lk x3.kind ([(1, [78, 69]), (2, [78, 69, 70]), (3, [69]), (4, []), (5, [69]), (6, [69, 65, 66]), (7, [69, 65]), (8, [69])] : List (Int × Str))).getD []))))) || (decide ((0 : Int) < (x3.e.length : Int)) && (!(dw ((lk x3.kind ([(1, [78, 69]), (2, [78, 69, 70]), (3, [69]), (4, []), (5, [69]), (6, [69, 65, 66]), (7, [69, 65]), (8, [69])] : List (Int × Str))).getD []))))) == false) rfl rfl (fun q => ah (v := (.func (.func 144) #[] #[(.pointer (some ⟨FL, 0, none⟩))])) rfl) (FD [(.pointer (some ⟨FL, 0, none⟩))] ((((!(lk x3.kind ([(1, [78, 69]), (2, [78, 69, 70]), (3, [69]), (4, []), (5, [69]), (6, [69, 65, 66]), (7, [69, 65]), (8, [69])] : List (Int × Str))).isSome) || (decide ((x3.n : Int) ≠ 0) && (!(bK ((lk x3.kind ([(1, [78, 69]), (2, [78, 69, 70]), (3, [69]), (4, []), (5, [69]), (6, [69, 65, 66]), (7, [69, 65]), (8, [69])] : List (Int × Str))).getD []))))) || (decide ((0 : Int) < (x3.e.length : Int)) && (!(dw ((lk x3.kind ([(1, [78, 69]), (2, [78, 69, 70]), (3, [69]), (4, []), (5, [69]), (6, [69, 65, 66]), (7, [69, 65]), (8, [69])] : List (Int × Str))).getD []))))) == false) rfl rfl DJ (fun q => (eD q)) (fun q => ky rfl rfl) (rX _ _ h.lt ((lk x3.kind ([(1, [78, 69]), (2, [78, 69, 70]), (3, [69]), (4, []), (5, [69]), (6, [69, 65, 66]), (7, [69, 65]), (8, [69])] : List (Int × Str))).getD []) FL (h.uD 10 rfl) _ rfl) fun w k26 => ?_))))))))))
 replace h := h.grow k26
 refine kG ((((!(lk x3.kind ([(1, [78, 69]), (2, [78, 69, 70]), (3, [69]), (4, []), (5, [69]), (6, [69, 65, 66]), (7, [69, 65]), (8, [69])] : List (Int × Str))).isSome) || (decide ((x3.n : Int) ≠ 0) && (!(bK ((lk x3.kind ([(1, [78, 69]), (2, [78, 69, 70]), (3, [69]), (4, []), (5, [69]), (6, [69, 65, 66]), (7, [69, 65]), (8, [69])] : List (Int × Str))).getD []))))) || (decide ((0 : Int) < (x3.e.length : Int)) && (!(dw ((lk x3.kind ([(1, [78, 69]), (2, [78, 69, 70]), (3, [69]), (4, []), (5, [69]), (6, [69, 65, 66]), (7, [69, 65]), (8, [69])] : List (Int × Str))).getD []))))) == false) rfl rfl (fun q => gL (eD q)) (aG rfl rfl (fun q => gZ (eD q) (QN q) nC) (aa (iJ rfl rfl nC) (aa (ah (v := (.bool (((((!(lk x3.kind ([(1, [78, 69]), (2, [78, 69, 70]), (3, [69]), (4, []), (5, [69]), (6, [69, 65, 66]), (7, [69, 65]), (8, [69])] : List (Int × Str))).isSome) || (decide ((x3.n : Int) ≠ 0) && (!(bK ((lk x3.kind ([(1, [78, 69]), (2, [78, 69, 70]), (3, [69]), (4, []), (5, [69]), (6, [69, 65, 66]), (7, [69, 65]), (8, [69])] : List (Int × Str))).getD []))))) || (decide ((0 : Int) < (x3.e.length : Int)) && (!(dw ((lk x3.kind ([(1, [78, 69]), (2, [78, 69, 70]), (3, [69]), (4, []), (5, [69]), (6, [69, 65, 66]), (7, [69, 65]), (8, [69])] : List (Int × Str))).getD []))))) || (decide ((0 : Int) < (x3.f.length : Int)) && (!(dX ((lk x3.kind ([(1, [78, 69]), (2, [78, 69, 70]), (3, [69]), (4, []), (5, [69]), (6, [69, 65, 66]), (7, [69, 65]), (8, [69])] : List (Int × Str))).getD [])))))))) rfl) (aG rfl rfl (fun q => ag Cv rfl) (aG rfl rfl (fun q => aA h 8 rfl ug (eD q) rfl) (aG rfl rfl (fun q => bW oC (eD q) (h.ny 6 rfl)) (aG rfl rfl (fun q => lT (eD q) rfl) (aG rfl rfl (fun q => ah (v := (.bool (decide ((0 : Int) < (x3.a.length : Int))))) (eD q)) (kG (((((!(lk x3.kind ([(1, [78, 69]), (2, [78, 69, 70]), (3, [69]), (4, []), (5, [69]), (6, [69, 65, 66]), (7, [69, 65]), (8, [69])] : List (Int × Str))).isSome) || (decide ((x3.n : Int) ≠ 0) && (!(bK ((lk x3.kind ([(1, [78, 69]), (2, [78, 69, 70]), (3, [69]), (4, []), (5, [69]), (6, [69, 65, 66]), (7, [69, 65]), (8, [69])] : List (Int × Str))).getD []))))) || (decide ((0 : Int) < (x3.e.length : Int)) && (!(dw ((lk x3.kind ([(1, [78, 69]), (2, [78, 69, 70]), (3, [69]), (4, []), (5, [69]), (6, [69, 65, 66]), (7, [69, 65]), (8, [69])] : List (Int × Str))).getD []))))) || (decide ((0 : Int) < (x3.f.length : Int)) && (!(dX ((lk x3.kind ([(1, [78, 69]), (2, [78, 69, 70]), (3, [69]), (4, []), (5, [69]), (6, [69, 65, 66]), (7, [69, 65]), (8, [69])] : List (Int × Str))).getD []))))) == false) rfl rfl (fun q => ah (v := (.func (.func 144) #[] #[(.pointer (some ⟨FL, 0, none⟩))])) rfl) (FD [(.pointer (some ⟨FL, 0, none⟩))] (((((!(lk x3.kind ([(1, [78, 69]), (2, [78, 69, 70]), (3, [69]), (4, []), (5, [69]), (6, [69, 65, 66]), (7, [69, 65]), (8, [69])] : List (Int × Str))).isSome) || (decide ((x3.n : Int) ≠ 0) && (!(bK ((lk x3.kind ([(1, [78, 69]), (2, [78, 69, 70]), (3, [69]), (4, []), (5, [69]), (6, [69, 65, 66]), (7, [69, 65]), (8, [69])] : List (Int × Str))).getD []))))) || (decide ((0 : Int) < (x3.e.length : Int)) && (!(dw ((lk x3.kind ([(1, [78, 69]), (2, [78, 69, 70]), (3, [69]), (4, []), (5, [69]), (6, [69, 65, 66]), (7, [69, 65]), (8, [69])] : List (Int × Str))).getD []))))) || (decide ((0 : Int) < (x3.f.length : Int)) && (!(dX ((lk x3.kind ([(1, [78, 69]), (2, [78, 69, 70]), (3, [69]), (4, []), (5, [69]), (6, [69, 65, 66]), (7, [69, 65]), (8, [69])] : List (Int × Str))).getD []))))) == false) rfl rfl DJ (fun q => (eD q)) (fun q => ky rfl rfl) (zl _ _ h.lt ((lk x3.kind ([(1, [78, 69]), (2, [78, 69, 70]), (3, [69]), (4, []), (5, [69]), (6, [69, 65, 66]), (7, [69, 65]), (8, [69])] : List (Int × Str))).getD []) FL (h.uD 10 rfl) _ rfl) fun w k27 => ?_))))))))))
 replace h := h.grow k27
 refine kG (((((!(lk x3.kind ([(1, [78, 69]), (2, [78, 69, 70]), (3, [69]), (4, []), (5, [69]), (6, [69, 65, 66]), (7, [69, 65]), (8, [69])] : List (Int × Str))).isSome) || (decide ((x3.n : Int) ≠ 0) && (!(bK ((lk x3.kind ([(1, [78, 69]), (2, [78, 69, 70]), (3, [69]), (4, []), (5, [69]), (6, [69, 65, 66]), (7, [69, 65]), (8, [69])] : List (Int × Str))).getD []))))) || (decide ((0 : Int) < (x3.e.length : Int)) && (!(dw ((lk x3.kind ([(1, [78, 69]), (2, [78, 69, 70]), (3, [69]), (4, []), (5, [69]), (6, [69, 65, 66]), (7, [69, 65]), (8, [69])] : List (Int × Str))).getD []))))) || (decide ((0 : Int) < (x3.f.length : Int)) && (!(dX ((lk x3.kind ([(1, [78, 69]), (2, [78, 69, 70]), (3, [69]), (4, []), (5, [69]), (6, [69, 65, 66]), (7, [69, 65]), (8, [69])] : List (Int × Str))).getD []))))) == false) rfl rfl (fun q => gL (eD q)) (aG rfl rfl (fun q => gZ (eD q) (QN q) nC) (aa (iJ rfl rfl nC) (aa (ah (v := (.bool ((((((!(lk x3.kind ([(1, [78, 69]), (2, [78, 69, 70]), (3, [69]), (4, []), (5, [69]), (6, [69, 65, 66]), (7, [69, 65]), (8, [69])] : List (Int × Str))).isSome) || (decide ((x3.n : Int) ≠ 0) && (!(bK ((lk x3.kind ([(1, [78, 69]), (2, [78, 69, 70]), (3, [69]), (4, []), (5, [69]), (6, [69, 65, 66]), (7, [69, 65]), (8, [69])] : List (Int × Str))).getD []))))) || (decide ((0 : Int) < (x3.e.length : Int)) && (!(dw ((lk x3.kind ([(1, [78, 69]), (2, [78, 69, 70]), (3, [69]), (4, []), (5, [69]), (6, [69, 65, 66]), (7, [69, 65]), (8, [69])] : List (Int × Str))).getD []))))) || (decide ((0 : Int) < (x3.f.length : Int)) && (!(dX ((lk x3.kind ([(1, [78, 69]), (2, [78, 69, 70]), (3, [69]), (4, []), (5, [69]), (6, [69, 65, 66]), (7, [69, 65]), (8, [69])] : List (Int × Str))).getD []))))) || (decide ((0 : Int) < (x3.a.length : Int)) && (!(iG ((lk x3.kind ([(1, [78, 69]), (2, [78, 69, 70]), (3, [69]), (4, []), (5, [69]), (6, [69, 65, 66]), (7, [69, 65]), (8, [69])] : List (Int × Str))).getD [])))))))) rfl) (aG rfl rfl (fun q => ag Cw rfl) (aG rfl rfl (fun q => aA h 8 rfl ug (eD q) rfl) (aG rfl rfl (fun q => bW oC (eD q) (h.ny 7 rfl)) (aG rfl rfl (fun q => lT (eD q) rfl) (aG rfl rfl (fun q => ah (v := (.bool (decide ((0 : Int) < (x3.b.length : Int))))) (eD q)) (kG ((((((!(lk x3.kind ([(1, [78, 69]), (2, [78, 69, 70]), (3, [69]), (4, []), (5, [69]), (6, [69, 65, 66]), (7, [69, 65]), (8, [69])] : List (Int × Str))).isSome) || (decide ((x3.n : Int) ≠ 0) && (!(bK ((lk x3.kind ([(1, [78, 69]), (2, [78, 69, 70]), (3, [69]), (4, []), (5, [69]), (6, [69, 65, 66]), (7, [69, 65]), (8, [69])] : List (Int × Str))).getD []))))) || (decide ((0 : Int) < (x3.e.length : Int)) && (!(dw ((lk x3.kind ([(1, [78, 69]), (2, [78, 69, 70]), (3, [69]), (4, []), (5, [69]), (6, [69, 65, 66]), (7, [69, 65]), (8, [69])] : List (Int × Str))).getD []))))) || (decide ((0 : Int) < (x3.f.length : Int)) && (!(dX ((lk x3.kind ([(1, [78, 69]), (2, [78, 69, 70]), (3, [69]), (4, []), (5, [69]), (6, [69, 65, 66]), (7, [69, 65]), (8, [69])] : List (Int × Str))).getD []))))) || (decide ((0 : Int) < (x3.a.length : Int)) && (!(iG ((lk x3.kind ([(1, [78, 69]), (2, [78, 69, 70]), (3, [69]), (4, []), (5, [69]), (6, [69, 65, 66]), (7, [69, 65]), (8, [69])] : List (Int × Str))).getD []))))) == false) rfl rfl (fun q => ah (v := (.func (.func 144) #[] #[(.pointer (some ⟨FL, 0, none⟩))])) rfl) (FD [(.pointer (some ⟨FL, 0, none⟩))] ((((((!(lk x3.kind ([(1, [78, 69]), (2, [78, 69, 70]), (3, [69]), (4, []), (5, [69]), (6, [69, 65, 66]), (7, [69, 65]), (8, [69])] : List (Int × Str))).isSome) || (decide ((x3.n : Int) ≠ 0) && (!(bK ((lk x3.kind ([(1, [78, 69]), (2, [78, 69, 70]), (3, [69]), (4, []), (5, [69]), (6, [69, 65, 66]), (7, [69, 65]), (8, [69])] : List (Int × Str))).getD []))))) || (decide ((0 : Int) < (x3.e.length : Int)) && (!(dw ((lk x3.kind ([(1, [78, 69]), (2, [78, 69, 70]), (3, [69]), (4, []), (5, [69]), (6, [69, 65, 66]), (7, [69, 65]), (8, [69])] : List (Int × Str))).getD []))))) || (decide ((0 : Int) < (x3.f.length : Int)) && (!(dX ((lk x3.kind ([(1, [78, 69]), (2, [78, 69, 70]), (3, [69]), (4, []), (5, [69]), (6, [69, 65, 66]), (7, [69, 65]), (8, [69])] : List (Int × Str))).getD []))))) || (decide ((0 : Int) < (x3.a.length : Int)) && (!(iG ((lk x3.kind ([(1, [78, 69]), (2, [78, 69, 70]), (3, [69]), (4, []), (5, [69]), (6, [69, 65, 66]), (7, [69, 65]), (8, [69])] : List (Int × Str))).getD []))))) == false) rfl rfl DJ (fun q => (eD q)) (fun q => ky rfl rfl) (zm _ _ h.lt ((lk x3.kind ([(1, [78, 69]), (2, [78, 69, 70]), (3, [69]), (4, []), (5, [69]), (6, [69, 65, 66]), (7, [69, 65]), (8, [69])] : List (Int × Str))).getD []) FL (h.uD 10 rfl) _ rfl) fun w k28 => ?_))))))))))
 replace h := h.grow k28
 refine kG ((((((!(lk x3.kind ([(1, [78, 69]), (2, [78, 69, 70]), (3, [69]), (4, []), (5, [69]), (6, [69, 65, 66]), (7, [69, 65]), (8, [69])] : List (Int × Str))).isSome) || (decide ((x3.n : Int) ≠ 0) && (!(bK ((lk x3.kind ([(1, [78, 69]), (2, [78, 69, 70]), (3, [69]), (4, []), (5, [69]), (6, [69, 65, 66]), (7, [69, 65]), (8, [69])] : List (Int × Str))).getD []))))) || (decide ((0 : Int) < (x3.e.length : Int)) && (!(dw ((lk x3.kind ([(1, [78, 69]), (2, [78, 69, 70]), (3, [69]), (4, []), (5, [69]), (6, [69, 65, 66]), (7, [69, 65]), (8, [69])] : List (Int × Str))).getD []))))) || (decide ((0 : Int) < (x3.f.length : Int)) && (!(dX ((lk x3.kind ([(1, [78, 69]), (2, [78, 69, 70]), (3, [69]), (4, []), (5, [69]), (6, [69, 65, 66]), (7, [69, 65]), (8, [69])] : List (Int × Str))).getD []))))) || (decide ((0 : Int) < (x3.a.length : Int)) && (!(iG ((lk x3.kind ([(1, [78, 69]), (2, [78, 69, 70]), (3, [69]), (4, []), (5, [69]), (6, [69, 65, 66]), (7, [69, 65]), (8, [69])] : List (Int × Str))).getD []))))) == false) rfl rfl (fun q => gL (eD q)) (aG rfl rfl (fun q => gZ (eD q) (QN q) nC) (aa (iJ rfl rfl nC) (nN (aI hs rfl (fun c29 hs => ?_) (fun c29 hs => ?_)))))
 refine nG (aa (ae (v := (I6 4)) rfl) (nR (ay (aF (ay (ay (aF (ay (dD (v := (I6 4)) Tryz.results129 rfl ?_)))))))))
 obtain rfl := fP hs
 exact ⟨h.grown, rfl⟩
 refine aH (ak (aM (nG (aa (ag mO rfl) (aa (aA h 8 rfl aU rfl rfl) (aa (bz rfl rfl) (aa (ah (v := (.bool (decide ((x3.kind : Int) = 1)))) rfl) (aG rfl rfl (fun q => ag zg rfl) (aG rfl rfl (fun q => aA h 8 rfl aU (eD q) rfl) (aG rfl rfl (fun q => ah (v := (I6 c)) rfl) (EA rfl rfl Gv rfl (fun q => ky (eD q) (ky (eD q) rfl)) (jX _ _ h.lt x3.n c _ rfl) fun w k30 => ?_)))))))))))
 replace h := h.grow k30
 refine aG rfl rfl (fun q => gL (eD q)) (aa (gZ rfl rfl nC) (aa (ah (v := (.bool ((decide ((x3.kind : Int) = 1) && (!(aJ x3.n c)))))) rfl) (aG rfl rfl (fun q => ag mO rfl) (aG rfl rfl (fun q => aA h 8 rfl aU (eD q) rfl) (aG rfl rfl (fun q => bz (eD q) rfl) (aG rfl rfl (fun q => ah (v := (.bool (decide ((x3.kind : Int) = 2)))) (eD q)) (kG ((decide ((x3.kind : Int) = 1) && (!(aJ x3.n c))) == false) rfl rfl (fun q => ag zg rfl) (kG ((decide ((x3.kind : Int) = 1) && (!(aJ x3.n c))) == false) rfl rfl (fun q => aA h 8 rfl aU (eD q) rfl) (UZ ((decide ((x3.kind : Int) = 1) && (!(aJ x3.n c))) == false) rfl rfl uL rfl (fun q => ky (eD q) (ky rfl (ky rfl rfl))) (fe _ _ h.lt x3.n 0 3 _ rfl) fun w k31 => ?_)))))))))
 replace h := h.grow k31
 refine kG ((decide ((x3.kind : Int) = 1) && (!(aJ x3.n c))) == false) rfl rfl (fun q => gL (eD q)) (aG rfl rfl (fun q => gZ (eD q) (QN q) nC) (aa (iJ rfl rfl nC) (nN (aI hs rfl (fun c32 hs => ?_) (fun c32 hs => ?_)))))
 refine nG (aa (ae (v := (I6 3)) rfl) (nR (ay (aF (ay (ay (aF (ay (dD (v := (I6 3)) Tryz.results129 rfl ?_)))))))))
 obtain rfl := fP hs
 exact ⟨h.grown, rfl⟩
 refine nS (aa (ae (v := (I6 0)) rfl) (nN (bX (σ := Int) (inl ([12] ++ rg 105 7)) (fun CE => [(12, (I6 CE))]) (fun CE w => SH w0 M BE w (hset [(1, .sr gM va a), (2, .sr kD vb b), (4, .rd nO Mg x3.e), (5, .rd nO Jb x3.f), (6, .rd gM QB x3.a), (7, .rd gM Q5 x3.b), (8, .blk NA [(I6 x3.kind), (I6 x3.n), Mg, Jb, QB, Q5]), (10, .blk FL [(aV ((lk x3.kind ([(1, [78, 69]), (2, [78, 69, 70]), (3, [69]), (4, []), (5, [69]), (6, [69, 65, 66]), (7, [69, 65]), (8, [69])] : List (Int × Str))).getD []))])]) ∧ oQ N F0 x3 b c a KG CE = some r) ?_ ?_)))
 rintro CE w dO ⟨h, hs⟩
 refine bX (σ := Int) (inl ([12] ++ rg 112 11)) (fun x34 => [(12, (I6 x34)), (115, (gv (decide ((CE : Int) = 0) == true) (.func (.func 144) #[] #[(.pointer (some ⟨FL, 0, none⟩))])))]) (fun x34 w => SH w0 M BE w (hset [(1, .sr gM va a), (2, .sr kD vb b), (4, .rd nO Mg x3.e), (5, .rd nO Jb x3.f), (6, .rd gM QB x3.a), (7, .rd gM Q5 x3.b), (8, .blk NA [(I6 x3.kind), (I6 x3.n), Mg, Jb, QB, Q5]), (10, .blk FL [(aV ((lk x3.kind ([(1, [78, 69]), (2, [78, 69, 70]), (3, [69]), (4, []), (5, [69]), (6, [69, 65, 66]), (7, [69, 65]), (8, [69])] : List (Int × Str))).getD []))])]) ∧ oP F0 x3 a b c KG x34 = some r) ?_ ?_
 rintro x34 w dO ⟨h, hs⟩
 refine bX (σ := Int) (inl ([12] ++ rg 123 7)) (fun Ci => [(12, (I6 Ci))]) (fun Ci w => SH w0 M BE w (hset [(1, .sr gM va a), (2, .sr kD vb b), (4, .rd nO Mg x3.e), (5, .rd nO Jb x3.f), (6, .rd gM QB x3.a), (7, .rd gM Q5 x3.b), (8, .blk NA [(I6 x3.kind), (I6 x3.n), Mg, Jb, QB, Q5]), (10, .blk FL [(aV ((lk x3.kind ([(1, [78, 69]), (2, [78, 69, 70]), (3, [69]), (4, []), (5, [69]), (6, [69, 65, 66]), (7, [69, 65]), (8, [69])] : List (Int × Str))).getD []))])]) ∧ oO F0 x3 b c KG Ci = some r) ?_ ?_
 rintro Ci w dO ⟨h, hs⟩
 refine bX (σ := Int) (inl ([12] ++ rg 130 7)) (fun iU => [(12, (I6 iU))]) (fun iU w => SH w0 M BE w (hset [(1, .sr gM va a), (2, .sr kD vb b), (10, .blk FL [(aV ((lk x3.kind ([(1, [78, 69]), (2, [78, 69, 70]), (3, [69]), (4, []), (5, [69]), (6, [69, 65, 66]), (7, [69, 65]), (8, [69])] : List (Int × Str))).getD []))])]) ∧ oN KG iU = some r) ?_ ?_
 rintro iU w dO ⟨h, hs⟩
 refine nG (aa (ah (v := (I6 iU)) rfl) (aa (iA rfl rfl) (nN (aI hs rfl (fun c37 hs => ?_) (fun c37 hs => ?_)))))
 refine nG (aa (ah (v := (I6 iU)) rfl) (aa (ae (v := (I6 iU)) rfl) (nR (aF (ay (ay (aF (ay (dD (v := (I6 iU)) Tryz.results129 rfl ?_)))))))))
 obtain rfl := fP hs
 exact ⟨h.grown, rfl⟩
 refine aH (ax (ak (aC (aa (dP rfl rfl e7r) (aa (ah (v := (I6 ((i2 + 1)))) rfl) (az (au ?_)))))))
 subst Y9
 exact jB ⟨k1 + 1, i2 + 1⟩ ⟨h.cn _, by omega, hs⟩ (by have := p8 e6; dsimp only; omega)
 refine nG (aa (ah (v := (I6 Ci)) rfl) (aa (bz rfl rfl) (nN (aI hs rfl (fun Q6 hs => ?_) (fun Q6 hs => ?_)))))
 refine aC (aa (ag Cw rfl) (aa (aA h 8 rfl ug rfl rfl) (aa (ah (v := vb) rfl) (aa (ah (v := (I6 c)) rfl) ?_))))
 obtain ⟨y39, e40, hs⟩ := aK hs
 refine aX PT rfl rfl (ih _ _ h.lt Q5 x3.b (h.ny 7 rfl) vb b (h.iV 2 rfl) c _ e40) ?_
 rintro _ w ⟨k41, rfl⟩
 refine ⟨_, rfl, ?_⟩
 replace h := h.grow k41
 refine aa (ae (v := (I6 y39)) rfl) (az (au ?_))
 exact bQ y39 ⟨h.cn _, hs⟩
 refine aH (au ?_)
 exact bQ Ci ⟨h.cn _, hs⟩
 refine nG (aa (ah (v := (I6 x34)) rfl) (aa (bz rfl rfl) (nN (aI hs rfl (fun c42 hs => ?_) (fun c42 hs => ?_)))))
 refine aC (aa (ag Cv rfl) (aa (aA h 8 rfl ug rfl rfl) (aa (ah (v := vb) rfl) (aa (ah (v := (I6 c)) rfl) ?_))))
 obtain ⟨DN, e44, hs⟩ := aK hs
 refine aX PT rfl rfl (ih _ _ h.lt QB x3.a (h.ny 6 rfl) vb b (h.iV 2 rfl) c _ e44) ?_
 rintro _ w ⟨k45, rfl⟩
 refine ⟨_, rfl, ?_⟩
 replace h := h.grow k45
 refine aa (ae (v := (I6 DN)) rfl) (az (au ?_))
 exact bQ DN ⟨h.cn _, hs⟩
 refine aH (au ?_)
 exact bQ x34 ⟨h.cn _, hs⟩
 refine nG (aa (ah (v := (I6 CE)) rfl) (aa (bz rfl rfl) (aa (ah (v := (.bool (decide ((CE : Int) = 0)))) rfl) (aG rfl rfl (fun q => ah (v := (.func (.func 144) #[] #[(.pointer (some ⟨FL, 0, none⟩))])) rfl) (LG [(.pointer (some ⟨FL, 0, none⟩))] rfl rfl DJ (fun q => (eD q)) (fun q => ky rfl rfl) (rX _ _ h.lt ((lk x3.kind ([(1, [78, 69]), (2, [78, 69, 70]), (3, [69]), (4, []), (5, [69]), (6, [69, 65, 66]), (7, [69, 65]), (8, [69])] : List (Int × Str))).getD []) FL (h.uD 10 rfl) _ rfl) fun w k46 => ?_)))))
 replace h := h.grow k46
 refine aa (gZ rfl rfl nC) (nN (aI hs rfl (fun c47 hs => ?_) (fun c47 hs => ?_)))
 refine aC (aa (ag EL rfl) (aa (aA h 8 rfl AR rfl rfl) (aa (ah (v := vb) rfl) (aa (ah (v := (I6 c)) rfl) ?_))))
 obtain ⟨rY, e49, hs⟩ := aK hs
 refine aX Vg rfl rfl (wO N _ _ h.lt Jb x3.f (h.ny 5 rfl) vb b (h.iV 2 rfl) c _ e49) ?_
 rintro _ w ⟨X5, rfl⟩
 refine ⟨_, rfl, ?_⟩
 replace h := h.grow X5
 refine aa (ae (v := (I6 rY)) rfl) (az (au ?_))
 exact bQ rY ⟨h.cn _, hs⟩
 refine aH (au ?_)
 exact bQ CE ⟨h.cn _, hs⟩
 refine nG (aa (ah (v := (.func (.func 144) #[] #[(.pointer (some ⟨FL, 0, none⟩))])) rfl) (lh (args := [(aV [69]), (.pointer (some ⟨FL, 0, none⟩))]) DJ rfl rfl (aQ (args := [(aV [69]), (.pointer (some ⟨FL, 0, none⟩))]) Tryz.func144 rfl Tryz.ntmps144 (bF rfl) (nG (aa (ae (v := (.bool (false))) rfl) (nJ (aa (aA h 10 rfl Cy rfl rfl) (aa (ah (v := (aV [69])) rfl) (aX FJ rfl rfl (mi _ _ h.lt ((lk x3.kind ([(1, [78, 69]), (2, [78, 69, 70]), (3, [69]), (4, []), (5, [69]), (6, [69, 65, 66]), (7, [69, 65]), (8, [69])] : List (Int × Str))).getD []) 69 _ rfl) ?_)))))))))
 rintro _ w ⟨k51, rfl⟩
 refine ⟨_, rfl, ?_⟩
 replace h := h.grow k51
 refine aa (ae (v := (.bool ((hasB ((lk x3.kind ([(1, [78, 69]), (2, [78, 69, 70]), (3, [69]), (4, []), (5, [69]), (6, [69, 65, 66]), (7, [69, 65]), (8, [69])] : List (Int × Str))).getD []) 69)))) rfl) (nR (dD (v := (.bool ((hasB ((lk x3.kind ([(1, [78, 69]), (2, [78, 69, 70]), (3, [69]), (4, []), (5, [69]), (6, [69, 65, 66]), (7, [69, 65]), (8, [69])] : List (Int × Str))).getD []) 69)))) Tryz.results144 rfl (⟨_, rfl, ?_⟩)))
 refine nN (aI hs rfl (fun Gw hs => ?_) (fun Gw hs => ?_))
 refine aC (aa (ag Cu rfl) (aa (aA h 8 rfl AR rfl rfl) (aa (ah (v := vb) rfl) (aa (ah (v := (I6 c)) rfl) ?_))))
 obtain ⟨xc, e54, hs⟩ := aK hs
 refine aX Vg rfl rfl (wO N _ _ h.lt Mg x3.e (h.ny 4 rfl) vb b (h.iV 2 rfl) c _ e54) ?_
 rintro _ w ⟨k55, rfl⟩
 refine ⟨_, rfl, ?_⟩
 replace h := h.grow k55
 refine aa (ae (v := (I6 xc)) rfl) (az (au ?_))
 exact bQ xc ⟨h.cn _, hs⟩
 refine aH (au ?_)
 exact bQ 0 ⟨h.cn _, hs⟩
 rw [fV (hik ▸ e6), fQ] at hs
 refine nE (aa (ae (v := (I6 0)) rfl) (nR (dD (v := (I6 0)) Tryz.results129 rfl ?_)))
 obtain rfl := fP hs
 exact ⟨h.grown, rfl⟩
def oW (N : Nat) (a : List iw) (uB : iw) (s : Unit) (CF : Unit → Option Int) : Option Int :=
  (qG N uB.body 4).bind fun pV => bif (!pV.2) then some 2 else (lu N uB.body a uB.locals).bind fun Vk => bif decide ((Vk : Int) ≠ 0) then some Vk else CF ()
def oZ (s : Unit) : Option Int :=
  some 0
def o7 (i4 : Int) (x5 : iw) (s : Unit) (nx7 : Unit → Option Int) : Option Int :=
  bif (((!(aN x5.params 0 3)) || (!(aN x5.locals x5.params 6))) || (decide ((i4 : Int) = 0) && decide ((x5.params : Int) ≠ 0))) then some 3 else nx7 ()
def o8 (N : Nat) (a : List iw) (s : Unit) : Option Int :=
  each (oW N a) oZ a ()
def wP (N : Nat) (a : List iw) : Option Int :=
  bif (!(aN (a.length : Int) 1 4)) then some 2 else dW o7 (o8 N a) 0 a ()
theorem BC (N : Nat) (w0 : World) (M : BS) (hM : ∀ b, M b → b < w0.heap.size) (va : Value) (a : List iw) (ha : gy kD w0 BE M va a) (r : Int) (hs : wP N a = some r) :
    Calls Tryz.prog 112 #[va] w0 (fun e w' => Grow w0 w' ∧ e = .returned (.int .i64 r)) := by
 refine aQ (args := [va]) Tryz.func112 rfl Tryz.ntmps112 (bF rfl) ?_
 have h := SH.init hM
 replace h := h.gz 1 ha bH
 have vC := ha.bT
 refine nG (aa (ae (v := (I6 0)) rfl) (nK (aa (ah (v := va) rfl) (aa (bW jR rfl (h.iV 1 rfl)) (aX uL rfl rfl (fe _ _ h.lt (a.length : Int) 1 4 _ rfl) ?_)))))
 rintro _ w ⟨k1, rfl⟩
 refine ⟨_, rfl, ?_⟩
 replace h := h.grow k1
 refine aa (gL rfl) (nN (aI hs rfl (fun c2 hs => ?_) (fun c2 hs => ?_)))
 refine nG (aa (ae (v := (I6 2)) rfl) (nR (ay (dD (v := (I6 2)) Tryz.results112 rfl ?_))))
 obtain rfl := fP hs
 exact ⟨h.grown, rfl⟩
 refine aH (ak (aM (nG (aa (ah (v := va) rfl) (aa (bW jR rfl (h.iV 1 rfl)) (aa (ah (v := (I6 0)) rfl) (nN (aO (gu (σ := Nat × Int) (inl ([2, 3, 4] ++ rg 16 27)) (fun ⟨k3, i4⟩ => [(16, (I6 i4))]) (fun ⟨k3, i4⟩ w => SH w0 M BE w (hset [(1, .sr kD va a)]) ∧ i4 = (k3 : Int) ∧ dW o7 (o8 N a) i4 (a.drop k3) () = some r) (fun ⟨k3, i4⟩ => a.length - k3) ⟨0, 0⟩ ⟨rfl, trivial⟩ ?_ ?_)))))))))
 exact ⟨h.cn _, rfl, hs⟩
 rintro ⟨k3, i4⟩ w dO ⟨h, hik, hs⟩
 refine nG ?_
 refine aa (eB rfl rfl) (nN ?_)
 refine aM (gK rfl (fun e8 => ?_) (fun e8 => ?_))
 refine aH (ak ?_)
 obtain ⟨x5, e9a, e9b⟩ := fU (hik ▸ e8)
 rw [e9b, ja] at hs
 generalize hnx7 : dW o7 (o8 N a) (i4 + 1) (a.drop (k3 + 1)) = nx7 at hs
 have e9r := gm ((h.iV 1 rfl)).bT hik e8
 refine aM (aO (nG (aa (ah (v := (I6 i4)) rfl) ?_)))
 obtain ⟨b11, o12, cs13, h, r14, i10⟩ := h.zP 1 2 rfl jR rfl (iI hik) (fZ hik e9a)
 obtain ⟨Jb, rfl, g16⟩ := wK r14
 replace h := h.dA 3 g16.up
 refine aa (i10 _ _ _ _ _ _ _ _ _ rfl rfl) (aa (jo (k := 0) (vs := [(I6 x5.params), (I6 x5.locals), Jb]) h 2 rfl pU rfl rfl rfl (bF rfl)) (bP h 4 pU fun w b17 h => aa (ae (v := (I6 i4)) rfl) (dH (vs := [(I6 x5.params), (I6 x5.locals), Jb]) h 4 [(I6 x5.params), (I6 x5.locals), Jb] rfl pU rfl rfl rfl rfl rfl (ai rfl (ai rfl (ai (h.iD 3 rfl).one aS))) fun w h => nJ (aa (ag zf rfl) (aa (aA h 4 rfl aU rfl rfl) (aX uL rfl rfl (fe _ _ h.lt x5.params 0 3 _ rfl) ?_))))))
 rintro _ w ⟨k18, rfl⟩
 refine ⟨_, rfl, ?_⟩
 replace h := h.grow k18
 refine aa (gL rfl) (aa (ah (v := (.bool ((!(aN x5.params 0 3))))) rfl) (aG rfl rfl (fun q => ag Ct rfl) (aG rfl rfl (fun q => aA h 4 rfl aU (eD q) rfl) (aG rfl rfl (fun q => ag zf rfl) (aG rfl rfl (fun q => aA h 4 rfl aU (eD q) rfl) (EA rfl rfl uL rfl (fun q => ky (eD q) (ky (eD q) (ky rfl rfl))) (fe _ _ h.lt x5.locals x5.params 6 _ rfl) fun w k19 => ?_))))))
 replace h := h.grow k19
 refine aG rfl rfl (fun q => gL (eD q)) (aa (iJ rfl rfl nC) (aa (ah (v := (.bool (((!(aN x5.params 0 3)) || (!(aN x5.locals x5.params 6)))))) rfl) (aG rfl rfl (fun q => ah (v := (I6 i4)) rfl) (aG rfl rfl (fun q => bz (eD q) rfl) (aG rfl rfl (fun q => ah (v := (.bool (decide ((i4 : Int) = 0)))) (eD q)) (kG (((!(aN x5.params 0 3)) || (!(aN x5.locals x5.params 6))) == false) rfl rfl (fun q => ag zf rfl) (kG (((!(aN x5.params 0 3)) || (!(aN x5.locals x5.params 6))) == false) rfl rfl (fun q => aA h 4 rfl aU (eD q) rfl) (kG (((!(aN x5.params 0 3)) || (!(aN x5.locals x5.params 6))) == false) rfl rfl (fun q => iA (eD q) rfl) (aG rfl rfl (fun q => gZ (eD q) (QN q) nC) (aa (iJ rfl rfl nC) (nN (aI hs rfl (fun c20 hs => ?_) (fun c20 hs => ?_)))))))))))))
 refine nG (aa (ae (v := (I6 3)) rfl) (nR (aF (ay (ay (aF (ay (dD (v := (I6 3)) Tryz.results112 rfl ?_))))))))
 obtain rfl := fP hs
 exact ⟨h.grown, rfl⟩
 refine aH (ax (ak (aC (aa (dP rfl rfl e9r) (aa (ah (v := (I6 ((i4 + 1)))) rfl) (az (au ?_)))))))
 subst hnx7
 exact jB ⟨k3 + 1, i4 + 1⟩ ⟨h.cn _, by omega, hs⟩ (by have := p8 e8; dsimp only; omega)
 rw [fV (hik ▸ e8), mh] at hs
 refine iL (bI (bI (eH (ak (aM (nG (aa (ah (v := va) rfl) (aa (bW jR rfl (h.iV 1 rfl)) (aa (ah (v := (I6 0)) rfl) (nN (aO (gu (σ := Nat × Int) (inl ([2, 6, 7, 8, 9] ++ rg 45 22)) (fun ⟨k21, i22⟩ => [(45, (I6 i22))]) (fun ⟨k21, i22⟩ w => SH w0 M BE w (hset [(1, .sr kD va a)]) ∧ i22 = (k21 : Int) ∧ each (oW N a) oZ (a.drop k21) () = some r) (fun ⟨k21, i22⟩ => a.length - k21) ⟨0, 0⟩ ⟨rfl, trivial⟩ ?_ ?_))))))))))))
 exact ⟨h.cn _, rfl, hs⟩
 rintro ⟨k21, i22⟩ w dO ⟨h, hik, hs⟩
 refine nG ?_
 refine aa (eB rfl rfl) (nN ?_)
 refine aM (gK rfl (fun e26 => ?_) (fun e26 => ?_))
 refine aH (ak ?_)
 obtain ⟨uB, e27a, e27b⟩ := fU (hik ▸ e26)
 rw [e27b, dV] at hs
 generalize Za : each (oW N a) oZ (a.drop (k21 + 1)) = CF at hs
 have e27r := gm ((h.iV 1 rfl)).bT hik e26
 refine aM (aO (nG ?_))
 obtain ⟨b29, o30, cs31, h, r32, i28⟩ := h.zP 1 5 rfl jR rfl (iI hik) (fZ hik e27a)
 obtain ⟨u33, rfl, g34⟩ := wK r32
 replace h := h.dA 6 g34.up
 refine aa (i28 _ _ _ _ _ _ _ _ _ rfl rfl) (aa (jo (k := 0) (vs := [(I6 uB.params), (I6 uB.locals), u33]) h 5 rfl pU rfl rfl rfl (bF rfl)) (bP h 7 pU fun w b35 h => dH (vs := [(I6 uB.params), (I6 uB.locals), u33]) h 7 [(I6 uB.params), (I6 uB.locals), u33] rfl pU rfl rfl rfl rfl rfl (ai rfl (ai rfl (ai (h.iD 6 rfl).one aS))) fun w h => nK (aa (ag EK rfl) (aa (aA h 7 rfl ug rfl rfl) ?_))))
 obtain ⟨pV, e37, hs⟩ := aK hs
 refine aX Vf rfl rfl (F7 N _ _ h.lt u33 uB.body (h.ny 6 rfl) 4 _ e37) ?_
 rintro _ w ⟨Vl, rfl⟩
 refine ⟨_, rfl, ?_⟩
 replace h := h.grow Vl
 refine aa (ah (v := (.tuple #[(I6 pV.1), (.bool (pV.2))])) rfl) (aa (bu rfl rfl) (aa (bu rfl rfl) (aa (ae (v := (I6 pV.1)) rfl) (aa (ae (v := (.bool (pV.2))) rfl) (nJ (aa (ah (v := (.bool (pV.2))) rfl) (aa (gL rfl) (nN (aI hs rfl (fun Zb hs => ?_) (fun Zb hs => ?_))))))))))
 refine nG (aa (ae (v := (I6 2)) rfl) (nR (ay (aF (ay (ay (aF (ay (dD (v := (I6 2)) Tryz.results112 rfl ?_)))))))))
 obtain rfl := fP hs
 exact ⟨h.grown, rfl⟩
 refine nS (aa (ag EK rfl) (aa (aA h 7 rfl ug rfl rfl) (aa (ah (v := va) rfl) (aa (ag Ct rfl) (aa (aA h 7 rfl aU rfl rfl) ?_)))))
 obtain ⟨Vk, e41, hs⟩ := aK hs
 refine aX PT rfl rfl (BU N _ _ h.lt u33 uB.body (h.ny 6 rfl) va a (h.iV 1 rfl) uB.locals _ e41) ?_
 rintro _ w ⟨X6, rfl⟩
 refine ⟨_, rfl, ?_⟩
 replace h := h.grow X6
 refine aa (ae (v := (I6 Vk)) rfl) (nJ (aa (ah (v := (I6 Vk)) rfl) (aa (iA rfl rfl) (nN (aI hs rfl (fun Tq hs => ?_) (fun Tq hs => ?_))))))
 refine nG (aa (ah (v := (I6 Vk)) rfl) (aa (ae (v := (I6 Vk)) rfl) (nR (aF (ay (ay (aF (ay (dD (v := (I6 Vk)) Tryz.results112 rfl ?_)))))))))
 obtain rfl := fP hs
 exact ⟨h.grown, rfl⟩
 refine aH (ax (ak (aC (aa (dP rfl rfl e27r) (aa (ah (v := (I6 ((i22 + 1)))) rfl) (az (au ?_)))))))
 subst Za
 exact jB ⟨k21 + 1, i22 + 1⟩ ⟨h.cn _, by omega, hs⟩ (by have := p8 e26; dsimp only; omega)
 rw [fV (hik ▸ e26), fQ] at hs
 refine nE (aa (ae (v := (I6 0)) rfl) (nR (dD (v := (I6 0)) Tryz.results112 rfl ?_)))
 obtain rfl := fP hs
 exact ⟨h.grown, rfl⟩
theorem xB (w0 : World) (M : BS) (hM : ∀ b, M b → b < w0.heap.size) (hT : ze Tryz.prog 4 w0) (a : Int) (r : Str) (hs : Od a = some r) :
    Calls Tryz.prog 125 #[.int .i64 a] w0 (fun e w' => Grow w0 w' ∧ e = .returned (aV r)) :=
  itoa_w Tryz.strconv_Itoa hT hs
theorem CG (w0 : World) (M : BS) (hM : ∀ b, M b → b < w0.heap.size) (hT : ze Tryz.prog 4 w0) (a : Str) (r : List Str) (hs : Im a = some r) :
    Calls Tryz.prog 111 #[aV a] w0 (fun e w' => Grow w0 w' ∧ ∃ u, e = .returned u ∧ gX rV w' M u r) :=
  YC Tryz.strings_Fields (q := 0) (by kernel_rfl) hM hT hs
def lQ (a : Tok) : Option Str :=
  (Od a.n).bind fun y2 => bif decide ((a.kind : Int) = 2) then ib ([118].length + y2.length ≤ 9223372036854775807) (some ([118] ++ y2)) else bif decide ((a.kind : Int) = 3) then ib (jV (a.n + 1)) ((subs? [63, 43, 45, 42, 60, 61] a.n (a.n + 1)).bind fun x9 => some x9) else bif decide ((a.kind : Int) = 4) then ib ([46].length + y2.length ≤ 9223372036854775807) (some ([46] ++ y2)) else bif decide ((a.kind : Int) = 5) then ib ([110, 101, 119].length + y2.length ≤ 9223372036854775807) (some ([110, 101, 119] ++ y2)) else bif decide ((a.kind : Int) = 6) then ib ([102].length + y2.length ≤ 9223372036854775807) (some ([102] ++ y2)) else some y2
theorem ui (w0 : World) (M : BS) (hM : ∀ b, M b → b < w0.heap.size) (hT : ze Tryz.prog 4 w0) (a : Tok) (r : Str) (hs : lQ a = some r) :
    Calls Tryz.prog 106 #[(.agg #[(I6 a.kind), (I6 a.n)])] w0 (fun e w' => Grow w0 w' ∧ e = .returned (aV r)) := by
 refine aQ (args := [(.agg #[(I6 a.kind), (I6 a.n)])]) Tryz.func106 rfl Tryz.ntmps106 (bF rfl) ?_
 have h := SH.init hM
 refine nG (mD (cs := [(I6 a.kind), (I6 a.n)]) h 1 rfl rfl fun w b1 h => aa (ae (v := (aV [])) rfl) (nJ (aa (ag rz rfl) (aa (aA h 1 rfl aU rfl rfl) ?_))))
 obtain ⟨y2, e3, hs⟩ := aK hs
 refine aX Le rfl rfl (xB _ _ h.lt (hT.go h.keep) a.n _ e3) ?_
 rintro _ w ⟨k4, rfl⟩
 refine ⟨_, rfl, ?_⟩
 replace h := h.grow k4
 refine aa (ae (v := (aV y2)) rfl) (nK (aa (ag Iu rfl) (aa (aA h 1 rfl aU rfl rfl) (nN (aO (nG (aa (bz rfl rfl) (aa (ae (v := (.bool (decide ((a.kind : Int) = 2)))) rfl) (nN (aI hs rfl (fun c5 hs => ?_) (fun c5 hs => ?_)))))))))))
 refine nG (aa (ah (v := (aV y2)) rfl) ?_)
 obtain ⟨a6, hs⟩ := bB hs
 refine aa (qc rfl rfl a6) (aa (ae (v := (aV ([118] ++ y2))) rfl) (nR (aF (ay (dD (v := (aV ([118] ++ y2))) Tryz.results106 rfl ?_)))))
 obtain rfl := fP hs
 exact ⟨h.grown, rfl⟩
 refine nG (aa (bz rfl rfl) (aa (ae (v := (.bool (decide ((a.kind : Int) = 3)))) rfl) (nN (aI hs rfl (fun c7 hs => ?_) (fun c7 hs => ?_)))))
 refine nG (aa (ag rz rfl) (aa (aA h 1 rfl aU rfl rfl) (aa (ag rz rfl) (aa (aA h 1 rfl aU rfl rfl) ?_))))
 obtain ⟨a8, hs⟩ := bB hs
 refine aa (dP rfl rfl a8) ?_
 obtain ⟨x9, e10, hs⟩ := aK hs
 obtain ⟨Zc, Zd, e11c, e11⟩ := SY e10
 refine aa (SX e11 Tryz.underlying9 rfl (.inr (congrArg some rfl)) (.inr (congrArg some rfl)) Zc Zd e11c) (aa (ae (v := (aV x9)) rfl) (nR (aF (ay (dD (v := (aV x9)) Tryz.results106 rfl ?_)))))
 obtain rfl := fP hs
 exact ⟨h.grown, rfl⟩
 refine nG (aa (bz rfl rfl) (aa (ae (v := (.bool (decide ((a.kind : Int) = 4)))) rfl) (nN (aI hs rfl (fun c12 hs => ?_) (fun c12 hs => ?_)))))
 refine nG (aa (ah (v := (aV y2)) rfl) ?_)
 obtain ⟨a13, hs⟩ := bB hs
 refine aa (qc rfl rfl a13) (aa (ae (v := (aV ([46] ++ y2))) rfl) (nR (aF (ay (dD (v := (aV ([46] ++ y2))) Tryz.results106 rfl ?_)))))
 obtain rfl := fP hs
 exact ⟨h.grown, rfl⟩
 refine nG (aa (bz rfl rfl) (aa (ae (v := (.bool (decide ((a.kind : Int) = 5)))) rfl) (nN (aI hs rfl (fun c14 hs => ?_) (fun c14 hs => ?_)))))
 refine nG (aa (ah (v := (aV y2)) rfl) ?_)
 obtain ⟨a15, hs⟩ := bB hs
 refine aa (qc rfl rfl a15) (aa (ae (v := (aV ([110, 101, 119] ++ y2))) rfl) (nR (aF (ay (dD (v := (aV ([110, 101, 119] ++ y2))) Tryz.results106 rfl ?_)))))
 obtain rfl := fP hs
 exact ⟨h.grown, rfl⟩
 refine nG (aa (bz rfl rfl) (aa (ae (v := (.bool (decide ((a.kind : Int) = 6)))) rfl) (nN (aI hs rfl (fun c16 hs => ?_) (fun c16 hs => ?_)))))
 refine nG (aa (ah (v := (aV y2)) rfl) ?_)
 obtain ⟨a17, hs⟩ := bB hs
 refine aa (qc rfl rfl a17) (aa (ae (v := (aV ([102] ++ y2))) rfl) (nR (aF (ay (dD (v := (aV ([102] ++ y2))) Tryz.results106 rfl ?_)))))
 obtain rfl := fP hs
 exact ⟨h.grown, rfl⟩
 refine aH (ax (ak (nG (aa (ah (v := (aV y2)) rfl) (aa (ae (v := (aV y2)) rfl) (nR (dD (v := (aV y2)) Tryz.results106 rfl ?_)))))))
 obtain rfl := fP hs
 exact ⟨h.grown, rfl⟩
def rC (x7 : Tok) (x4 : Str) (Lf : Str → Option Str) : Option Str :=
  (lQ x7).bind fun F8 => ib ([32].length + F8.length ≤ 9223372036854775807) (ib (x4.length + ([32] ++ F8).length ≤ 9223372036854775807) (Lf (x4 ++ ([32] ++ F8))))
def rD (x4 : Str) : Option Str :=
  some x4
def uN (a : List Tok) : Option Str :=
  each rC rD a []
theorem xC (w0 : World) (M : BS) (hM : ∀ b, M b → b < w0.heap.size) (hT : ze Tryz.prog 4 w0) (va : Value) (a : List Tok) (ha : gy nO w0 BE M va a) (r : Str) (hs : uN a = some r) :
    Calls Tryz.prog 147 #[va] w0 (fun e w' => Grow w0 w' ∧ e = .returned (aV r)) := by
 refine aQ (args := [va]) Tryz.func147 rfl Tryz.ntmps147 (bF rfl) ?_
 have h := SH.init hM
 replace h := h.gz 1 ha bH
 have vC := ha.bT
 refine nG (aa (ae (v := (aV [])) rfl) (nJ (aa (ae (v := (aV [])) rfl) (nK (aa (ah (v := va) rfl) (aa (bW nz rfl (h.iV 1 rfl)) (aa (ah (v := (I6 0)) rfl) (nN (aO (gu (σ := Nat × Int × Str) (inl ([3, 5] ++ rg 8 10)) (fun ⟨k5, i6, x4⟩ => [(3, (aV x4)), (8, (I6 i6))]) (fun ⟨k5, i6, x4⟩ w => SH w0 M BE w (hset [(1, .sr nO va a)]) ∧ i6 = (k5 : Int) ∧ each rC rD (a.drop k5) x4 = some r) (fun ⟨k5, i6, x4⟩ => a.length - k5) ⟨0, 0, []⟩ ⟨rfl, rfl, trivial⟩ ?_ ?_))))))))))
 exact ⟨h.cn _, rfl, hs⟩
 rintro ⟨k5, i6, x4⟩ w dO ⟨h, hik, hs⟩
 refine nG ?_
 refine aa (eB rfl rfl) (nN ?_)
 refine aM (gK rfl (fun e10 => ?_) (fun e10 => ?_))
 refine aH (ak ?_)
 obtain ⟨x7, Zc, Zd⟩ := fU (hik ▸ e10)
 rw [Zd, dV] at hs
 generalize Ze : each rC rD (a.drop (k5 + 1)) = Lf at hs
 have Zf := gm ((h.iV 1 rfl)).bT hik e10
 refine aM (aO (nG ?_))
 obtain ⟨b13, o14, cs15, h, r16, i12⟩ := h.zP 1 2 rfl nz rfl (iI hik) (fZ hik Zc)
 obtain rfl := r16
 refine aa (i12 _ _ _ _ _ _ _ _ _ rfl rfl) (aa (jo (k := 0) (vs := [(I6 x7.kind), (I6 x7.n)]) h 2 rfl mX rfl rfl rfl (bF rfl)) (bP h 3 mX fun w b17 h => dH (vs := [(I6 x7.kind), (I6 x7.n)]) h 3 [(I6 x7.kind), (I6 x7.n)] rfl mX rfl rfl rfl rfl rfl (ai rfl (ai rfl aS)) fun w h => nN (aC (aa (ah (v := (aV x4)) rfl) (aa (dK (vs := [(I6 x7.kind), (I6 x7.n)]) h 3 rfl mX rfl rfl rfl) ?_)))))
 obtain ⟨F8, e19, hs⟩ := aK hs
 refine aX PQ rfl rfl (ui _ _ h.lt (hT.go h.keep) x7 _ e19) ?_
 rintro _ w ⟨k20, rfl⟩
 refine ⟨_, rfl, ?_⟩
 replace h := h.grow k20
 obtain ⟨a21, hs⟩ := bB hs
 refine aa (qc rfl rfl a21) ?_
 obtain ⟨a22, hs⟩ := bB hs
 refine aa (qc rfl rfl a22) (aa (ae (v := (aV (x4 ++ ([32] ++ F8)))) rfl) (az (ax (ak (aC (aa (dP rfl rfl Zf) (aa (ah (v := (I6 ((i6 + 1)))) rfl) (az (au ?_)))))))))
 subst Ze
 exact jB ⟨k5 + 1, i6 + 1, (x4 ++ ([32] ++ F8))⟩ ⟨h.cn _, by omega, hs⟩ (by have := p8 e10; dsimp only; omega)
 rw [fV (hik ▸ e10), fQ] at hs
 refine nE (aa (ah (v := (aV x4)) rfl) (aa (ae (v := (aV x4)) rfl) (nR (dD (v := (aV x4)) Tryz.results147 rfl ?_))))
 obtain rfl := fP hs
 exact ⟨h.grown, rfl⟩
def qd (Lf : Str → Option Str) (yl : Str) : Option Str :=
  Lf yl
def qf (F0 : List bR → Option Str) (x7 : bR) (Lf : Str → Option Str) (x34 : Str) : Option Str :=
  bif decide ((x7.kind : Int) = 6) then (F0 x7.b).bind fun pV => ib ([32].length + pV.length ≤ 9223372036854775807) (ib (x34.length + ([32] ++ pV).length ≤ 9223372036854775807) (qd Lf (x34 ++ ([32] ++ pV)))) else qd Lf x34
def qg (F0 : List bR → Option Str) (x7 : bR) (a : List bR) (Lf : Str → Option Str) (x30 : Str) : Option Str :=
  (uN x7.e).bind fun uO => (uN x7.f).bind fun uP => ib (uO.length + uP.length ≤ 9223372036854775807) (ib (x30.length + (uO ++ uP).length ≤ 9223372036854775807) (bif (decide ((x7.kind : Int) = 6) || decide ((x7.kind : Int) = 7)) then (F0 x7.a).bind fun AU => ib ([32].length + AU.length ≤ 9223372036854775807) (ib ((x30 ++ (uO ++ uP)).length + ([32] ++ AU).length ≤ 9223372036854775807) (qf F0 x7 Lf ((x30 ++ (uO ++ uP)) ++ ([32] ++ AU)))) else qf F0 x7 Lf (x30 ++ (uO ++ uP))))
def qh (F0 : List bR → Option Str) (a : List bR) (x7 : bR) (x4 : Str) (Lf : Str → Option Str) : Option Str :=
  ib (jV (x7.kind - 1)) ((Im [115, 101, 116, 32, 112, 117, 116, 32, 115, 97, 121, 32, 112, 97, 117, 115, 101, 32, 103, 111, 32, 105, 102, 32, 119, 104, 105, 108, 101, 32, 114, 101, 116, 117, 114, 110]).bind fun Q7 => (idx Q7 (x7.kind - 1)).bind fun uQ => ib ([32].length + uQ.length ≤ 9223372036854775807) (ib (x4.length + ([32] ++ uQ).length ≤ 9223372036854775807) (bif decide ((x7.kind : Int) ≤ 2) then (Od x7.n).bind fun rY => ib ([32].length + rY.length ≤ 9223372036854775807) (ib ((x4 ++ ([32] ++ uQ)).length + ([32] ++ rY).length ≤ 9223372036854775807) (qg F0 x7 a Lf ((x4 ++ ([32] ++ uQ)) ++ ([32] ++ rY)))) else qg F0 x7 a Lf (x4 ++ ([32] ++ uQ)))))
def qi (x4 : Str) : Option Str :=
  ib (x4.length + [32, 125].length ≤ 9223372036854775807) (some (x4 ++ [32, 125]))
def wQ (F0 : List bR → Option Str) (a : List bR) : Option Str :=
  each (qh F0 a) qi a [123]
def l7 : Nat → List bR → Option Str
  | 0 => fun _ => none
  | N + 1 => wQ (l7 N)
theorem CJ : ∀ (N : Nat) (w0 : World) (M : BS) (hM : ∀ b, M b → b < w0.heap.size) (hT : ze Tryz.prog 4 w0) (va : Value) (a : List bR) (ha : gy gM w0 BE M va a) (r : Str) (hs : l7 N a = some r),
    Calls Tryz.prog 130 #[va] w0 (fun e w' => Grow w0 w' ∧ e = .returned (aV r)) := by
 intro N
 induction N with
 | zero => intro w0 M hM hT va a ha r hs; cases hs
 | succ N ih =>
 intro w0 M hM hT va a ha r hs
 replace hs : wQ (l7 N) a = some r := hs
 generalize l7 N = F0 at hs ih
 refine aQ (args := [va]) Tryz.func130 rfl Tryz.ntmps130 (bF rfl) ?_
 have h := SH.init hM
 replace h := h.gz 1 ha bH
 have vC := ha.bT
 refine nG (aa (ae (v := (aV [])) rfl) (nJ (aa (ae (v := (aV [123])) rfl) (nK (aa (ah (v := va) rfl) (aa (bW oC rfl (h.iV 1 rfl)) (aa (ah (v := (I6 0)) rfl) (nN (aO (gu (σ := Nat × Int × Str) (inl ([3, 5] ++ rg 8 55)) (fun ⟨k5, i6, x4⟩ => [(3, (aV x4)), (8, (I6 i6))]) (fun ⟨k5, i6, x4⟩ w => SH w0 M BE w (hset [(1, .sr gM va a)]) ∧ i6 = (k5 : Int) ∧ each (qh F0 a) qi (a.drop k5) x4 = some r) (fun ⟨k5, i6, x4⟩ => a.length - k5) ⟨0, 0, [123]⟩ ⟨rfl, rfl, trivial⟩ ?_ ?_))))))))))
 exact ⟨h.cn _, rfl, hs⟩
 rintro ⟨k5, i6, x4⟩ w dO ⟨h, hik, hs⟩
 refine nG ?_
 refine aa (eB rfl rfl) (nN ?_)
 refine aM (gK rfl (fun e10 => ?_) (fun e10 => ?_))
 refine aH (ak ?_)
 obtain ⟨x7, Zc, Zd⟩ := fU (hik ▸ e10)
 rw [Zd, dV] at hs
 generalize Ze : each (qh F0 a) qi (a.drop (k5 + 1)) = Lf at hs
 have Zf := gm ((h.iV 1 rfl)).bT hik e10
 refine bX (σ := Str) (inl ([3, 5] ++ rg 10 52)) (fun yl => [(3, (aV yl))]) (fun yl w => SH w0 M BE w (hset [(1, .sr gM va a)]) ∧ qd Lf yl = some r) ?_ ?_
 rintro yl w dO ⟨h, hs⟩
 refine aC (aa (dP rfl rfl Zf) (aa (ah (v := (I6 ((i6 + 1)))) rfl) (az (au ?_))))
 subst Ze
 exact jB ⟨k5 + 1, i6 + 1, yl⟩ ⟨h.cn _, by omega, hs⟩ (by have := p8 e10; dsimp only; omega)
 refine aO (nG ?_)
 obtain ⟨b14, o15, cs16, h, r17, i13⟩ := h.zP 1 2 rfl oC rfl (iI hik) (fZ hik Zc)
 obtain ⟨SC, u20, u22, u24, rfl, g19, g21, g23, g25⟩ := Dy r17
 replace h := h.dA 3 g19.up
 replace h := h.dA 4 g21.up.up
 replace h := h.dA 5 g23.up.up.up
 replace h := h.dA 6 g25.up.up.up.up
 refine aa (i13 _ _ _ _ _ _ _ _ _ rfl rfl) (aa (jo (k := 0) (vs := [(I6 x7.kind), (I6 x7.n), SC, u20, u22, u24]) h 2 rfl sD rfl rfl rfl (bF rfl)) (bP h 7 sD fun w b26 h => dH (vs := [(I6 x7.kind), (I6 x7.n), SC, u20, u22, u24]) h 7 [(I6 x7.kind), (I6 x7.n), SC, u20, u22, u24] rfl sD rfl rfl rfl rfl rfl (ai rfl (ai rfl (ai (h.iD 3 rfl).one (ai (h.iD 4 rfl).one (ai (h.iD 5 rfl).one (ai (h.iD 6 rfl).one aS)))))) fun w h => nN (aM (Dx mixed h fun w h => fT 0 (aP.refl BE _) rfl aj (by kernel_rfl) (by kernel_rfl) (by kernel_rfl) (fun w hk => ah (v := (aV x4)) rfl) (fT 2 (aP.refl BE _) rfl aj (by kernel_rfl) (by kernel_rfl) (by kernel_rfl) (fun w hk => ag mO rfl) (fT 3 (aP.refl BE _) rfl aj (by kernel_rfl) (by kernel_rfl) (by kernel_rfl) (fun w hk => have h := h.grow hk; aA h 7 rfl aU rfl rfl) ?_))))))
 obtain ⟨Mh, hs⟩ := bB hs
 refine fT 4 (aP.refl BE _) rfl aj (by kernel_rfl) (by kernel_rfl) (by kernel_rfl) (fun w hk => mV rfl rfl Mh) ?_
 obtain ⟨Zg, Q8⟩ : ∃ x, x = w := ⟨_, rfl⟩
 have xe : Grow Zg w := Q8 ▸ aP.refl BE w
 refine LA Q8.symm (su 1 (by kernel_rfl) rfl aj ?_)
 obtain ⟨Q7, Zh, hs⟩ := aK hs
 refine aX Vd rfl rfl (CG _ _ h.lt (hT.go h.keep) [115, 101, 116, 32, 112, 117, 116, 32, 115, 97, 121, 32, 112, 97, 117, 115, 101, 32, 103, 111, 32, 105, 102, 32, 119, 104, 105, 108, 101, 32, 114, 101, 116, 117, 114, 110] _ Zh) ?_
 rintro _ w ⟨Q9, uq27x1_3, rfl, Zi⟩
 refine ⟨_, rfl, ?_⟩
 replace h := h.NZ 20 Q9 Zi
 replace xe := xe.trans Q9
 refine az (kz xe ?_)
 obtain ⟨uQ, Ra, hs⟩ := aK hs
 obtain ⟨bq27x5_4, oq27x5_5, csq27x5_6, h, Zj, Zk⟩ := h.Cm 20 68 rfl gN rfl (aB Ra).1 (aB Ra).2
 obtain rfl := Zj
 refine uK 5 xe rfl (by kernel_rfl) (fun w hk => Zk _ _ _ _ _ _ _ _ _ rfl rfl) (wh_base xe ?_)
 obtain ⟨V7, Tt⟩ : ∃ x, x = w := ⟨_, rfl⟩
 have hgq27x6_2 : Grow V7 w := Tt ▸ aP.refl _ _
 refine fT 6 (aP.refl BE _) rfl aj (by kernel_rfl) (by kernel_rfl) (by kernel_rfl) (fun w hk => have h := h.grow hk; fq (k := 0) h 68 rfl Cy rfl rfl) ?_
 obtain ⟨Zl, hs⟩ := bB hs
 refine fT 7 (aP.refl BE _) rfl aj (by kernel_rfl) (by kernel_rfl) (by kernel_rfl) (fun w hk => qc rfl rfl Zl) ?_
 obtain ⟨Zm, hs⟩ := bB hs
 refine fT 8 (aP.refl BE _) rfl aj (by kernel_rfl) (by kernel_rfl) (by kernel_rfl) (fun w hk => qc rfl rfl Zm) (fT 9 (aP.refl BE _) rfl aj (by kernel_rfl) (by kernel_rfl) (by kernel_rfl) (fun w hk => ae (v := (aV (x4 ++ ([32] ++ uQ)))) rfl) (yS (by kernel_rfl) (ak (bX (σ := Str) (inl ([3] ++ rg 21 9)) (fun x30 => [(3, (aV x30))]) (fun x30 w => SH w0 M BE w (hset [(1, .sr gM va a), (3, .rd nO SC x7.e), (4, .rd nO u20 x7.f), (5, .rd gM u22 x7.a), (6, .rd gM u24 x7.b), (7, .blk b26 [(I6 x7.kind), (I6 x7.n), SC, u20, u22, u24])]) ∧ qg F0 x7 a Lf x30 = some r) ?_ ?_))))
 rintro x30 w dO ⟨h, hs⟩
 refine aM (Dx mixed h fun w h => fT 0 (aP.refl BE _) rfl aj (by kernel_rfl) (by kernel_rfl) (by kernel_rfl) (fun w hk => ah (v := (aV x30)) rfl) (fT 1 (aP.refl BE _) rfl aj (by kernel_rfl) (by kernel_rfl) (by kernel_rfl) (fun w hk => ag Cu rfl) (fT 2 (aP.refl BE _) rfl aj (by kernel_rfl) (by kernel_rfl) (by kernel_rfl) (fun w hk => have h := h.grow hk; aA h 7 rfl AR rfl rfl) (fT 4 (aP.refl BE _) rfl aj (by kernel_rfl) (by kernel_rfl) (by kernel_rfl) (fun w hk => ag EL rfl) (fT 5 (aP.refl BE _) rfl aj (by kernel_rfl) (by kernel_rfl) (by kernel_rfl) (fun w hk => have h := h.grow hk; aA h 7 rfl AR rfl rfl) ?_)))))
 obtain ⟨Tu, Rb⟩ : ∃ x, x = w := ⟨_, rfl⟩
 have qX : Grow Tu w := Rb ▸ aP.refl BE w
 refine LA Rb.symm (su 3 (by kernel_rfl) rfl aj ?_)
 obtain ⟨uO, Zn, hs⟩ := aK hs
 refine aX Vh rfl rfl (xC _ _ h.lt (hT.go h.keep) SC x7.e (h.ny 3 rfl) _ Zn) ?_
 rintro _ w ⟨Rc, rfl⟩
 refine ⟨_, rfl, ?_⟩
 replace h := h.grow Rc
 replace qX := qX.trans Rc
 refine az (kz qX (su 6 (by kernel_rfl) rfl aj ?_))
 obtain ⟨uP, Zo, hs⟩ := aK hs
 refine aX Vh rfl rfl (xC _ _ h.lt (hT.go h.keep) u20 x7.f (h.ny 4 rfl) _ Zo) ?_
 rintro _ w ⟨Re, rfl⟩
 refine ⟨_, rfl, ?_⟩
 replace h := h.grow Re
 replace qX := qX.trans Re
 refine az (kz qX ?_)
 obtain ⟨Zp, hs⟩ := bB hs
 refine uK 7 qX rfl (by kernel_rfl) (fun w hk => qc rfl rfl Zp) ?_
 obtain ⟨Zq, hs⟩ := bB hs
 refine uK 8 qX rfl (by kernel_rfl) (fun w hk => qc rfl rfl Zq) (uK 9 qX rfl (by kernel_rfl) (fun w hk => ae (v := (aV (x30 ++ (uO ++ uP)))) rfl) (yS (by kernel_rfl) (ak (bX (σ := Str) (inl ([3] ++ rg 39 14)) (fun x34 => [(3, (aV x34))]) (fun x34 w => SH w0 M BE w (hset [(1, .sr gM va a), (3, .rd nO SC x7.e), (4, .rd nO u20 x7.f), (5, .rd gM u22 x7.a), (6, .rd gM u24 x7.b), (7, .blk b26 [(I6 x7.kind), (I6 x7.n), SC, u20, u22, u24])]) ∧ qf F0 x7 Lf x34 = some r) ?_ ?_))))
 rintro x34 w dO ⟨h, hs⟩
 refine nG (aa (ag mO rfl) (aa (aA h 7 rfl aU rfl rfl) (aa (bz rfl rfl) (nN (aI hs rfl (fun c35 hs => ?_) (fun c35 hs => ?_))))))
 refine aC (aa (ah (v := (aV x34)) rfl) (aa (ag Cw rfl) (aa (aA h 7 rfl ug rfl rfl) ?_)))
 obtain ⟨pV, e37, hs⟩ := aK hs
 refine aX PU rfl rfl (ih _ _ h.lt (hT.go h.keep) u24 x7.b (h.ny 6 rfl) _ e37) ?_
 rintro _ w ⟨Vl, rfl⟩
 refine ⟨_, rfl, ?_⟩
 replace h := h.grow Vl
 obtain ⟨a39, hs⟩ := bB hs
 refine aa (qc rfl rfl a39) ?_
 obtain ⟨a40, hs⟩ := bB hs
 refine aa (qc rfl rfl a40) (aa (ae (v := (aV (x34 ++ ([32] ++ pV)))) rfl) (az (ax (au ?_))))
 exact bQ (x34 ++ ([32] ++ pV)) ⟨h.cn _, hs⟩
 refine aH (ax (au ?_))
 exact bQ x34 ⟨h.cn _, hs⟩
 refine nG (aa (ag mO rfl) (aa (aA h 7 rfl aU rfl rfl) (aa (bz rfl rfl) (aa (ah (v := (.bool (decide ((x7.kind : Int) = 6)))) rfl) (aG rfl rfl (fun q => ag mO rfl) (aG rfl rfl (fun q => aA h 7 rfl aU (eD q) rfl) (aG rfl rfl (fun q => bz (eD q) rfl) (aa (iJ rfl rfl nC) (nN (aI hs rfl (fun c41 hs => ?_) (fun c41 hs => ?_)))))))))))
 refine aC (aa (ah (v := (aV (x30 ++ (uO ++ uP)))) rfl) (aa (ag Cv rfl) (aa (aA h 7 rfl ug rfl rfl) ?_)))
 obtain ⟨AU, e43, hs⟩ := aK hs
 refine aX PU rfl rfl (ih _ _ h.lt (hT.go h.keep) u22 x7.a (h.ny 5 rfl) _ e43) ?_
 rintro _ w ⟨k44, rfl⟩
 refine ⟨_, rfl, ?_⟩
 replace h := h.grow k44
 obtain ⟨a45, hs⟩ := bB hs
 refine aa (qc rfl rfl a45) ?_
 obtain ⟨a46, hs⟩ := bB hs
 refine aa (qc rfl rfl a46) (aa (ae (v := (aV ((x30 ++ (uO ++ uP)) ++ ([32] ++ AU)))) rfl) (az (au ?_)))
 exact bQ ((x30 ++ (uO ++ uP)) ++ ([32] ++ AU)) ⟨h.cn _, hs⟩
 refine aH (au ?_)
 exact bQ (x30 ++ (uO ++ uP)) ⟨h.cn _, hs⟩
 refine nG (aa (ag mO rfl) (aa (aA h 7 rfl aU rfl rfl) (aa (Gh rfl rfl) (nN (aI hs rfl (fun c47 hs => ?_) (fun c47 hs => ?_))))))
 refine aC (aa (ah (v := (aV (x4 ++ ([32] ++ uQ)))) rfl) (aa (ag zg rfl) (aa (aA h 7 rfl aU rfl rfl) ?_)))
 obtain ⟨rY, e49, hs⟩ := aK hs
 refine aX Le rfl rfl (xB _ _ h.lt (hT.go h.keep) x7.n _ e49) ?_
 rintro _ w ⟨X5, rfl⟩
 refine ⟨_, rfl, ?_⟩
 replace h := h.grow X5
 obtain ⟨a51, hs⟩ := bB hs
 refine aa (qc rfl rfl a51) ?_
 obtain ⟨a52, hs⟩ := bB hs
 refine aa (qc rfl rfl a52) (aa (ae (v := (aV ((x4 ++ ([32] ++ uQ)) ++ ([32] ++ rY)))) rfl) (az (au ?_)))
 exact bQ ((x4 ++ ([32] ++ uQ)) ++ ([32] ++ rY)) ⟨h.cn _, hs⟩
 refine aH (au ?_)
 exact bQ (x4 ++ ([32] ++ uQ)) ⟨h.cn _, hs⟩
 rw [fV (hik ▸ e10), fQ] at hs
 refine nE (aa (ah (v := (aV x4)) rfl) ?_)
 obtain ⟨a53, hs⟩ := bB hs
 refine aa (qc rfl rfl a53) (aa (ae (v := (aV (x4 ++ [32, 125]))) rfl) (nR (dD (v := (aV (x4 ++ [32, 125]))) Tryz.results130 rfl ?_)))
 obtain rfl := fP hs
 exact ⟨h.grown, rfl⟩
theorem Mi (w0 : World) (M : BS) (hM : ∀ b, M b → b < w0.heap.size) (va : Value) (a : List Str) (ha : gy rV w0 BE M va a) (b : Str) (r : Str) (hs : Yu a b = some r) :
    Calls Tryz.prog 131 #[va, aV b] w0 (fun e w' => Grow w0 w' ∧ e = .returned (aV r)) :=
  join_w Tryz.strings_Join_none Tryz.strings_Join ha hs
def qj (N : Nat) (gB : iw) (x8 : List Str) (ql : List Str → Option Str) : Option Str :=
  (Od gB.params).bind fun tO => ib ([102, 117, 110, 32].length + tO.length ≤ 9223372036854775807) (ib (([102, 117, 110, 32] ++ tO).length + [32].length ≤ 9223372036854775807) ((Od gB.locals).bind fun vY => ib ((([102, 117, 110, 32] ++ tO) ++ [32]).length + vY.length ≤ 9223372036854775807) (ib (((([102, 117, 110, 32] ++ tO) ++ [32]) ++ vY).length + [32].length ≤ 9223372036854775807) ((l7 N gB.body).bind fun wR => ib ((((([102, 117, 110, 32] ++ tO) ++ [32]) ++ vY) ++ [32]).length + wR.length ≤ 9223372036854775807) (ib (Room 16 x8 [((((([102, 117, 110, 32] ++ tO) ++ [32]) ++ vY) ++ [32]) ++ wR)]) (ql (x8 ++ [((((([102, 117, 110, 32] ++ tO) ++ [32]) ++ vY) ++ [32]) ++ wR)])))))))
def qm (x8 : List Str) : Option Str :=
  (Yu x8 [32]).bind fun Lg => some Lg
def xD (N : Nat) (a : List iw) : Option Str :=
  each (qj N) qm a []
theorem BV (N : Nat) (w0 : World) (M : BS) (hM : ∀ b, M b → b < w0.heap.size) (hT : ze Tryz.prog 4 w0) (va : Value) (a : List iw) (ha : gy kD w0 BE M va a) (r : Str) (hs : xD N a = some r) :
    Calls Tryz.prog 113 #[va] w0 (fun e w' => Grow w0 w' ∧ e = .returned (aV r)) := by
 refine aQ (args := [va]) Tryz.func113 rfl Tryz.ntmps113 (bF rfl) ?_
 have h := SH.init hM
 replace h := h.gz 1 ha bH
 have vC := ha.bT
 refine nG (aa (ae (v := (aV [])) rfl) (nJ (aa (ae (v := (.slice none 0 0)) rfl) (nK (aa (ah (v := va) rfl) (aa (bW jR rfl (h.iV 1 rfl)) (aa (ah (v := (I6 0)) rfl) (nN (aO ?_)))))))))
 replace h := h.yj (R := rV) (E := 9) 5
 refine gu (σ := Nat × Int × Value × List Str) (inl ([3, 5] ++ rg 8 22)) (fun ⟨k9, i10, v7, x8⟩ => [(3, v7), (8, (I6 i10))]) (fun ⟨k9, i10, v7, x8⟩ w => SH w0 M BE w (hset [(1, .sr kD va a), (5, .own rV 9 v7 x8)]) ∧ i10 = (k9 : Int) ∧ each (qj N) qm (a.drop k9) x8 = some r) (fun ⟨k9, i10, v7, x8⟩ => a.length - k9) ⟨0, 0, (.slice none 0 0), []⟩ ⟨rfl, rfl, trivial⟩ ?_ ?_
 exact ⟨h.cn _, rfl, hs⟩
 rintro ⟨k9, i10, v7, x8⟩ w dO ⟨h, hik, hs⟩
 refine nG ?_
 refine aa (eB rfl rfl) (nN ?_)
 refine aM (gK rfl (fun e14 => ?_) (fun e14 => ?_))
 refine aH (ak ?_)
 obtain ⟨gB, Tv, Tw⟩ := fU (hik ▸ e14)
 rw [Tw, dV] at hs
 generalize Mj : each (qj N) qm (a.drop (k9 + 1)) = ql at hs
 have Tx := gm ((h.iV 1 rfl)).bT hik e14
 refine aM (aO (nG ?_))
 obtain ⟨b17, o18, cs19, h, Zr, i16⟩ := h.zP 1 6 rfl jR rfl (iI hik) (fZ hik Tv)
 obtain ⟨u21, rfl, g22⟩ := wK Zr
 replace h := h.dA 7 g22.up
 refine aa (i16 _ _ _ _ _ _ _ _ _ rfl rfl) (aa (jo (k := 0) (vs := [(I6 gB.params), (I6 gB.locals), u21]) h 6 rfl pU rfl rfl rfl (bF rfl)) (bP h 8 pU fun w FL h => dH (vs := [(I6 gB.params), (I6 gB.locals), u21]) h 8 [(I6 gB.params), (I6 gB.locals), u21] rfl pU rfl rfl rfl rfl rfl (ai rfl (ai rfl (ai (h.iD 7 rfl).one aS))) fun w h => nN (kI (L := (ob v7)) mixed h fun w h => bE 0 (aP.refl _ _) rfl aj (by kernel_rfl) (by kernel_rfl) (by kernel_rfl) (fun w hk => ah (v := v7) rfl) (bE 1 (aP.refl _ _) rfl aj (by kernel_rfl) (by kernel_rfl) (by kernel_rfl) (fun w hk => ag zf rfl) (bE 2 (aP.refl _ _) rfl aj (by kernel_rfl) (by kernel_rfl) (by kernel_rfl) (fun w hk => have h := h.qB 5 rfl hk; aA h 8 rfl aU rfl rfl) (bE 6 (aP.refl _ _) rfl aj (by kernel_rfl) (by kernel_rfl) (by kernel_rfl) (fun w hk => ag Ct rfl) (bE 7 (aP.refl _ _) rfl aj (by kernel_rfl) (by kernel_rfl) (by kernel_rfl) (fun w hk => have h := h.qB 5 rfl hk; aA h 8 rfl aU rfl rfl) (bE 11 (aP.refl _ _) rfl aj (by kernel_rfl) (by kernel_rfl) (by kernel_rfl) (fun w hk => ag EK rfl) (bE 12 (aP.refl _ _) rfl aj (by kernel_rfl) (by kernel_rfl) (by kernel_rfl) (fun w hk => have h := h.qB 5 rfl hk; aA h 8 rfl ug rfl rfl) ?_)))))))))
 obtain ⟨Zg, Q8⟩ : ∃ x, x = w := ⟨_, rfl⟩
 have xe : aP (ob v7) Zg w := Q8 ▸ aP.refl (ob v7) w
 refine rf Q8.symm (bA 3 (by kernel_rfl) rfl aj ?_)
 obtain ⟨tO, Zt, hs⟩ := aK hs
 refine aX Le rfl rfl (xB _ _ h.lt (hT.go h.keep) gB.params _ Zt) ?_
 rintro _ w ⟨Rf, rfl⟩
 refine ⟨_, rfl, ?_⟩
 replace h := h.grow Rf
 replace xe := xe.grow Rf
 refine az (aR xe ?_)
 obtain ⟨Mh, hs⟩ := bB hs
 refine dG 4 xe rfl (by kernel_rfl) (fun w hk => qc rfl rfl Mh) ?_
 obtain ⟨Zu, hs⟩ := bB hs
 refine dG 5 xe rfl (by kernel_rfl) (fun w hk => qc rfl rfl Zu) (bA 8 (by kernel_rfl) rfl aj ?_)
 obtain ⟨vY, Zv, hs⟩ := aK hs
 refine aX Le rfl rfl (xB _ _ h.lt (hT.go h.keep) gB.locals _ Zv) ?_
 rintro _ w ⟨Rh, rfl⟩
 refine ⟨_, rfl, ?_⟩
 replace h := h.grow Rh
 replace xe := xe.grow Rh
 refine az (aR xe ?_)
 obtain ⟨Zw, hs⟩ := bB hs
 refine dG 9 xe rfl (by kernel_rfl) (fun w hk => qc rfl rfl Zw) ?_
 obtain ⟨V8, hs⟩ := bB hs
 refine dG 10 xe rfl (by kernel_rfl) (fun w hk => qc rfl rfl V8) (bA 13 (by kernel_rfl) rfl aj ?_)
 obtain ⟨wR, V9, hs⟩ := aK hs
 refine aX PU rfl rfl (CJ N _ _ h.lt (hT.go h.keep) u21 gB.body (h.ny 7 rfl) _ V9) ?_
 rintro _ w ⟨Ov, rfl⟩
 refine ⟨_, rfl, ?_⟩
 replace h := h.grow Ov
 replace xe := xe.grow Ov
 refine az (aR xe ?_)
 obtain ⟨Wd, hs⟩ := bB hs
 refine dG 14 xe rfl (by kernel_rfl) (fun w hk => qc rfl rfl Wd) (bA 15 (by kernel_rfl) rfl aj (xu (R := rV) (vs := [(aV ((((([102, 117, 110, 32] ++ tO) ++ [32]) ++ vY) ++ [32]) ++ wR))]) (xs := [((((([102, 117, 110, 32] ++ tO) ++ [32]) ++ vY) ++ [32]) ++ wR)]) h 189 Ou rfl rfl rfl ⟨rfl, trivial⟩ rfl fun w We h Ty Tz => ?_))
 have uq27x15_1q : ∀ b, ob We b → Zg.heap.size ≤ b := fun b hb => Nat.le_trans xe.size (Tz b hb)
 replace xe := xe.grow Ty
 refine az (aR xe (bA 16 (by kernel_rfl) rfl aj ?_))
 obtain ⟨Ow, hs⟩ := bB hs
 have uq27x16_2z := xe.size
 refine mF (R := rV) (m := [((((([102, 117, 110, 32] ++ tO) ++ [32]) ++ vY) ++ [32]) ++ wR)]) h 5 rfl (h.eG 189 rfl) Ou rfl rfl rfl Ow.1 Ow.2 fun w Jp h TA TB => ?_
 have uq27x16_2q : ∀ b, ob Jp b → b < Zg.heap.size → ob v7 b := fun b hb hl => TB b hb (Nat.lt_of_lt_of_le hl (xe).size)
 replace xe := xe.same TA
 refine az (aR xe (dG 17 xe rfl (by kernel_rfl) (fun w hk => ae (v := Jp) rfl) (fK (by kernel_rfl) (ax (ak (aC (aa (dP rfl rfl Tx) (aa (ah (v := (I6 ((i10 + 1)))) rfl) (az (au ?_))))))))))
 subst Mj
 exact jB ⟨k9 + 1, i10 + 1, Jp, (x8 ++ [((((([102, 117, 110, 32] ++ tO) ++ [32]) ++ vY) ++ [32]) ++ wR)])⟩ ⟨h.cn _, by omega, hs⟩ (by have := p8 e14; dsimp only; omega)
 rw [fV (hik ▸ e14), fQ] at hs
 refine nE (aa (ah (v := v7) rfl) ?_)
 obtain ⟨Lg, e31, hs⟩ := aK hs
 refine aX fnOk131 rfl rfl (Mi _ _ h.lt v7 x8 (h.eG 5 rfl) [32] _ e31) ?_
 rintro _ w ⟨k32, rfl⟩
 refine ⟨_, rfl, ?_⟩
 replace h := h.grow k32
 refine aa (ae (v := (aV Lg)) rfl) (nR (dD (v := (aV Lg)) Tryz.results113 rfl ?_))
 obtain rfl := fP hs
 exact ⟨h.grown, rfl⟩
def stringslite_HasPrefix (a : Str) (b : Str) : Option Bool :=
  bif decide (((b.length : Int) : Int) ≤ (a.length : Int)) then (subs? a 0 (b.length : Int)).bind fun x2 => some (decide ((x2 : Str) = b)) else some false
theorem CK (w0 : World) (M : BS) (hM : ∀ b, M b → b < w0.heap.size) (a : Str) (b : Str) (r : Bool) (hs : stringslite_HasPrefix a b = some r) :
    Calls Tryz.prog 141 #[(aV a), (aV b)] w0 (fun e w' => Grow w0 w' ∧ e = .returned (.bool r)) := by
 refine aQ (args := [(aV a), (aV b)]) Tryz.func141 rfl Tryz.ntmps141 (bF rfl) ?_
 have h := SH.init hM
 refine nG (aa (ae (v := (.bool (false))) rfl) (nJ (aa (ah (v := (aV a)) rfl) (aa (Pp Tryz.underlying9 rfl) (aa (ah (v := (aV b)) rfl) (aa (Pp Tryz.underlying9 rfl) (aa (qV rfl rfl) (aa (ah (v := (.bool (decide (((b.length : Int) : Int) ≤ (a.length : Int))))) rfl) (kT (b := decide (((b.length : Int) : Int) ≤ (a.length : Int))) hs (fun c1 hs => ?_) (fun c1 hs => ?_))))))))))
 refine eT rfl (cB c1) (aa (ah (v := (aV a)) rfl) (eT rfl (cB c1) (aa (ah (v := (aV b)) rfl) (eT rfl (cB c1) (aa (Pp Tryz.underlying9 rfl) (eT rfl (cB c1) ?_))))))
 obtain ⟨x2, e3, hs⟩ := aK hs
 obtain ⟨e4a, e4b, e4c, e4⟩ := SY e3
 refine aa (SX e4 Tryz.underlying9 rfl (.inl ⟨rfl, rfl⟩) (.inr (congrArg some rfl)) e4a e4b e4c) (eT rfl (cB c1) (aa (ah (v := (aV b)) rfl) (eT rfl (cB c1) (aa (Jh rfl rfl) (aa (fB (b := true) (v := (.bool (decide ((x2 : Str) = b)))) (cB c1) rfl) (aa (ae (v := (.bool (decide ((x2 : Str) = b)))) rfl) (nR (dD (v := (.bool (decide ((x2 : Str) = b)))) Tryz.results141 rfl ?_))))))))
 obtain rfl := fP hs
 exact ⟨h.grown, rfl⟩
 refine vT rfl (cB c1) rfl (vT rfl (cB c1) rfl (vT rfl (cB c1) rfl (vT rfl (cB c1) rfl (vT rfl (cB c1) rfl (vT rfl (cB c1) rfl (aa (fB (b := false) (v := (.bool (false))) (cB c1) rfl) (aa (ae (v := (.bool (false))) rfl) (nR (dD (v := (.bool (false))) Tryz.results141 rfl ?_)))))))))
 obtain rfl := fP hs
 exact ⟨h.grown, rfl⟩
def stringslite_TrimPrefix (a : Str) (b : Str) : Option Str :=
  (stringslite_HasPrefix a b).bind fun y1 => bif y1 then (subs? a (b.length : Int) (a.length : Int)).bind fun x5 => some x5 else some a
theorem BX (w0 : World) (M : BS) (hM : ∀ b, M b → b < w0.heap.size) (a : Str) (b : Str) (r : Str) (hs : stringslite_TrimPrefix a b = some r) :
    Calls Tryz.prog 124 #[(aV a), (aV b)] w0 (fun e w' => Grow w0 w' ∧ e = .returned (aV r)) := by
 refine aQ (args := [(aV a), (aV b)]) Tryz.func124 rfl Tryz.ntmps124 (bF rfl) ?_
 have h := SH.init hM
 refine nG (aa (ae (v := (aV [])) rfl) (nK (aa (ah (v := (aV a)) rfl) (aa (ah (v := (aV b)) rfl) ?_))))
 obtain ⟨y1, e2, hs⟩ := aK hs
 refine aX fnOk141 rfl rfl (CK _ _ h.lt a b _ e2) ?_
 rintro _ w ⟨k3, rfl⟩
 refine ⟨_, rfl, ?_⟩
 replace h := h.grow k3
 refine nN (aI hs rfl (fun c4 hs => ?_) (fun c4 hs => ?_))
 refine nG (aa (ah (v := (aV a)) rfl) (aa (ah (v := (aV b)) rfl) (aa (Pp Tryz.underlying9 rfl) ?_)))
 obtain ⟨x5, e6, hs⟩ := aK hs
 obtain ⟨e7a, e7b, e7c, e7⟩ := SY e6
 refine aa (SX e7 Tryz.underlying9 rfl (.inr (congrArg some rfl)) (.inl ⟨rfl, rfl⟩) e7a e7b e7c) (aa (ae (v := (aV x5)) rfl) (nR (ay (dD (v := (aV x5)) Tryz.results124 rfl ?_))))
 obtain rfl := fP hs
 exact ⟨h.grown, rfl⟩
 refine nS (aa (ah (v := (aV a)) rfl) (aa (ae (v := (aV a)) rfl) (nR (dD (v := (aV a)) Tryz.results124 rfl ?_))))
 obtain rfl := fP hs
 exact ⟨h.grown, rfl⟩
def strings_TrimPrefix (a : Str) (b : Str) : Option Str :=
  (stringslite_TrimPrefix a b).bind fun y1 => some y1
theorem EM (w0 : World) (M : BS) (hM : ∀ b, M b → b < w0.heap.size) (a : Str) (b : Str) (r : Str) (hs : strings_TrimPrefix a b = some r) :
    Calls Tryz.prog 105 #[(aV a), (aV b)] w0 (fun e w' => Grow w0 w' ∧ e = .returned (aV r)) := by
 refine aQ (args := [(aV a), (aV b)]) Tryz.func105 rfl Tryz.ntmps105 (bF rfl) ?_
 have h := SH.init hM
 refine nG (aa (ae (v := (aV [])) rfl) (nJ (aa (ah (v := (aV a)) rfl) (aa (ah (v := (aV b)) rfl) ?_))))
 obtain ⟨y1, e2, hs⟩ := aK hs
 refine aX fnOk124 rfl rfl (BX _ _ h.lt a b _ e2) ?_
 rintro _ w ⟨k3, rfl⟩
 refine ⟨_, rfl, ?_⟩
 replace h := h.grow k3
 refine aa (ae (v := (aV y1)) rfl) (nR (dD (v := (aV y1)) Tryz.results105 rfl ?_))
 obtain rfl := fP hs
 exact ⟨h.grown, rfl⟩
def sN (a : List Str) (b : Str) (i2 : Int) (s : Unit) (KG : Unit → Option Int) : Option Int :=
  (idx a i2).bind fun x8 => bif decide ((b : Str) = x8) then some i2 else KG ()
def sO (s : Unit) : Option Int :=
  some (-1)
def slices_Index_string (a : List Str) (b : Str) : Option Int :=
  upto (sN a b) sO 0 ((a.length : Int)).toNat ()
theorem Em (w0 : World) (M : BS) (hM : ∀ b, M b → b < w0.heap.size) (va : Value) (a : List Str) (ha : gy rV w0 BE M va a) (b : Str) (r : Int) (hs : slices_Index_string a b = some r) :
    Calls Tryz.prog 110 #[va, (aV b)] w0 (fun e w' => Grow w0 w' ∧ e = .returned (.int .i64 r)) := by
 refine aQ (args := [va, (aV b)]) Tryz.func110 rfl Tryz.ntmps110 (bF rfl) ?_
 have h := SH.init hM
 replace h := h.gz 1 ha bH
 have vC := ha.bT
 refine nG (aa (ae (v := (I6 0)) rfl) (nK (aa (ah (v := va) rfl) (aa (bW gN rfl (h.iV 1 rfl)) (aa (ah (v := (I6 0)) rfl) (nN (aO ?_)))))))
 have hli2 := (h.iV 1 rfl).bT
 refine gu (σ := Nat × Int) (inl ([4, 5] ++ rg 8 11)) (fun ⟨k1, i2⟩ => [(8, (I6 i2))]) (fun ⟨k1, i2⟩ w => SH w0 M BE w (hset [(1, .sr rV va a)]) ∧ i2 = (k1 : Int) ∧ upto (sN a b) sO i2 (((a.length : Int)).toNat - k1) () = some r) (fun ⟨k1, i2⟩ => ((a.length : Int)).toNat - k1) ⟨0, 0⟩ ⟨rfl, trivial⟩ ?_ ?_
 exact ⟨h.cn _, rfl, hs⟩
 rintro ⟨k1, i2⟩ w dO ⟨h, hik, hs⟩
 refine nG ?_
 refine aa (eB rfl rfl) (nN ?_)
 refine aM (gK rfl (fun e6 => ?_) (fun e6 => ?_))
 refine aH (ak ?_)
 rw [si (by have := p8 e6; omega)] at hs
 generalize Y9 : upto (sN a b) sO (i2 + 1) (((a.length : Int)).toNat - (k1 + 1)) = KG at hs
 have e7r : jV (i2 + 1) := (by have := p8 e6; have := hli2; exact jV.mk (by omega) (by omega))
 refine aM (aO (nG (aa (ah (v := (I6 i2)) rfl) (aa (ae (v := (I6 i2)) rfl) (nJ (aa (ah (v := (aV b)) rfl) (aa (ah (v := va) rfl) (aa (ah (v := (I6 i2)) rfl) ?_))))))))
 obtain ⟨x8, e9, hs⟩ := aK hs
 obtain ⟨b11, o12, cs13, h, r14, i10⟩ := h.zP 1 2 rfl gN rfl (aB e9).1 (aB e9).2
 obtain rfl := r14
 refine aa (i10 _ _ _ _ _ _ _ _ _ rfl rfl) (aa (fq (k := 0) h 2 rfl Cy rfl rfl) (aa (Jh rfl rfl) (nN (aI hs rfl (fun c15 hs => ?_) (fun c15 hs => ?_)))))
 refine nG (aa (ah (v := (I6 i2)) rfl) (aa (ae (v := (I6 i2)) rfl) (nR (aF (ay (ay (aF (ay (dD (v := (I6 i2)) Tryz.results110 rfl ?_)))))))))
 obtain rfl := fP hs
 exact ⟨h.grown, rfl⟩
 refine aH (ax (ak (aC (aa (dP rfl rfl e7r) (aa (ah (v := (I6 ((i2 + 1)))) rfl) (az (au ?_)))))))
 subst Y9
 exact jB ⟨k1 + 1, i2 + 1⟩ ⟨h.cn _, by omega, hs⟩ (by have := p8 e6; dsimp only; omega)
 rw [sj (by have := of_decide_eq_false e6; omega)] at hs
 refine nE (aa (ae (v := (I6 (-1))) rfl) (nR (dD (v := (I6 (-1))) Tryz.results110 rfl ?_)))
 obtain rfl := fP hs
 exact ⟨h.grown, rfl⟩
def DR (DT : Int) (P5 : (Int × Int × Int) → Option (List Tok × fJ)) (BD : Int) (Dv : Int) : Option (List Tok × fJ) :=
  ib (jV (DT + 1)) (P5 ((DT + 1), BD, Dv))
def DU (x29 : Str) (qW : List Tok) (F : List iw) (y31 : Int) (Av : Int) (CF : (List Tok × Int × Bool × Int) → Option (List Tok × fJ)) (Lg : Bool) (s : Int × Int × Int) (P5 : Int × Int × Int → Option (List Tok × fJ)) : Option (List Tok × fJ) :=
  match s with | (DT, BF, yn) => bif decide ((DT : Int) ≤ 5) then (lQ (⟨3, DT⟩ : Tok)).bind fun Lh => bif decide ((Lh : Str) = x29) then DR DT P5 3 DT else DR DT P5 BF yn else ib (Room 16 qW [(⟨BF, yn⟩ : Tok)]) (bif (decide (((gJ (⟨BF, yn⟩ : Tok) F 6) : Int) ≠ 0) || decide ((24 : Int) < ((qW ++ [(⟨BF, yn⟩ : Tok)]).length : Int))) then some ((qW ++ [(⟨BF, yn⟩ : Tok)]), (⟨y31, false⟩ : fJ)) else (vD (⟨BF, yn⟩ : Tok) F).bind fun y81 => ib (jV (Av + y81)) (ib (jV ((Av + y81) - 1)) (CF ((qW ++ [(⟨BF, yn⟩ : Tok)]), ((Av + y81) - 1), Lg, y31))))
def xE (zR : (Int × Str)) (vQ : Int × Bool) (SE : Int) (AU : Int) (x94 : Bool) : Option (Int × Int) :=
  bif x94 then some (zR.1, vQ.1) else some (SE, AU)
def sP (x29 : Str) (zR : (Int × Str)) (s : Int × Int) : Option (Int × Int) :=
  match s with | (SE, AU) => (strings_TrimPrefix x29 zR.2).bind fun BZ => (EF BZ).bind fun vQ => bif (!vQ.2) then (lQ (⟨zR.1, vQ.1⟩ : Tok)).bind fun vU => xE zR vQ SE AU (decide ((vU : Str) = x29)) else xE zR vQ SE AU false
def Iz (N : Nat) (x29 : Str) (qW : List Tok) (F : List iw) (y31 : Int) (Av : Int) (CF : (List Tok × Int × Bool × Int) → Option (List Tok × fJ)) (Lg : Bool) (s : Int × Int) : Option (List Tok × fJ) :=
  match s with | (SE, AU) => again (DU x29 qW F y31 Av CF Lg) N (1, SE, AU)
def xG (N : Nat) (qW : List Tok) (F : List iw) (Av : Int) (CF : (List Tok × Int × Bool × Int) → Option (List Tok × fJ)) (x29 : Str) (Lg : Bool) (y31 : Int) : Option (List Tok × fJ) :=
  (BK (sP x29) ([(2, [118]), (4, [46]), (5, [110, 101, 119]), (6, [102]), (1, [])] : List (Int × Str)) (0, 0)).bind fun Ri => (Iz N x29 qW F y31 Av CF Lg) Ri
def xH (N : Nat) (W : List Str) (F : List iw) (s : List Tok × Int × Bool × Int) (CF : List Tok × Int × Bool × Int → Option (List Tok × fJ)) : Option (List Tok × fJ) :=
  match s with | (qW, Av, KH, y20) => bif (decide ((0 : Int) < Av) && KH) then bif decide (((W.length : Int) : Int) ≤ y20) then xG N qW F Av CF [] false y20 else ib (jV (y20 + 1)) (ib (jV ((y20 + 1) - 1)) ((idx W ((y20 + 1) - 1)).bind fun x103 => xG N qW F Av CF x103 KH (y20 + 1))) else some (qW, (⟨y20, KH⟩ : fJ))
def IA (N : Nat) (sx : fJ) (W : List Str) (F : List iw) : Option (List Tok × fJ) :=
  again (xH N W F) N ([], 1, sx.ok, sx.at_)
theorem Ox (N : Nat) (w0 : World) (M : BS) (hM : ∀ b, M b → b < w0.heap.size) (hT : ze Tryz.prog 4 w0) (ba bo bw bwd bf : Nat) (sx : fJ) (hC : Chunk.holds w0 M (Chunk.own' (.two (.blk ba [(I6 sx.at_)]) (.blk bo [(.bool (sx.ok))]) : Chunk)) (.two (.blk ba [(I6 sx.at_)]) (.blk bo [(.bool (sx.ok))]) : Chunk)) (hap : ∀ b, Chunk.own' (.two (.blk ba [(I6 sx.at_)]) (.blk bo [(.bool (sx.ok))]) : Chunk) b → ¬ M b) (vW : Value) (W : List Str) (hvW : gX rV w0 (fun b => M b ∨ Chunk.own' (.two (.blk ba [(I6 sx.at_)]) (.blk bo [(.bool (sx.ok))]) : Chunk) b) vW W) (vF : Value) (F : List iw) (hvF : gy kD w0 (Chunk.own' (.two (.blk ba [(I6 sx.at_)]) (.blk bo [(.bool (sx.ok))]) : Chunk)) (fun b => M b ∨ Chunk.own' (.two (.blk ba [(I6 sx.at_)]) (.blk bo [(.bool (sx.ok))]) : Chunk) b) vF F) (hbw : ∃ E, w0.heap[bw]? = some (.cells #[vW] E (0, 0))) (Zx : ¬ Chunk.own' (.two (.blk ba [(I6 sx.at_)]) (.blk bo [(.bool (sx.ok))]) : Chunk) bw) (P6 : ∃ E, w0.heap[bwd]? = some (.cells #[(.func (.func 103) #[] #[(.pointer (some ⟨ba, 0, none⟩)), (.pointer (some ⟨bw, 0, none⟩)), (.pointer (some ⟨bo, 0, none⟩))])] E (0, 0))) (Mk : ¬ Chunk.own' (.two (.blk ba [(I6 sx.at_)]) (.blk bo [(.bool (sx.ok))]) : Chunk) bwd) (hbf : ∃ E, w0.heap[bf]? = some (.cells #[vF] E (0, 0))) (Zy : ¬ Chunk.own' (.two (.blk ba [(I6 sx.at_)]) (.blk bo [(.bool (sx.ok))]) : Chunk) bf) (hG : ∀ b, Chunk.own' (.two (.blk ba [(I6 sx.at_)]) (.blk bo [(.bool (sx.ok))]) : Chunk) b → Tryz.prog.globals.size ≤ b) (r : List Tok × fJ) (hs : IA N sx W F = some r) :
    Calls Tryz.prog 104 #[(.pointer (some ⟨bo, 0, none⟩)), (.pointer (some ⟨bwd, 0, none⟩)), (.pointer (some ⟨bf, 0, none⟩))] w0 (fun e w' => aP (Chunk.own' (.two (.blk ba [(I6 sx.at_)]) (.blk bo [(.bool (sx.ok))]) : Chunk)) w0 w' ∧ ∃ u0, e = .returned (u0) ∧ Chunk.holds w' M (Chunk.own' (.two (.blk ba [.int .i64 r.2.at_]) (.blk bo [.bool r.2.ok]) : Chunk)) (.two (.blk ba [.int .i64 r.2.at_]) (.blk bo [.bool r.2.ok]) : Chunk) ∧ (∀ b, Chunk.own' (.two (.blk ba [.int .i64 r.2.at_]) (.blk bo [.bool r.2.ok]) : Chunk) b → b < w0.heap.size → Chunk.own' (.two (.blk ba [(I6 sx.at_)]) (.blk bo [(.bool (sx.ok))]) : Chunk) b) ∧ gX nO w' (fun b => M b ∨ Chunk.own' (.two (.blk ba [.int .i64 r.2.at_]) (.blk bo [.bool r.2.ok]) : Chunk) b) u0 r.1) := by
 refine aQ (args := [(.pointer (some ⟨bo, 0, none⟩)), (.pointer (some ⟨bwd, 0, none⟩)), (.pointer (some ⟨bf, 0, none⟩))]) Tryz.func104 rfl Tryz.ntmps104 (bF rfl) ?_
 have h := SH.Il hM hC hap
 replace h := h.EH 3 hvW Dz
 replace h := h.YA 4 hvF (xx Dz)
 replace h := h.DC 5 (cs := [vW]) hbw Zx (BL (xx Dz))
 replace h := h.DC 6 (cs := [(.func (.func 103) #[] #[(.pointer (some ⟨ba, 0, none⟩)), (.pointer (some ⟨bw, 0, none⟩)), (.pointer (some ⟨bo, 0, none⟩))])]) P6 Mk (vB (BL (xx Dz)))
 replace h := h.DC 7 (cs := [vF]) hbf Zy (vB (vB (BL (xx Dz))))
 have TC := Zx
 have Ml := Mk
 have TD := Zy
 generalize vZ : (.two (.blk ba [(I6 sx.at_)]) (.blk bo [(.bool (sx.ok))]) : Chunk).own' = K0 at h TC Ml TD hG
 replace h := h.bY 1 2 (by decide) rfl rfl
 refine nG (aa (ae (v := (.slice none 0 0)) rfl) (nJ (aa (ae (v := (.slice none 0 0)) rfl) (nK (aa (ae (v := (I6 1)) rfl) (nN (aO ?_)))))))
 replace h := h.yj (R := nO) (E := 160) 11
 refine gu (σ := Nat × Value × List Tok × Int × Bool × Int) (inl (rg 4 76)) (fun ⟨m24, v16, qW, Av, KH, y20⟩ => [(4, v16), (5, (I6 Av))]) (fun ⟨m24, v16, qW, Av, KH, y20⟩ w => SH w0 M K0 w (hset [(1, .blk ba [(I6 y20)]), (2, .blk bo [(.bool (KH))]), (3, .rd rV vW W), (4, .sr kD vF F), (5, .pt bw 0 [vW]), (6, .pt bwd 0 [(.func (.func 103) #[] #[(.pointer (some ⟨ba, 0, none⟩)), (.pointer (some ⟨bw, 0, none⟩)), (.pointer (some ⟨bo, 0, none⟩))])]), (7, .pt bf 0 [vF]), (11, .own nO 160 v16 qW)]) ∧ again (xH N W F) m24 (qW, Av, KH, y20) = some r) (fun ⟨m24, v16, qW, Av, KH, y20⟩ => m24) ⟨N, (.slice none 0 0), [], 1, sx.ok, sx.at_⟩ ⟨rfl, rfl, trivial⟩ ?_ ?_
 exact ⟨h.cn _, hs⟩
 rintro ⟨m24, v16, qW, Av, KH, y20⟩ w dO ⟨h, hs⟩
 obtain ⟨m241, m24e, m24h⟩ := qA hs
 subst m24e
 replace hs := m24h
 generalize Za : again (xH N W F) m241 = CF at hs
 refine aM (nG (aa (ah (v := (I6 Av)) rfl) (aa (lT rfl rfl) (aa (ah (v := (.bool (decide ((0 : Int) < Av)))) rfl) (aG rfl rfl (fun q => aA h 2 rfl BB rfl rfl) (aa (gZ rfl rfl nC) (nN (aI hs rfl (fun c28 hs => ?_) (fun c28 hs => ?_)))))))))
 refine aH (ak (aM (aO (bX (σ := Str × Bool × Int) (inl [6, 20, 21]) (fun ⟨x29, Lg, y31⟩ => [(6, (aV x29))]) (fun ⟨x29, Lg, y31⟩ w => SH w0 M K0 w (hset [(1, .blk ba [(I6 y31)]), (2, .blk bo [(.bool (Lg))]), (3, .rd rV vW W), (4, .sr kD vF F), (5, .pt bw 0 [vW]), (6, .pt bwd 0 [(.func (.func 103) #[] #[(.pointer (some ⟨ba, 0, none⟩)), (.pointer (some ⟨bw, 0, none⟩)), (.pointer (some ⟨bo, 0, none⟩))])]), (7, .pt bf 0 [vF]), (11, .own nO 160 v16 qW)]) ∧ xG N qW F Av CF x29 Lg y31 = some r) ?_ ?_))))
 rintro ⟨x29, Lg, y31⟩ w dO ⟨h, hs⟩
 refine nG (aa (ek (pv := []) (out := [(I6 0), (I6 0)]) Cz rfl rfl) (bP h 12 mX fun w b32 h => dH (vs := [(I6 0), (I6 0)]) h 12 [(I6 0), (I6 0)] rfl mX rfl rfl rfl rfl rfl (ai rfl (ai rfl aS)) fun w h => nK (Cq h 13 fun w b33 h => iW (ko := [(2, (aV [118]))]) h 13 rfl iB rfl rfl rfl rfl fun w h => iW (ko := [(2, (aV [118])), (4, (aV [46]))]) h 13 rfl iB rfl rfl rfl rfl fun w h => iW (ko := [(2, (aV [118])), (4, (aV [46])), (5, (aV [110, 101, 119]))]) h 13 rfl iB rfl rfl rfl rfl fun w h => iW (ko := [(2, (aV [118])), (4, (aV [46])), (5, (aV [110, 101, 119])), (6, (aV [102]))]) h 13 rfl iB rfl rfl rfl rfl fun w h => iW (ko := [(2, (aV [118])), (4, (aV [46])), (5, (aV [110, 101, 119])), (6, (aV [102])), (1, (aV []))]) h 13 rfl iB rfl rfl rfl rfl fun w h => aa (ah (v := (.map (some b33))) rfl) (w_range (f := aV) ([(2, [118]), (4, [46]), (5, [110, 101, 119]), (6, [102]), (1, [])] : List (Int × Str)) h 13 rfl iB rfl rfl fun w Gx h => nN (aO ?_)))))
 obtain ⟨Ri, TE, hs⟩ := aK hs
 replace TE := o_fold TE
 refine gu (σ := List (Int × Str) × Int × Int) (inl ([8, 9, 10, 11] ++ rg 26 25)) (fun ⟨lf43, SE, AU⟩ => []) (fun ⟨lf43, SE, AU⟩ w => SH w0 M K0 w (hset [(1, .blk ba [(I6 y31)]), (2, .blk bo [(.bool (Lg))]), (3, .rd rV vW W), (4, .sr kD vF F), (5, .pt bw 0 [vW]), (6, .pt bwd 0 [(.func (.func 103) #[] #[(.pointer (some ⟨ba, 0, none⟩)), (.pointer (some ⟨bw, 0, none⟩)), (.pointer (some ⟨bo, 0, none⟩))])]), (7, .pt bf 0 [vF]), (11, .own nO 160 v16 qW), (12, .blk b32 [(I6 SE), (I6 AU)]), (13, .ik (ND aV b33 Gx none lf43))]) ∧ wu (sP x29) lf43 (SE, AU) Ri) (fun ⟨lf43, SE, AU⟩ => lf43.length) ⟨([(2, [118]), (4, [46]), (5, [110, 101, 119]), (6, [102]), (1, [])] : List (Int × Str)), 0, 0⟩ trivial ?_ ?_
 exact ⟨h.cn _, TE⟩
 rintro ⟨lf43, SE, AU⟩ w dO ⟨h, hf⟩
 refine nG ?_
 refine w_next h 13 rfl rfl (fun e48 => ?_) (fun zR lr46 w e48 h => ?_)
 obtain rfl := wu.nil (e48 ▸ hf)
 refine aa (bu rfl rfl) (nN ?_)
 refine aM (wc_iff rfl (iL (bI (bI (eH (ak (aM (nG (aa (ae (v := (I6 1)) rfl) (nN (aO (gu (σ := Nat × Int × Int × Int) (inl ([12] ++ rg 51 11)) (fun ⟨m64, DT, BF, yn⟩ => [(12, (I6 DT))]) (fun ⟨m64, DT, BF, yn⟩ w => SH w0 M K0 w (hset [(1, .blk ba [(I6 y31)]), (2, .blk bo [(.bool (Lg))]), (3, .rd rV vW W), (4, .sr kD vF F), (5, .pt bw 0 [vW]), (6, .pt bwd 0 [(.func (.func 103) #[] #[(.pointer (some ⟨ba, 0, none⟩)), (.pointer (some ⟨bw, 0, none⟩)), (.pointer (some ⟨bo, 0, none⟩))])]), (7, .pt bf 0 [vF]), (11, .own nO 160 v16 qW), (12, .blk b32 [(I6 BF), (I6 yn)])]) ∧ again (DU x29 qW F y31 Av CF Lg) m64 (DT, BF, yn) = some r) (fun ⟨m64, DT, BF, yn⟩ => m64) ⟨N, 1, SE, AU⟩ ⟨rfl, trivial⟩ ?_ ?_))))))))))))
 exact ⟨h.cn _, hs⟩
 rintro ⟨m64, DT, BF, yn⟩ w dO ⟨h, hs⟩
 obtain ⟨m641, m64e, m64h⟩ := qA hs
 subst m64e
 replace hs := m64h
 generalize Zz : again (DU x29 qW F y31 Av CF Lg) m641 = P5 at hs
 refine aM (nG (aa (ah (v := (I6 DT)) rfl) (aa (Gh rfl rfl) (nN (aI hs rfl (fun c68 hs => ?_) (fun c68 hs => ?_))))))
 refine aH (ak (bX (σ := Int × Int) (inl (rg 55 7)) (fun ⟨BD, Dv⟩ => []) (fun ⟨BD, Dv⟩ w => SH w0 M K0 w (hset [(1, .blk ba [(I6 y31)]), (2, .blk bo [(.bool (Lg))]), (3, .rd rV vW W), (4, .sr kD vF F), (5, .pt bw 0 [vW]), (6, .pt bwd 0 [(.func (.func 103) #[] #[(.pointer (some ⟨ba, 0, none⟩)), (.pointer (some ⟨bw, 0, none⟩)), (.pointer (some ⟨bo, 0, none⟩))])]), (7, .pt bf 0 [vF]), (11, .own nO 160 v16 qW), (12, .blk b32 [(I6 BD), (I6 Dv)])]) ∧ DR DT P5 BD Dv = some r) ?_ ?_))
 rintro ⟨BD, Dv⟩ w dO ⟨h, hs⟩
 refine aC (aa (ah (v := (I6 DT)) rfl) ?_)
 obtain ⟨a71, hs⟩ := bB hs
 refine aa (dP rfl rfl a71) (aa (ae (v := (I6 ((DT + 1)))) rfl) (az (au ?_)))
 subst Zz
 exact jB ⟨m641, (DT + 1), BD, Dv⟩ ⟨h.cn _, hs⟩
 refine aO (nG (aa (ah (v := (I6 DT)) rfl) (aa (ek (pv := [(0, (I6 3)), (1, (I6 DT))]) (out := [(I6 3), (I6 DT)]) Cz rfl ⟨0, 1, [(I6 3)], rfl, rfl, rfl, bF rfl, ⟨1, 1, [(I6 DT)], rfl, rfl, rfl, bF rfl, rfl⟩⟩) ?_)))
 obtain ⟨Lh, e73, hs⟩ := aK hs
 refine aX PQ rfl rfl (ui _ _ h.lt (hT.Yt h.keep hG) (⟨3, DT⟩ : Tok) _ e73) ?_
 rintro _ w ⟨k74, rfl⟩
 refine ⟨_, rfl, ?_⟩
 replace h := h.grow k74
 refine aa (ah (v := (aV x29)) rfl) (aa (Jh rfl rfl) (nN (aI hs rfl (fun c75 hs => ?_) (fun c75 hs => ?_))))
 refine aC (aa (ah (v := (I6 DT)) rfl) (aa (ek (pv := [(0, (I6 3)), (1, (I6 DT))]) (out := [(I6 3), (I6 DT)]) Cz rfl ⟨0, 1, [(I6 3)], rfl, rfl, rfl, bF rfl, ⟨1, 1, [(I6 DT)], rfl, rfl, rfl, bF rfl, rfl⟩⟩) (dH (vs := [(I6 3), (I6 DT)]) h 12 [(I6 3), (I6 DT)] rfl mX rfl rfl rfl rfl rfl (ai rfl (ai rfl aS)) fun w h => az (ax (au ?_)))))
 exact bQ (3, DT) ⟨h.cn _, hs⟩
 refine aH (ax (au ?_))
 exact bQ (BF, yn) ⟨h.cn _, hs⟩
 refine iL (bI (bI (eH (ak (aM (nG (aa (ah (v := v16) rfl) (aa (dK (vs := [(I6 BF), (I6 yn)]) h 12 rfl mX rfl rfl rfl) (tL (R := nO) (vs := [(.agg #[(I6 BF), (I6 yn)])]) (xs := [(⟨BF, yn⟩ : Tok)]) h 14 Ot rfl rfl rfl ⟨rfl, trivial⟩ rfl fun w u76 h => ?_)))))))))
 obtain ⟨a77, hs⟩ := bB hs
 refine lV (R := nO) (m := [(⟨BF, yn⟩ : Tok)]) h 11 rfl (h.eG 14 rfl) Ot rfl rfl rfl a77.1 a77.2 fun w QC h => aa (ae (v := QC) rfl) (nJ (aa (dK (vs := [(I6 BF), (I6 yn)]) h 12 rfl mX rfl rfl rfl) (aa (fq (k := 0) h 7 rfl Cx rfl rfl) (aX Vb rfl rfl (xz _ _ h.lt (⟨BF, yn⟩ : Tok) vF F (h.iV 4 rfl) 6 _ rfl) ?_))))
 rintro _ w ⟨k79, rfl⟩
 refine ⟨_, rfl, ?_⟩
 replace h := h.grow k79
 refine aa (iA rfl rfl) (aa (ah (v := (.bool (decide (((gJ (⟨BF, yn⟩ : Tok) F 6) : Int) ≠ 0)))) rfl) (aG rfl rfl (fun q => ah (v := QC) rfl) (aG rfl rfl (fun q => bW nz (eD q) (h.eG 11 rfl)) (aG rfl rfl (fun q => lT (eD q) rfl) (aa (iJ rfl rfl nC) (nN (aI hs rfl (fun c80 hs => ?_) (fun c80 hs => ?_))))))))
 refine nG (gq h 2 [(.bool (false))] rfl BB rfl rfl rfl rfl rfl fun w h => nN (iL (bI (yz (by decide) (bI (bI (eH (ak (nG (aa (ah (v := QC) rfl) (aa (ae (v := QC) rfl) (nR (dD (v := QC) Tryz.results104 rfl ?_)))))))))))))
 replace h := h.freeze 11 rfl
 replace h := h.pair 1 2 (by decide)
 obtain rfl := fP hs
 subst vZ
 obtain ⟨o1, o2, o3⟩ := h.kJ 1 (C := (.two (.blk ba [(I6 y31)]) (.blk bo [(.bool (false))]) : Chunk)) rfl ⟨trivial, trivial⟩
 exact ⟨o2, QC, rfl, o1, o3, h.PG 1 11 rfl rfl⟩
 refine aH (ak (aC (aa (ah (v := (I6 Av)) rfl) (aa (dK (vs := [(I6 BF), (I6 yn)]) h 12 rfl mX rfl rfl rfl) (aa (fq (k := 0) h 7 rfl Cx rfl rfl) ?_)))))
 obtain ⟨y81, e82, hs⟩ := aK hs
 refine aX PR rfl rfl (wD _ _ h.lt (⟨BF, yn⟩ : Tok) vF F (h.iV 4 rfl) _ e82) ?_
 rintro _ w ⟨k83, rfl⟩
 refine ⟨_, rfl, ?_⟩
 replace h := h.grow k83
 obtain ⟨a84, hs⟩ := bB hs
 refine aa (dP rfl rfl a84) (aa (ae (v := (I6 ((Av + y81)))) rfl) (az (ax (ak (aC (aa (ah (v := (I6 ((Av + y81)))) rfl) ?_))))))
 obtain ⟨a85, hs⟩ := bB hs
 refine aa (mV rfl rfl a85) (aa (ae (v := (I6 (((Av + y81) - 1)))) rfl) (az (au ?_)))
 subst Za
 exact jB ⟨m241, QC, (qW ++ [(⟨BF, yn⟩ : Tok)]), ((Av + y81) - 1), Lg, y31⟩ ⟨h.cn _, hs⟩
 obtain ⟨sr47, hs1, hf1⟩ := hf.cons e48
 replace hs := hs1
 refine aa (bu rfl rfl) (nN ?_)
 refine aM (SK rfl (aH (ak ?_)))
 refine aO (nG (aa (r_entry (f := aV) h 13 rfl rfl) (aa (bu rfl rfl) (aa (bu rfl rfl) (aa (ae (v := (I6 zR.1)) rfl) (aa (ae (v := (aV zR.2)) rfl) (nJ (aa (ah (v := (aV x29)) rfl) (aa (ah (v := (aV zR.2)) rfl) ?_)))))))))
 obtain ⟨BZ, e87, hs⟩ := aK hs
 refine aX fnOk105 rfl rfl (EM _ _ h.lt x29 zR.2 _ e87) ?_
 rintro _ w ⟨k88, rfl⟩
 refine ⟨_, rfl, ?_⟩
 replace h := h.grow k88
 obtain ⟨vQ, e90, hs⟩ := aK hs
 refine aX Iw rfl rfl (uM _ _ h.lt (hT.Yt h.keep hG) BZ _ e90) ?_
 rintro _ w ⟨k93, ZA, rfl, g92⟩
 refine ⟨_, rfl, ?_⟩
 replace h := h.grow k93
 refine aa (ah (v := (.tuple #[(I6 vQ.1), ZA])) rfl) (aa (bu rfl rfl) (aa (bu rfl rfl) (aa (ae (v := (I6 vQ.1)) rfl) (aa (ae (v := ZA) rfl) (nN (bX (σ := Bool) (inl (rg 38 10)) (fun x94 => [(47, (.bool (x94)))]) (fun x94 w => SH w0 M K0 w (hset [(1, .blk ba [(I6 y31)]), (2, .blk bo [(.bool (Lg))]), (3, .rd rV vW W), (4, .sr kD vF F), (5, .pt bw 0 [vW]), (6, .pt bwd 0 [(.func (.func 103) #[] #[(.pointer (some ⟨ba, 0, none⟩)), (.pointer (some ⟨bw, 0, none⟩)), (.pointer (some ⟨bo, 0, none⟩))])]), (7, .pt bf 0 [vF]), (11, .own nO 160 v16 qW), (12, .blk b32 [(I6 SE), (I6 AU)]), (13, .ik (ND aV b33 Gx (some zR) lr46))]) ∧ xE zR vQ SE AU x94 = some sr47) ?_ ?_))))))
 rintro x94 w dO ⟨h, hs⟩
 refine aI hs rfl (fun c95 hs => ?_) (fun c95 hs => ?_)
 refine aC (aa (ah (v := (I6 zR.1)) rfl) (aa (ah (v := (I6 vQ.1)) rfl) (aa (ek (pv := [(0, (I6 zR.1)), (1, (I6 vQ.1))]) (out := [(I6 zR.1), (I6 vQ.1)]) Cz rfl ⟨0, 1, [(I6 zR.1)], rfl, rfl, rfl, bF rfl, ⟨1, 1, [(I6 vQ.1)], rfl, rfl, rfl, bF rfl, rfl⟩⟩) (dH (vs := [(I6 zR.1), (I6 vQ.1)]) h 12 [(I6 zR.1), (I6 vQ.1)] rfl mX rfl rfl rfl rfl rfl (ai rfl (ai rfl aS)) fun w h => az (ax (au ?_))))))
 replace h := h.Oj 13 rfl
 obtain rfl := fP hs
 exact jB ⟨lr46, zR.1, vQ.1⟩ ⟨h.cn _, hf1⟩ (by have := e48.length_eq; simp only [List.length_cons] at this; dsimp only; omega)
 refine aH (ax (au ?_))
 replace h := h.Oj 13 rfl
 obtain rfl := fP hs
 exact jB ⟨lr46, SE, AU⟩ ⟨h.cn _, hf1⟩ (by have := e48.length_eq; simp only [List.length_cons] at this; dsimp only; omega)
 refine aC (aa (ah (v := ZA) rfl) (aa (VO VW rfl g92 rfl) (aa (ah (v := (.bool ((!vQ.2)))) rfl) (kT (b := (!vQ.2)) hs (fun TF hs => ?_) (fun TF hs => ?_)))))
 refine eT rfl (cB TF) (aa (ah (v := (I6 zR.1)) rfl) (eT rfl (cB TF) (aa (ah (v := (I6 vQ.1)) rfl) (eT rfl (cB TF) (aa (ek (pv := [(0, (I6 zR.1)), (1, (I6 vQ.1))]) (out := [(I6 zR.1), (I6 vQ.1)]) Cz rfl ⟨0, 1, [(I6 zR.1)], rfl, rfl, rfl, bF rfl, ⟨1, 1, [(I6 vQ.1)], rfl, rfl, rfl, bF rfl, rfl⟩⟩) (eT rfl (cB TF) ?_))))))
 obtain ⟨vU, e98, hs⟩ := aK hs
 refine aX PQ rfl rfl (ui _ _ h.lt (hT.Yt h.keep hG) (⟨zR.1, vQ.1⟩ : Tok) _ e98) ?_
 rintro _ w ⟨k99, rfl⟩
 refine ⟨_, rfl, ?_⟩
 replace h := h.grow k99
 refine eT rfl (cB TF) (aa (ah (v := (aV x29)) rfl) (eT rfl (cB TF) (aa (Jh rfl rfl) (aa (fB (b := true) (v := (.bool (decide ((vU : Str) = x29)))) (cB TF) rfl) (az (au ?_))))))
 exact bQ (decide ((vU : Str) = x29)) ⟨h.cn _, hs⟩
 refine vT rfl (cB TF) rfl (vT rfl (cB TF) rfl (vT rfl (cB TF) rfl (vT rfl (cB TF) rfl (vT rfl (cB TF) rfl (vT rfl (cB TF) rfl (aa (fB (b := false) (v := (.bool (false))) (cB TF) rfl) (az (au ?_))))))))
 exact bQ false ⟨h.cn _, hs⟩
 refine aC (aa (fq (k := 0) h 6 rfl DK rfl rfl) (lh (args := [(.pointer (some ⟨ba, 0, none⟩)), (.pointer (some ⟨bw, 0, none⟩)), (.pointer (some ⟨bo, 0, none⟩))]) DI rfl rfl (aQ (args := [(.pointer (some ⟨ba, 0, none⟩)), (.pointer (some ⟨bw, 0, none⟩)), (.pointer (some ⟨bo, 0, none⟩))]) Tryz.func103 rfl Tryz.ntmps103 (bF rfl) (nG (aa (ae (v := (aV [])) rfl) (nK (aa (aA h 1 rfl aU rfl rfl) (aa (fq (k := 0) h 5 rfl qQ rfl rfl) (aa (bW gN rfl (h.ny 3 rfl)) (aa (qV rfl rfl) (nN (aI hs rfl (fun c100 hs => ?_) (fun c100 hs => ?_)))))))))))))
 refine nG (gq h 2 [(.bool (false))] rfl BB rfl rfl rfl rfl rfl fun w h => nJ (aa (ae (v := (aV [])) rfl) (nR (ay (dD (v := (aV [])) Tryz.results103 rfl (⟨_, rfl, ?_⟩))))))
 refine aa (ae (v := (aV [])) rfl) (az (au ?_))
 exact bQ ([], false, y20) ⟨h.cn _, hs⟩
 refine nS (aa (aA h 1 rfl aU rfl rfl) ?_)
 obtain ⟨V6, hs⟩ := bB hs
 refine aa (dP rfl rfl V6) (gq h 1 [(I6 ((y20 + 1)))] rfl aU rfl rfl rfl rfl rfl fun w h => nJ (aa (fq (k := 0) h 5 rfl qQ rfl rfl) (aa (aA h 1 rfl aU rfl rfl) ?_)))
 obtain ⟨Wh, hs⟩ := bB hs
 refine aa (mV rfl rfl Wh) ?_
 obtain ⟨x103, e104, hs⟩ := aK hs
 obtain ⟨b106, o107, cs108, h, r109, i105⟩ := h.Cm 3 15 rfl gN rfl (aB e104).1 (aB e104).2
 obtain rfl := r109
 refine aa (i105 _ _ _ _ _ _ _ _ _ rfl rfl) (aa (fq (k := 0) h 15 rfl Cy rfl rfl) (aa (ae (v := (aV x103)) rfl) (nR (dD (v := (aV x103)) Tryz.results103 rfl (⟨_, rfl, ?_⟩)))))
 refine aa (ae (v := (aV x103)) rfl) (az (au ?_))
 exact bQ (x103, KH, (y20 + 1)) ⟨h.cn _, hs⟩
 refine nE (aa (ah (v := v16) rfl) (aa (ae (v := v16) rfl) (nR (dD (v := v16) Tryz.results104 rfl ?_))))
 replace h := h.freeze 11 rfl
 replace h := h.pair 1 2 (by decide)
 obtain rfl := fP hs
 subst vZ
 obtain ⟨o1, o2, o3⟩ := h.kJ 1 (C := (.two (.blk ba [(I6 y20)]) (.blk bo [(.bool (KH))]) : Chunk)) rfl ⟨trivial, trivial⟩
 exact ⟨o2, v16, rfl, o1, o3, h.PG 1 11 rfl rfl⟩
def DV (oD : List bR) (pV : Int) (Aw : Int) (rY : List Tok) (FM : List Tok) (TG : List bR) (pg : (List bR × Int × Bool) → Option (List bR × fJ)) (y57 : Int) (y58 : Bool) (yn : List bR) : Option (List bR × fJ) :=
  ib (Room 112 oD [(⟨(pV + 1), Aw, rY, FM, TG, yn⟩ : bR)]) (pg ((oD ++ [(⟨(pV + 1), Aw, rY, FM, TG, yn⟩ : bR)]), y57, y58))
def DW (F0 : fJ → List Str → List iw → Int → Option (List bR × fJ)) (pV : Int) (a : Int) (W : List Str) (F : List iw) (oD : List bR) (Aw : Int) (rY : List Tok) (FM : List Tok) (pg : (List bR × Int × Bool) → Option (List bR × fJ)) (xc : Int) (yo : Bool) (TG : List bR) : Option (List bR × fJ) :=
  bif decide (((pV + 1) : Int) = 6) then ib (jV (a + 1)) ((F0 (⟨xc, yo⟩ : fJ) W F (a + 1)).bind fun tY => DV oD pV Aw rY FM TG pg tY.2.at_ tY.2.ok tY.1) else DV oD pV Aw rY FM TG pg xc yo []
def xI (F0 : fJ → List Str → List iw → Int → Option (List bR × fJ)) (pV : Int) (a : Int) (W : List Str) (F : List iw) (oD : List bR) (Aw : Int) (rY : List Tok) (pg : (List bR × Int × Bool) → Option (List bR × fJ)) (Ew : Int) (sI : Bool) (FM : List Tok) : Option (List bR × fJ) :=
  bif (decide (((pV + 1) : Int) = 6) || decide (((pV + 1) : Int) = 7)) then ib (jV (a + 1)) ((F0 (⟨Ew, sI⟩ : fJ) W F (a + 1)).bind fun y77 => DW F0 pV a W F oD Aw rY FM pg y77.2.at_ y77.2.ok y77.1) else DW F0 pV a W F oD Aw rY FM pg Ew sI []
def xJ (N : Nat) (F0 : fJ → List Str → List iw → Int → Option (List bR × fJ)) (pV : Int) (W : List Str) (F : List iw) (a : Int) (oD : List bR) (Aw : Int) (pg : (List bR × Int × Bool) → Option (List bR × fJ)) (TH : Int) (KZ : Bool) (rY : List Tok) : Option (List bR × fJ) :=
  bif decide (((pV + 1) : Int) = 2) then (IA N (⟨TH, KZ⟩ : fJ) W F).bind fun BZ => xI F0 pV a W F oD Aw rY pg BZ.2.at_ BZ.2.ok BZ.1 else xI F0 pV a W F oD Aw rY pg TH KZ []
def vE (N : Nat) (F0 : fJ → List Str → List iw → Int → Option (List bR × fJ)) (pV : Int) (W : List Str) (F : List iw) (a : Int) (oD : List bR) (pg : (List bR × Int × Bool) → Option (List bR × fJ)) (AU : Int) (DN : Bool) (Aw : Int) : Option (List bR × fJ) :=
  bif decide (((pV + 1) : Int) ≠ 4) then (IA N (⟨AU, DN⟩ : fJ) W F).bind fun y95 => xJ N F0 pV W F a oD Aw pg y95.2.at_ y95.2.ok y95.1 else xJ N F0 pV W F a oD Aw pg AU DN []
def xK (N : Nat) (F0 : fJ → List Str → List iw → Int → Option (List bR × fJ)) (oD : List bR) (W : List Str) (F : List iw) (a : Int) (pg : (List bR × Int × Bool) → Option (List bR × fJ)) (x27 : Str) (y28 : Int) (y29 : Bool) : Option (List bR × fJ) :=
  bif decide ((x27 : Str) = [125]) then some (oD, (⟨y28, y29⟩ : fJ)) else (Im [115, 101, 116, 32, 112, 117, 116, 32, 115, 97, 121, 32, 112, 97, 117, 115, 101, 32, 103, 111, 32, 105, 102, 32, 119, 104, 105, 108, 101, 32, 114, 101, 116, 117, 114, 110]).bind fun y31 => (slices_Index_string y31 x27).bind fun pV => ib (jV (pV + 1)) (bif (!(y29 && decide ((0 : Int) < (pV + 1)))) then some ([], (⟨y28, (y29 && decide ((0 : Int) < (pV + 1)))⟩ : fJ)) else bif decide (((pV + 1) : Int) ≤ 2) then bif decide (((W.length : Int) : Int) ≤ y28) then (EF []).bind fun y104 => vE N F0 pV W F a oD pg y28 false y104.1 else ib (jV (y28 + 1)) (ib (jV ((y28 + 1) - 1)) ((idx W ((y28 + 1) - 1)).bind fun K3 => (EF K3).bind fun TI => vE N F0 pV W F a oD pg (y28 + 1) (y29 && decide ((0 : Int) < (pV + 1))) TI.1)) else vE N F0 pV W F a oD pg y28 (y29 && decide ((0 : Int) < (pV + 1))) 0)
def xL (N : Nat) (F0 : fJ → List Str → List iw → Int → Option (List bR × fJ)) (W : List Str) (F : List iw) (a : Int) (s : List bR × Int × Bool) (pg : List bR × Int × Bool → Option (List bR × fJ)) : Option (List bR × fJ) :=
  match s with | (oD, Ex, F8) => bif F8 then bif decide (((W.length : Int) : Int) ≤ Ex) then xK N F0 oD W F a pg [] Ex false else ib (jV (Ex + 1)) (ib (jV ((Ex + 1) - 1)) ((idx W ((Ex + 1) - 1)).bind fun Mm => xK N F0 oD W F a pg Mm (Ex + 1) F8)) else some ([], (⟨Ex, F8⟩ : fJ))
def zn (N : Nat) (F0 : fJ → List Str → List iw → Int → Option (List bR × fJ)) (W : List Str) (F : List iw) (a : Int) (y1 : Int) (y2 : Bool) : Option (List bR × fJ) :=
  again (xL N F0 W F a) N ([], y1, y2)
def xM (N : Nat) (F0 : fJ → List Str → List iw → Int → Option (List bR × fJ)) (W : List Str) (F : List iw) (a : Int) (Gy : Bool) (K4 : Int) (P7 : Bool) : Option (List bR × fJ) :=
  bif Gy then zn N F0 W F a K4 false else zn N F0 W F a K4 P7
def AV (N : Nat) (F0 : fJ → List Str → List iw → Int → Option (List bR × fJ)) (sx : fJ) (W : List Str) (F : List iw) (a : Int) : Option (List bR × fJ) :=
  bif decide (((W.length : Int) : Int) ≤ sx.at_) then xM N F0 W F a true sx.at_ false else ib (jV (sx.at_ + 1)) (ib (jV ((sx.at_ + 1) - 1)) ((idx W ((sx.at_ + 1) - 1)).bind fun Rj => xM N F0 W F a (decide ((Rj : Str) ≠ [123]) || decide ((6 : Int) < a)) (sx.at_ + 1) sx.ok))
def zo : Nat → fJ → List Str → List iw → Int → Option (List bR × fJ)
  | 0 => fun _ _ _ _ => none
  | N + 1 => AV N (zo N)
theorem TJ : ∀ (N : Nat) (w0 : World) (M : BS) (hM : ∀ b, M b → b < w0.heap.size) (hT : ze Tryz.prog 4 w0) (ba bo bw bwd bf be bb : Nat) (sx : fJ) (hC : Chunk.holds w0 M (Chunk.own' (.two (.blk ba [(I6 sx.at_)]) (.blk bo [(.bool (sx.ok))]) : Chunk)) (.two (.blk ba [(I6 sx.at_)]) (.blk bo [(.bool (sx.ok))]) : Chunk)) (hap : ∀ b, Chunk.own' (.two (.blk ba [(I6 sx.at_)]) (.blk bo [(.bool (sx.ok))]) : Chunk) b → ¬ M b) (vW : Value) (W : List Str) (hvW : gX rV w0 (fun b => M b ∨ Chunk.own' (.two (.blk ba [(I6 sx.at_)]) (.blk bo [(.bool (sx.ok))]) : Chunk) b) vW W) (vF : Value) (F : List iw) (hvF : gy kD w0 (Chunk.own' (.two (.blk ba [(I6 sx.at_)]) (.blk bo [(.bool (sx.ok))]) : Chunk)) (fun b => M b ∨ Chunk.own' (.two (.blk ba [(I6 sx.at_)]) (.blk bo [(.bool (sx.ok))]) : Chunk) b) vF F) (hbw : ∃ E, w0.heap[bw]? = some (.cells #[vW] E (0, 0))) (Zx : ¬ Chunk.own' (.two (.blk ba [(I6 sx.at_)]) (.blk bo [(.bool (sx.ok))]) : Chunk) bw) (P6 : ∃ E, w0.heap[bwd]? = some (.cells #[(.func (.func 103) #[] #[(.pointer (some ⟨ba, 0, none⟩)), (.pointer (some ⟨bw, 0, none⟩)), (.pointer (some ⟨bo, 0, none⟩))])] E (0, 0))) (Mk : ¬ Chunk.own' (.two (.blk ba [(I6 sx.at_)]) (.blk bo [(.bool (sx.ok))]) : Chunk) bwd) (hbf : ∃ E, w0.heap[bf]? = some (.cells #[vF] E (0, 0))) (Zy : ¬ Chunk.own' (.two (.blk ba [(I6 sx.at_)]) (.blk bo [(.bool (sx.ok))]) : Chunk) bf) (hbe : ∃ E, w0.heap[be]? = some (.cells #[(.func (.func 104) #[] #[(.pointer (some ⟨bo, 0, none⟩)), (.pointer (some ⟨bwd, 0, none⟩)), (.pointer (some ⟨bf, 0, none⟩))])] E (0, 0))) (nbe : ¬ Chunk.own' (.two (.blk ba [(I6 sx.at_)]) (.blk bo [(.bool (sx.ok))]) : Chunk) be) (hbb : ∃ E, w0.heap[bb]? = some (.cells #[(.func (.func 109) #[] #[(.pointer (some ⟨bwd, 0, none⟩)), (.pointer (some ⟨bo, 0, none⟩)), (.pointer (some ⟨be, 0, none⟩)), (.pointer (some ⟨bb, 0, none⟩))])] E (0, 0))) (nbb : ¬ Chunk.own' (.two (.blk ba [(I6 sx.at_)]) (.blk bo [(.bool (sx.ok))]) : Chunk) bb) (a : Int) (hG : ∀ b, Chunk.own' (.two (.blk ba [(I6 sx.at_)]) (.blk bo [(.bool (sx.ok))]) : Chunk) b → Tryz.prog.globals.size ≤ b) (r : List bR × fJ) (hs : zo N sx W F a = some r),
    Calls Tryz.prog 109 #[(I6 a), (.pointer (some ⟨bwd, 0, none⟩)), (.pointer (some ⟨bo, 0, none⟩)), (.pointer (some ⟨be, 0, none⟩)), (.pointer (some ⟨bb, 0, none⟩))] w0 (fun e w' => aP (Chunk.own' (.two (.blk ba [(I6 sx.at_)]) (.blk bo [(.bool (sx.ok))]) : Chunk)) w0 w' ∧ ∃ u0, e = .returned (u0) ∧ Chunk.holds w' M (Chunk.own' (.two (.blk ba [.int .i64 r.2.at_]) (.blk bo [.bool r.2.ok]) : Chunk)) (.two (.blk ba [.int .i64 r.2.at_]) (.blk bo [.bool r.2.ok]) : Chunk) ∧ (∀ b, Chunk.own' (.two (.blk ba [.int .i64 r.2.at_]) (.blk bo [.bool r.2.ok]) : Chunk) b → b < w0.heap.size → Chunk.own' (.two (.blk ba [(I6 sx.at_)]) (.blk bo [(.bool (sx.ok))]) : Chunk) b) ∧ gX gM w' (fun b => M b ∨ Chunk.own' (.two (.blk ba [.int .i64 r.2.at_]) (.blk bo [.bool r.2.ok]) : Chunk) b) u0 r.1) := by
 intro N
 induction N with
 | zero => intro w0 M hM hT ba bo bw bwd bf be bb sx hC hap vW W hvW vF F hvF hbw Zx P6 Mk hbf Zy hbe nbe hbb nbb a hG r hs; cases hs
 | succ N ih =>
 intro w0 M hM hT ba bo bw bwd bf be bb sx hC hap vW W hvW vF F hvF hbw Zx P6 Mk hbf Zy hbe nbe hbb nbb a hG r hs
 replace hs : AV N (zo N) sx W F a = some r := hs
 generalize zo N = F0 at hs ih
 refine aQ (args := [(I6 a), (.pointer (some ⟨bwd, 0, none⟩)), (.pointer (some ⟨bo, 0, none⟩)), (.pointer (some ⟨be, 0, none⟩)), (.pointer (some ⟨bb, 0, none⟩))]) Tryz.func109 rfl Tryz.ntmps109 (bF rfl) ?_
 have h := SH.Il hM hC hap
 replace h := h.EH 3 hvW Dz
 replace h := h.YA 4 hvF (xx Dz)
 replace h := h.DC 5 (cs := [vW]) hbw Zx (BL (xx Dz))
 replace h := h.DC 6 (cs := [(.func (.func 103) #[] #[(.pointer (some ⟨ba, 0, none⟩)), (.pointer (some ⟨bw, 0, none⟩)), (.pointer (some ⟨bo, 0, none⟩))])]) P6 Mk (vB (BL (xx Dz)))
 replace h := h.DC 7 (cs := [vF]) hbf Zy (vB (vB (BL (xx Dz))))
 replace h := h.DC 8 (cs := [(.func (.func 104) #[] #[(.pointer (some ⟨bo, 0, none⟩)), (.pointer (some ⟨bwd, 0, none⟩)), (.pointer (some ⟨bf, 0, none⟩))])]) hbe nbe (vB (vB (vB (BL (xx Dz)))))
 replace h := h.DC 9 (cs := [(.func (.func 109) #[] #[(.pointer (some ⟨bwd, 0, none⟩)), (.pointer (some ⟨bo, 0, none⟩)), (.pointer (some ⟨be, 0, none⟩)), (.pointer (some ⟨bb, 0, none⟩))])]) hbb nbb (vB (vB (vB (vB (BL (xx Dz))))))
 have TC := Zx
 have Ml := Mk
 have TD := Zy
 have nbeK := nbe
 have nbbK := nbb
 generalize vZ : (.two (.blk ba [(I6 sx.at_)]) (.blk bo [(.bool (sx.ok))]) : Chunk).own' = K0 at h TC Ml TD nbeK nbbK hG
 replace h := h.bY 1 2 (by decide) rfl rfl
 refine nG (aa (ae (v := (.slice none 0 0)) rfl) (nN (bX (σ := Int × Bool) (inl (rg 10 7)) (fun ⟨y1, y2⟩ => []) (fun ⟨y1, y2⟩ w => SH w0 M K0 w (hset [(1, .blk ba [(I6 y1)]), (2, .blk bo [(.bool (y2))]), (3, .rd rV vW W), (4, .sr kD vF F), (5, .pt bw 0 [vW]), (6, .pt bwd 0 [(.func (.func 103) #[] #[(.pointer (some ⟨ba, 0, none⟩)), (.pointer (some ⟨bw, 0, none⟩)), (.pointer (some ⟨bo, 0, none⟩))])]), (7, .pt bf 0 [vF]), (8, .pt be 0 [(.func (.func 104) #[] #[(.pointer (some ⟨bo, 0, none⟩)), (.pointer (some ⟨bwd, 0, none⟩)), (.pointer (some ⟨bf, 0, none⟩))])]), (9, .pt bb 0 [(.func (.func 109) #[] #[(.pointer (some ⟨bwd, 0, none⟩)), (.pointer (some ⟨bo, 0, none⟩)), (.pointer (some ⟨be, 0, none⟩)), (.pointer (some ⟨bb, 0, none⟩))])])]) ∧ zn N F0 W F a y1 y2 = some r) ?_ ?_)))
 rintro ⟨y1, y2⟩ w dO ⟨h, hs⟩
 refine nG (aa (ae (v := (.slice none 0 0)) rfl) (nN (aM (aO ?_))))
 replace h := h.yj (R := gM) (E := 147) 13
 refine gu (σ := Nat × Value × List bR × Int × Bool) (inl ([6, 7, 8, 9] ++ rg 17 66)) (fun ⟨m22, v15, oD, Ex, F8⟩ => [(7, v15)]) (fun ⟨m22, v15, oD, Ex, F8⟩ w => SH w0 M K0 w (hset [(1, .blk ba [(I6 Ex)]), (2, .blk bo [(.bool (F8))]), (3, .rd rV vW W), (4, .sr kD vF F), (5, .pt bw 0 [vW]), (6, .pt bwd 0 [(.func (.func 103) #[] #[(.pointer (some ⟨ba, 0, none⟩)), (.pointer (some ⟨bw, 0, none⟩)), (.pointer (some ⟨bo, 0, none⟩))])]), (7, .pt bf 0 [vF]), (8, .pt be 0 [(.func (.func 104) #[] #[(.pointer (some ⟨bo, 0, none⟩)), (.pointer (some ⟨bwd, 0, none⟩)), (.pointer (some ⟨bf, 0, none⟩))])]), (9, .pt bb 0 [(.func (.func 109) #[] #[(.pointer (some ⟨bwd, 0, none⟩)), (.pointer (some ⟨bo, 0, none⟩)), (.pointer (some ⟨be, 0, none⟩)), (.pointer (some ⟨bb, 0, none⟩))])]), (13, .own gM 147 v15 oD)]) ∧ again (xL N F0 W F a) m22 (oD, Ex, F8) = some r) (fun ⟨m22, v15, oD, Ex, F8⟩ => m22) ⟨N, (.slice none 0 0), [], y1, y2⟩ ⟨rfl, trivial⟩ ?_ ?_
 exact ⟨h.cn _, hs⟩
 rintro ⟨m22, v15, oD, Ex, F8⟩ w dO ⟨h, hs⟩
 obtain ⟨m221, m22e, m22h⟩ := qA hs
 subst m22e
 replace hs := m22h
 generalize ZB : again (xL N F0 W F a) m221 = pg at hs
 refine aM (nG (aa (aA h 2 rfl BB rfl rfl) (nN (aI hs rfl (fun c26 hs => ?_) (fun c26 hs => ?_)))))
 refine aH (ak (aO (bX (σ := Str × Int × Bool) (inl [8, 18, 19]) (fun ⟨x27, y28, y29⟩ => [(8, (aV x27))]) (fun ⟨x27, y28, y29⟩ w => SH w0 M K0 w (hset [(1, .blk ba [(I6 y28)]), (2, .blk bo [(.bool (y29))]), (3, .rd rV vW W), (4, .sr kD vF F), (5, .pt bw 0 [vW]), (6, .pt bwd 0 [(.func (.func 103) #[] #[(.pointer (some ⟨ba, 0, none⟩)), (.pointer (some ⟨bw, 0, none⟩)), (.pointer (some ⟨bo, 0, none⟩))])]), (7, .pt bf 0 [vF]), (8, .pt be 0 [(.func (.func 104) #[] #[(.pointer (some ⟨bo, 0, none⟩)), (.pointer (some ⟨bwd, 0, none⟩)), (.pointer (some ⟨bf, 0, none⟩))])]), (9, .pt bb 0 [(.func (.func 109) #[] #[(.pointer (some ⟨bwd, 0, none⟩)), (.pointer (some ⟨bo, 0, none⟩)), (.pointer (some ⟨be, 0, none⟩)), (.pointer (some ⟨bb, 0, none⟩))])]), (13, .own gM 147 v15 oD)]) ∧ xK N F0 oD W F a pg x27 y28 y29 = some r) ?_ ?_)))
 rintro ⟨x27, y28, y29⟩ w dO ⟨h, hs⟩
 refine aM (nG (aa (ah (v := (aV x27)) rfl) (aa (Jh rfl rfl) (nN (aI hs rfl (fun c30 hs => ?_) (fun c30 hs => ?_))))))
 refine nG (aa (ah (v := v15) rfl) (aa (ae (v := v15) rfl) (nR (ay (aF (ay (aF (ay (dD (v := v15) Tryz.results109 rfl ?_)))))))))
 replace h := h.freeze 13 rfl
 replace h := h.pair 1 2 (by decide)
 obtain rfl := fP hs
 subst vZ
 obtain ⟨o1, o2, o3⟩ := h.kJ 1 (C := (.two (.blk ba [(I6 y28)]) (.blk bo [(.bool (y29))]) : Chunk)) rfl ⟨trivial, trivial⟩
 exact ⟨o2, v15, rfl, o1, o3, h.PG 1 13 rfl rfl⟩
 refine nS ?_
 obtain ⟨y31, e32, hs⟩ := aK hs
 refine aX Vd rfl rfl (CG _ _ h.lt (hT.Yt h.keep hG) [115, 101, 116, 32, 112, 117, 116, 32, 115, 97, 121, 32, 112, 97, 117, 115, 101, 32, 103, 111, 32, 105, 102, 32, 119, 104, 105, 108, 101, 32, 114, 101, 116, 117, 114, 110] _ e32) ?_
 rintro _ w ⟨k35, u33, rfl, g34⟩
 refine ⟨_, rfl, ?_⟩
 replace h := h.NZ 14 k35 g34
 refine aa (ah (v := (aV x27)) rfl) ?_
 obtain ⟨pV, e37, hs⟩ := aK hs
 refine aX fnOk110 rfl rfl (Em _ _ h.lt u33 y31 (h.ny 14 rfl) x27 _ e37) ?_
 rintro _ w ⟨Vl, rfl⟩
 refine ⟨_, rfl, ?_⟩
 replace h := h.grow Vl
 obtain ⟨a39, hs⟩ := bB hs
 refine aa (dP rfl rfl a39) (aa (ek (pv := [(0, (I6 ((pV + 1))))]) (out := [(I6 ((pV + 1))), (I6 0), (.slice none 0 0), (.slice none 0 0), (.slice none 0 0), (.slice none 0 0)]) VZ rfl ⟨0, 1, [(I6 ((pV + 1)))], rfl, rfl, rfl, bF rfl, rfl⟩) (bP h 15 sD fun w b40 h => dH (vs := [(I6 ((pV + 1))), (I6 0), (.slice none 0 0), (.slice none 0 0), (.slice none 0 0), (.slice none 0 0)]) h 15 [(I6 ((pV + 1))), (I6 0), (.slice none 0 0), (.slice none 0 0), (.slice none 0 0), (.slice none 0 0)] rfl sD rfl rfl rfl rfl rfl (ai rfl (ai rfl (ai rfl (ai rfl (ai rfl (ai rfl aS)))))) fun w h => nK (aa (aA h 2 rfl BB rfl rfl) (aa (ah (v := (.bool (y29))) rfl) (aG rfl rfl (fun q => ag mO rfl) (aG rfl rfl (fun q => aA h 15 rfl aU (eD q) rfl) (aG rfl rfl (fun q => lT (eD q) rfl) (aa (gZ rfl rfl nC) (gq h 2 [(.bool ((y29 && decide ((0 : Int) < (pV + 1)))))] rfl BB rfl rfl rfl rfl rfl fun w h => nJ (aa (aA h 2 rfl BB rfl rfl) (aa (gL rfl) (nN ?_))))))))))))
 refine aI hs rfl (fun c41 hs => ?_) (fun c41 hs => ?_)
 refine iL (bI (yz (by decide) (bI (eH (ak (nG (aa (ae (v := (.slice none 0 0)) rfl) (nR (dD (v := (.slice none 0 0)) Tryz.results109 rfl ?_)))))))))
 replace h := h.pair 1 2 (by decide)
 obtain rfl := fP hs
 subst vZ
 obtain ⟨o1, o2, o3⟩ := h.kJ 1 (C := (.two (.blk ba [(I6 y28)]) (.blk bo [(.bool ((y29 && decide ((0 : Int) < (pV + 1)))))]) : Chunk)) rfl ⟨trivial, trivial⟩
 exact ⟨o2, .slice none 0 0, rfl, o1, o3, gy.nil⟩
 refine aH (ak (bX (σ := Int × Bool × Int) (inl (rg 36 10)) (fun ⟨AU, DN, Aw⟩ => []) (fun ⟨AU, DN, Aw⟩ w => SH w0 M K0 w (hset [(1, .blk ba [(I6 AU)]), (2, .blk bo [(.bool (DN))]), (3, .rd rV vW W), (4, .sr kD vF F), (5, .pt bw 0 [vW]), (6, .pt bwd 0 [(.func (.func 103) #[] #[(.pointer (some ⟨ba, 0, none⟩)), (.pointer (some ⟨bw, 0, none⟩)), (.pointer (some ⟨bo, 0, none⟩))])]), (7, .pt bf 0 [vF]), (8, .pt be 0 [(.func (.func 104) #[] #[(.pointer (some ⟨bo, 0, none⟩)), (.pointer (some ⟨bwd, 0, none⟩)), (.pointer (some ⟨bf, 0, none⟩))])]), (9, .pt bb 0 [(.func (.func 109) #[] #[(.pointer (some ⟨bwd, 0, none⟩)), (.pointer (some ⟨bo, 0, none⟩)), (.pointer (some ⟨be, 0, none⟩)), (.pointer (some ⟨bb, 0, none⟩))])]), (13, .own gM 147 v15 oD), (15, .blk b40 [(I6 ((pV + 1))), (I6 Aw), (.slice none 0 0), (.slice none 0 0), (.slice none 0 0), (.slice none 0 0)])]) ∧ vE N F0 pV W F a oD pg AU DN Aw = some r) ?_ ?_))
 rintro ⟨AU, DN, Aw⟩ w dO ⟨h, hs⟩
 refine bX (σ := Int × Bool × Value × List Tok) (inl (rg 46 6)) (fun ⟨TH, KZ, v47, rY⟩ => []) (fun ⟨TH, KZ, v47, rY⟩ w => SH w0 M K0 w (hset [(1, .blk ba [(I6 TH)]), (2, .blk bo [(.bool (KZ))]), (3, .rd rV vW W), (4, .sr kD vF F), (5, .pt bw 0 [vW]), (6, .pt bwd 0 [(.func (.func 103) #[] #[(.pointer (some ⟨ba, 0, none⟩)), (.pointer (some ⟨bw, 0, none⟩)), (.pointer (some ⟨bo, 0, none⟩))])]), (7, .pt bf 0 [vF]), (8, .pt be 0 [(.func (.func 104) #[] #[(.pointer (some ⟨bo, 0, none⟩)), (.pointer (some ⟨bwd, 0, none⟩)), (.pointer (some ⟨bf, 0, none⟩))])]), (9, .pt bb 0 [(.func (.func 109) #[] #[(.pointer (some ⟨bwd, 0, none⟩)), (.pointer (some ⟨bo, 0, none⟩)), (.pointer (some ⟨be, 0, none⟩)), (.pointer (some ⟨bb, 0, none⟩))])]), (13, .own gM 147 v15 oD), (15, .blk b40 [(I6 ((pV + 1))), (I6 Aw), v47, (.slice none 0 0), (.slice none 0 0), (.slice none 0 0)]), (16, .rd nO v47 rY)]) ∧ xJ N F0 pV W F a oD Aw pg TH KZ rY = some r) ?_ ?_
 rintro ⟨TH, KZ, v47, rY⟩ w dO ⟨h, hs⟩
 refine bX (σ := Int × Bool × Value × List Tok) (inl (rg 52 6)) (fun ⟨Ew, sI, v51, FM⟩ => []) (fun ⟨Ew, sI, v51, FM⟩ w => SH w0 M K0 w (hset [(1, .blk ba [(I6 Ew)]), (2, .blk bo [(.bool (sI))]), (3, .rd rV vW W), (4, .sr kD vF F), (5, .pt bw 0 [vW]), (6, .pt bwd 0 [(.func (.func 103) #[] #[(.pointer (some ⟨ba, 0, none⟩)), (.pointer (some ⟨bw, 0, none⟩)), (.pointer (some ⟨bo, 0, none⟩))])]), (7, .pt bf 0 [vF]), (8, .pt be 0 [(.func (.func 104) #[] #[(.pointer (some ⟨bo, 0, none⟩)), (.pointer (some ⟨bwd, 0, none⟩)), (.pointer (some ⟨bf, 0, none⟩))])]), (9, .pt bb 0 [(.func (.func 109) #[] #[(.pointer (some ⟨bwd, 0, none⟩)), (.pointer (some ⟨bo, 0, none⟩)), (.pointer (some ⟨be, 0, none⟩)), (.pointer (some ⟨bb, 0, none⟩))])]), (13, .own gM 147 v15 oD), (15, .blk b40 [(I6 ((pV + 1))), (I6 Aw), v47, v51, (.slice none 0 0), (.slice none 0 0)]), (16, .rd nO v47 rY), (17, .rd nO v51 FM)]) ∧ xI F0 pV a W F oD Aw rY pg Ew sI FM = some r) ?_ ?_
 rintro ⟨Ew, sI, v51, FM⟩ w dO ⟨h, hs⟩
 refine bX (σ := Int × Bool × Value × List bR) (inl (rg 58 13)) (fun ⟨xc, yo, v55, TG⟩ => []) (fun ⟨xc, yo, v55, TG⟩ w => SH w0 M K0 w (hset [(1, .blk ba [(I6 xc)]), (2, .blk bo [(.bool (yo))]), (3, .rd rV vW W), (4, .sr kD vF F), (5, .pt bw 0 [vW]), (6, .pt bwd 0 [(.func (.func 103) #[] #[(.pointer (some ⟨ba, 0, none⟩)), (.pointer (some ⟨bw, 0, none⟩)), (.pointer (some ⟨bo, 0, none⟩))])]), (7, .pt bf 0 [vF]), (8, .pt be 0 [(.func (.func 104) #[] #[(.pointer (some ⟨bo, 0, none⟩)), (.pointer (some ⟨bwd, 0, none⟩)), (.pointer (some ⟨bf, 0, none⟩))])]), (9, .pt bb 0 [(.func (.func 109) #[] #[(.pointer (some ⟨bwd, 0, none⟩)), (.pointer (some ⟨bo, 0, none⟩)), (.pointer (some ⟨be, 0, none⟩)), (.pointer (some ⟨bb, 0, none⟩))])]), (13, .own gM 147 v15 oD), (15, .blk b40 [(I6 ((pV + 1))), (I6 Aw), v47, v51, v55, (.slice none 0 0)]), (16, .rd nO v47 rY), (17, .rd nO v51 FM), (18, .rd gM v55 TG)]) ∧ DW F0 pV a W F oD Aw rY FM pg xc yo TG = some r) ?_ ?_
 rintro ⟨xc, yo, v55, TG⟩ w dO ⟨h, hs⟩
 refine bX (σ := Int × Bool × Value × List bR) (inl (rg 71 8)) (fun ⟨y57, y58, v59, yn⟩ => []) (fun ⟨y57, y58, v59, yn⟩ w => SH w0 M K0 w (hset [(1, .blk ba [(I6 y57)]), (2, .blk bo [(.bool (y58))]), (3, .rd rV vW W), (4, .sr kD vF F), (5, .pt bw 0 [vW]), (6, .pt bwd 0 [(.func (.func 103) #[] #[(.pointer (some ⟨ba, 0, none⟩)), (.pointer (some ⟨bw, 0, none⟩)), (.pointer (some ⟨bo, 0, none⟩))])]), (7, .pt bf 0 [vF]), (8, .pt be 0 [(.func (.func 104) #[] #[(.pointer (some ⟨bo, 0, none⟩)), (.pointer (some ⟨bwd, 0, none⟩)), (.pointer (some ⟨bf, 0, none⟩))])]), (9, .pt bb 0 [(.func (.func 109) #[] #[(.pointer (some ⟨bwd, 0, none⟩)), (.pointer (some ⟨bo, 0, none⟩)), (.pointer (some ⟨be, 0, none⟩)), (.pointer (some ⟨bb, 0, none⟩))])]), (13, .own gM 147 v15 oD), (15, .blk b40 [(I6 ((pV + 1))), (I6 Aw), v47, v51, v55, v59]), (16, .rd nO v47 rY), (17, .rd nO v51 FM), (18, .rd gM v55 TG), (19, .rd gM v59 yn)]) ∧ DV oD pV Aw rY FM TG pg y57 y58 yn = some r) ?_ ?_
 rintro ⟨y57, y58, v59, yn⟩ w dO ⟨h, hs⟩
 refine aC (aa (ah (v := v15) rfl) (aa (dK (vs := [(I6 ((pV + 1))), (I6 Aw), v47, v51, v55, v59]) h 15 rfl sD rfl rfl rfl) (tL (R := gM) (vs := [(.agg #[(I6 ((pV + 1))), (I6 Aw), v47, v51, v55, v59])]) (xs := [(⟨(pV + 1), Aw, rY, FM, TG, yn⟩ : bR)]) h 20 Oq rfl rfl rfl ⟨(Yq ⟨_, _, _, _, rfl, (h.iD 16 rfl), (h.iD 17 rfl), (h.iD 18 rfl), (h.iD 19 rfl)⟩), trivial⟩ rfl fun w Vm h => ?_)))
 obtain ⟨a62, hs⟩ := bB hs
 refine lV (R := gM) (m := [(⟨(pV + 1), Aw, rY, FM, TG, yn⟩ : bR)]) h 13 rfl (h.eG 20 rfl) Oq rfl rfl rfl a62.1 a62.2 fun w u63 h => aa (ae (v := u63) rfl) (az (ax (au ?_)))
 subst ZB
 exact jB ⟨m221, u63, (oD ++ [(⟨(pV + 1), Aw, rY, FM, TG, yn⟩ : bR)]), y57, y58⟩ ⟨h.cn _, hs⟩
 refine nG (aa (ag mO rfl) (aa (aA h 15 rfl aU rfl rfl) (aa (bz rfl rfl) (nN (aI hs rfl (fun c64 hs => ?_) (fun c64 hs => ?_))))))
 refine aC (aa (fq (k := 0) h 9 rfl Ma rfl rfl) (aa (ah (v := (I6 a)) rfl) ?_))
 obtain ⟨a65, hs⟩ := bB hs
 refine aa (dP rfl rfl a65) ?_
 replace h := h.pair 1 2 (by decide)
 obtain ⟨l66a, l66b, l66c⟩ := h.z8 1 (C := (.two (.blk ba [(I6 xc)]) (.blk bo [(.bool (yo))]) : Chunk)) rfl ⟨trivial, trivial⟩
 obtain ⟨tY, e68, hs⟩ := aK hs
 refine aX PS rfl rfl (ih _ _ l66c (hT.Yt h.keep hG) ba bo bw bwd bf be bb (⟨xc, yo⟩ : fJ) l66a l66b vW W (h.Ta 1 3 rfl rfl) vF F (h.srSr 1 4 rfl rfl) (by obtain ⟨E, hE⟩ := hbw; exact ⟨E, h.keep.blk hE TC⟩) Zx (by obtain ⟨E, hE⟩ := P6; exact ⟨E, h.keep.blk hE Ml⟩) Mk (by obtain ⟨E, hE⟩ := hbf; exact ⟨E, h.keep.blk hE TD⟩) Zy (by obtain ⟨E, hE⟩ := hbe; exact ⟨E, h.keep.blk hE nbeK⟩) nbe (by obtain ⟨E, hE⟩ := hbb; exact ⟨E, h.keep.blk hE nbbK⟩) nbb (a + 1) (h.LQ hT hG 1 (C := (.two (.blk ba [(I6 xc)]) (.blk bo [(.bool (yo))]) : Chunk)) rfl) _ e68) ?_
 rintro _ w ⟨k71, u69, rfl, h72, h73, g70⟩
 refine ⟨_, rfl, ?_⟩
 replace h := h.back 1 (C := (.two (.blk ba [(I6 xc)]) (.blk bo [(.bool (yo))]) : Chunk)) (C' := (.two (.blk ba [(I6 tY.2.at_)]) (.blk bo [(.bool (tY.2.ok))]) : Chunk)) rfl ⟨trivial, trivial⟩ h72 k71 h73
 replace h := h.dA 21 (Ji g70)
 replace h := h.bY 1 2 (by decide) rfl rfl
 refine aa (ag Cw rfl) (gq h 15 [(I6 ((pV + 1))), (I6 Aw), v47, v51, v55, u69] rfl ug rfl rfl rfl rfl (h.iD 21 rfl).one fun w h => az (au ?_))
 replace h := h.xn 21 19 rfl
 exact bQ (tY.2.at_, tY.2.ok, u69, tY.1) ⟨h.cn _, hs⟩
 refine aH (au ?_)
 replace h := h.dA 19 (gy.nil (R := gM))
 exact bQ (xc, yo, (.slice none 0 0), []) ⟨h.cn _, hs⟩
 refine nG (aa (ag mO rfl) (aa (aA h 15 rfl aU rfl rfl) (aa (bz rfl rfl) (aa (ah (v := (.bool (decide (((pV + 1) : Int) = 6)))) rfl) (aG rfl rfl (fun q => ag mO rfl) (aG rfl rfl (fun q => aA h 15 rfl aU (eD q) rfl) (aG rfl rfl (fun q => bz (eD q) rfl) (aa (iJ rfl rfl nC) (nN (aI hs rfl (fun c74 hs => ?_) (fun c74 hs => ?_)))))))))))
 refine aC (aa (fq (k := 0) h 9 rfl Ma rfl rfl) (aa (ah (v := (I6 a)) rfl) ?_))
 obtain ⟨a75, hs⟩ := bB hs
 refine aa (dP rfl rfl a75) ?_
 replace h := h.pair 1 2 (by decide)
 obtain ⟨l76a, l76b, l76c⟩ := h.z8 1 (C := (.two (.blk ba [(I6 Ew)]) (.blk bo [(.bool (sI))]) : Chunk)) rfl ⟨trivial, trivial⟩
 obtain ⟨y77, ZC, hs⟩ := aK hs
 refine aX PS rfl rfl (ih _ _ l76c (hT.Yt h.keep hG) ba bo bw bwd bf be bb (⟨Ew, sI⟩ : fJ) l76a l76b vW W (h.Ta 1 3 rfl rfl) vF F (h.srSr 1 4 rfl rfl) (by obtain ⟨E, hE⟩ := hbw; exact ⟨E, h.keep.blk hE TC⟩) Zx (by obtain ⟨E, hE⟩ := P6; exact ⟨E, h.keep.blk hE Ml⟩) Mk (by obtain ⟨E, hE⟩ := hbf; exact ⟨E, h.keep.blk hE TD⟩) Zy (by obtain ⟨E, hE⟩ := hbe; exact ⟨E, h.keep.blk hE nbeK⟩) nbe (by obtain ⟨E, hE⟩ := hbb; exact ⟨E, h.keep.blk hE nbbK⟩) nbb (a + 1) (h.LQ hT hG 1 (C := (.two (.blk ba [(I6 Ew)]) (.blk bo [(.bool (sI))]) : Chunk)) rfl) _ ZC) ?_
 rintro _ w ⟨k81, u79, rfl, h82, h83, g80⟩
 refine ⟨_, rfl, ?_⟩
 replace h := h.back 1 (C := (.two (.blk ba [(I6 Ew)]) (.blk bo [(.bool (sI))]) : Chunk)) (C' := (.two (.blk ba [(I6 y77.2.at_)]) (.blk bo [(.bool (y77.2.ok))]) : Chunk)) rfl ⟨trivial, trivial⟩ h82 k81 h83
 replace h := h.dA 22 (Ji g80)
 replace h := h.bY 1 2 (by decide) rfl rfl
 refine aa (ag Cv rfl) (gq h 15 [(I6 ((pV + 1))), (I6 Aw), v47, v51, u79, (.slice none 0 0)] rfl ug rfl rfl rfl rfl (h.iD 22 rfl).one fun w h => az (au ?_))
 replace h := h.xn 22 18 rfl
 exact bQ (y77.2.at_, y77.2.ok, u79, y77.1) ⟨h.cn _, hs⟩
 refine aH (au ?_)
 replace h := h.dA 18 (gy.nil (R := gM))
 exact bQ (Ew, sI, (.slice none 0 0), []) ⟨h.cn _, hs⟩
 refine nG (aa (ag mO rfl) (aa (aA h 15 rfl aU rfl rfl) (aa (bz rfl rfl) (nN (aI hs rfl (fun c84 hs => ?_) (fun c84 hs => ?_))))))
 refine aC (aa (fq (k := 0) h 8 rfl PX rfl rfl) ?_)
 replace h := h.pair 1 2 (by decide)
 obtain ⟨l85a, l85b, l85c⟩ := h.z8 1 (C := (.two (.blk ba [(I6 TH)]) (.blk bo [(.bool (KZ))]) : Chunk)) rfl ⟨trivial, trivial⟩
 obtain ⟨BZ, e87, hs⟩ := aK hs
 refine aX Va rfl rfl (Ox N _ _ l85c (hT.Yt h.keep hG) ba bo bw bwd bf (⟨TH, KZ⟩ : fJ) l85a l85b vW W (h.Ta 1 3 rfl rfl) vF F (h.srSr 1 4 rfl rfl) (by obtain ⟨E, hE⟩ := hbw; exact ⟨E, h.keep.blk hE TC⟩) Zx (by obtain ⟨E, hE⟩ := P6; exact ⟨E, h.keep.blk hE Ml⟩) Mk (by obtain ⟨E, hE⟩ := hbf; exact ⟨E, h.keep.blk hE TD⟩) Zy (h.LQ hT hG 1 (C := (.two (.blk ba [(I6 TH)]) (.blk bo [(.bool (KZ))]) : Chunk)) rfl) _ e87) ?_
 rintro _ w ⟨k90, u88, rfl, h91, h92, g89⟩
 refine ⟨_, rfl, ?_⟩
 replace h := h.back 1 (C := (.two (.blk ba [(I6 TH)]) (.blk bo [(.bool (KZ))]) : Chunk)) (C' := (.two (.blk ba [(I6 BZ.2.at_)]) (.blk bo [(.bool (BZ.2.ok))]) : Chunk)) rfl ⟨trivial, trivial⟩ h91 k90 h92
 replace h := h.dA 23 (Ji g89)
 replace h := h.bY 1 2 (by decide) rfl rfl
 refine aa (ag EL rfl) (gq h 15 [(I6 ((pV + 1))), (I6 Aw), v47, u88, (.slice none 0 0), (.slice none 0 0)] rfl AR rfl rfl rfl rfl (h.iD 23 rfl).one fun w h => az (au ?_))
 replace h := h.xn 23 17 rfl
 exact bQ (BZ.2.at_, BZ.2.ok, u88, BZ.1) ⟨h.cn _, hs⟩
 refine aH (au ?_)
 replace h := h.dA 17 (gy.nil (R := nO))
 exact bQ (TH, KZ, (.slice none 0 0), []) ⟨h.cn _, hs⟩
 refine nG (aa (ag mO rfl) (aa (aA h 15 rfl aU rfl rfl) (aa (iA rfl rfl) (nN (aI hs rfl (fun c93 hs => ?_) (fun c93 hs => ?_))))))
 refine aC (aa (fq (k := 0) h 8 rfl PX rfl rfl) ?_)
 replace h := h.pair 1 2 (by decide)
 obtain ⟨l94a, l94b, l94c⟩ := h.z8 1 (C := (.two (.blk ba [(I6 AU)]) (.blk bo [(.bool (DN))]) : Chunk)) rfl ⟨trivial, trivial⟩
 obtain ⟨y95, e96, hs⟩ := aK hs
 refine aX Va rfl rfl (Ox N _ _ l94c (hT.Yt h.keep hG) ba bo bw bwd bf (⟨AU, DN⟩ : fJ) l94a l94b vW W (h.Ta 1 3 rfl rfl) vF F (h.srSr 1 4 rfl rfl) (by obtain ⟨E, hE⟩ := hbw; exact ⟨E, h.keep.blk hE TC⟩) Zx (by obtain ⟨E, hE⟩ := P6; exact ⟨E, h.keep.blk hE Ml⟩) Mk (by obtain ⟨E, hE⟩ := hbf; exact ⟨E, h.keep.blk hE TD⟩) Zy (h.LQ hT hG 1 (C := (.two (.blk ba [(I6 AU)]) (.blk bo [(.bool (DN))]) : Chunk)) rfl) _ e96) ?_
 rintro _ w ⟨k99, TK, rfl, h100, h101, g98⟩
 refine ⟨_, rfl, ?_⟩
 replace h := h.back 1 (C := (.two (.blk ba [(I6 AU)]) (.blk bo [(.bool (DN))]) : Chunk)) (C' := (.two (.blk ba [(I6 y95.2.at_)]) (.blk bo [(.bool (y95.2.ok))]) : Chunk)) rfl ⟨trivial, trivial⟩ h100 k99 h101
 replace h := h.dA 24 (Ji g98)
 replace h := h.bY 1 2 (by decide) rfl rfl
 refine aa (ag Cu rfl) (gq h 15 [(I6 ((pV + 1))), (I6 Aw), TK, (.slice none 0 0), (.slice none 0 0), (.slice none 0 0)] rfl AR rfl rfl rfl rfl (h.iD 24 rfl).one fun w h => az (au ?_))
 replace h := h.xn 24 16 rfl
 exact bQ (y95.2.at_, y95.2.ok, TK, y95.1) ⟨h.cn _, hs⟩
 refine aH (au ?_)
 replace h := h.dA 16 (gy.nil (R := nO))
 exact bQ (AU, DN, (.slice none 0 0), []) ⟨h.cn _, hs⟩
 refine nG (aa (ag mO rfl) (aa (aA h 15 rfl aU rfl rfl) (aa (Gh rfl rfl) (nN (aI hs rfl (fun ZE hs => ?_) (fun ZE hs => ?_))))))
 refine aC (aa (fq (k := 0) h 6 rfl DK rfl rfl) (lh (args := [(.pointer (some ⟨ba, 0, none⟩)), (.pointer (some ⟨bw, 0, none⟩)), (.pointer (some ⟨bo, 0, none⟩))]) DI rfl rfl (aQ (args := [(.pointer (some ⟨ba, 0, none⟩)), (.pointer (some ⟨bw, 0, none⟩)), (.pointer (some ⟨bo, 0, none⟩))]) Tryz.func103 rfl Tryz.ntmps103 (bF rfl) (nG (aa (ae (v := (aV [])) rfl) (nK (aa (aA h 1 rfl aU rfl rfl) (aa (fq (k := 0) h 5 rfl qQ rfl rfl) (aa (bW gN rfl (h.ny 3 rfl)) (aa (qV rfl rfl) (nN (aI hs rfl (fun Wi hs => ?_) (fun Wi hs => ?_)))))))))))))
 refine nG (gq h 2 [(.bool (false))] rfl BB rfl rfl rfl rfl rfl fun w h => nJ (aa (ae (v := (aV [])) rfl) (nR (ay (dD (v := (aV [])) Tryz.results103 rfl (⟨_, rfl, ?_⟩))))))
 obtain ⟨y104, Jq, hs⟩ := aK hs
 refine aX Iw rfl rfl (uM _ _ h.lt (hT.Yt h.keep hG) [] _ Jq) ?_
 rintro _ w ⟨NG, ZF, rfl, g107⟩
 refine ⟨_, rfl, ?_⟩
 replace h := h.grow NG
 refine aa (ah (v := (.tuple #[(I6 y104.1), ZF])) rfl) (aa (bu rfl rfl) (aa (bu rfl rfl) (aa (ag zg rfl) (gq h 15 [(I6 ((pV + 1))), (I6 y104.1), (.slice none 0 0), (.slice none 0 0), (.slice none 0 0), (.slice none 0 0)] rfl aU rfl rfl rfl rfl rfl fun w h => az (au ?_)))))
 exact bQ (y28, false, y104.1) ⟨h.cn _, hs⟩
 refine nS (aa (aA h 1 rfl aU rfl rfl) ?_)
 obtain ⟨a109, hs⟩ := bB hs
 refine aa (dP rfl rfl a109) (gq h 1 [(I6 ((y28 + 1)))] rfl aU rfl rfl rfl rfl rfl fun w h => nJ (aa (fq (k := 0) h 5 rfl qQ rfl rfl) (aa (aA h 1 rfl aU rfl rfl) ?_)))
 obtain ⟨a110, hs⟩ := bB hs
 refine aa (mV rfl rfl a110) ?_
 obtain ⟨K3, Wj, hs⟩ := aK hs
 obtain ⟨b114, o115, cs116, h, r117, i113⟩ := h.Cm 3 25 rfl gN rfl (aB Wj).1 (aB Wj).2
 obtain rfl := r117
 refine aa (i113 _ _ _ _ _ _ _ _ _ rfl rfl) (aa (fq (k := 0) h 25 rfl Cy rfl rfl) (aa (ae (v := (aV K3)) rfl) (nR (dD (v := (aV K3)) Tryz.results103 rfl (⟨_, rfl, ?_⟩)))))
 obtain ⟨TI, e119, hs⟩ := aK hs
 refine aX Iw rfl rfl (uM _ _ h.lt (hT.Yt h.keep hG) K3 _ e119) ?_
 rintro _ w ⟨k122, u120, rfl, g121⟩
 refine ⟨_, rfl, ?_⟩
 replace h := h.grow k122
 refine aa (ah (v := (.tuple #[(I6 TI.1), u120])) rfl) (aa (bu rfl rfl) (aa (bu rfl rfl) (aa (ag zg rfl) (gq h 15 [(I6 ((pV + 1))), (I6 TI.1), (.slice none 0 0), (.slice none 0 0), (.slice none 0 0), (.slice none 0 0)] rfl aU rfl rfl rfl rfl rfl fun w h => az (au ?_)))))
 exact bQ ((y28 + 1), (y29 && decide ((0 : Int) < (pV + 1))), TI.1) ⟨h.cn _, hs⟩
 refine aH (au ?_)
 exact bQ (y28, (y29 && decide ((0 : Int) < (pV + 1))), 0) ⟨h.cn _, hs⟩
 refine aC (aa (fq (k := 0) h 6 rfl DK rfl rfl) (lh (args := [(.pointer (some ⟨ba, 0, none⟩)), (.pointer (some ⟨bw, 0, none⟩)), (.pointer (some ⟨bo, 0, none⟩))]) DI rfl rfl (aQ (args := [(.pointer (some ⟨ba, 0, none⟩)), (.pointer (some ⟨bw, 0, none⟩)), (.pointer (some ⟨bo, 0, none⟩))]) Tryz.func103 rfl Tryz.ntmps103 (bF rfl) (nG (aa (ae (v := (aV [])) rfl) (nK (aa (aA h 1 rfl aU rfl rfl) (aa (fq (k := 0) h 5 rfl qQ rfl rfl) (aa (bW gN rfl (h.ny 3 rfl)) (aa (qV rfl rfl) (nN (aI hs rfl (fun c123 hs => ?_) (fun c123 hs => ?_)))))))))))))
 refine nG (gq h 2 [(.bool (false))] rfl BB rfl rfl rfl rfl rfl fun w h => nJ (aa (ae (v := (aV [])) rfl) (nR (ay (dD (v := (aV [])) Tryz.results103 rfl (⟨_, rfl, ?_⟩))))))
 refine aa (ae (v := (aV [])) rfl) (az (au ?_))
 exact bQ ([], Ex, false) ⟨h.cn _, hs⟩
 refine nS (aa (aA h 1 rfl aU rfl rfl) ?_)
 obtain ⟨a124, hs⟩ := bB hs
 refine aa (dP rfl rfl a124) (gq h 1 [(I6 ((Ex + 1)))] rfl aU rfl rfl rfl rfl rfl fun w h => nJ (aa (fq (k := 0) h 5 rfl qQ rfl rfl) (aa (aA h 1 rfl aU rfl rfl) ?_)))
 obtain ⟨a125, hs⟩ := bB hs
 refine aa (mV rfl rfl a125) ?_
 obtain ⟨Mm, e127, hs⟩ := aK hs
 obtain ⟨b129, o130, cs131, h, r132, i128⟩ := h.Cm 3 26 rfl gN rfl (aB e127).1 (aB e127).2
 obtain rfl := r132
 refine aa (i128 _ _ _ _ _ _ _ _ _ rfl rfl) (aa (fq (k := 0) h 26 rfl Cy rfl rfl) (aa (ae (v := (aV Mm)) rfl) (nR (dD (v := (aV Mm)) Tryz.results103 rfl (⟨_, rfl, ?_⟩)))))
 refine aa (ae (v := (aV Mm)) rfl) (az (au ?_))
 exact bQ (Mm, (Ex + 1), F8) ⟨h.cn _, hs⟩
 refine nE (aa (ae (v := (.slice none 0 0)) rfl) (nR (dD (v := (.slice none 0 0)) Tryz.results109 rfl ?_)))
 replace h := h.pair 1 2 (by decide)
 obtain rfl := fP hs
 subst vZ
 obtain ⟨o1, o2, o3⟩ := h.kJ 1 (C := (.two (.blk ba [(I6 Ex)]) (.blk bo [(.bool (F8))]) : Chunk)) rfl ⟨trivial, trivial⟩
 exact ⟨o2, .slice none 0 0, rfl, o1, o3, gy.nil⟩
 refine bX (σ := Bool × Int × Bool) (inl (rg 10 7)) (fun ⟨Gy, K4, P7⟩ => [(16, (.bool (Gy)))]) (fun ⟨Gy, K4, P7⟩ w => SH w0 M K0 w (hset [(1, .blk ba [(I6 K4)]), (2, .blk bo [(.bool (P7))]), (3, .rd rV vW W), (4, .sr kD vF F), (5, .pt bw 0 [vW]), (6, .pt bwd 0 [(.func (.func 103) #[] #[(.pointer (some ⟨ba, 0, none⟩)), (.pointer (some ⟨bw, 0, none⟩)), (.pointer (some ⟨bo, 0, none⟩))])]), (7, .pt bf 0 [vF]), (8, .pt be 0 [(.func (.func 104) #[] #[(.pointer (some ⟨bo, 0, none⟩)), (.pointer (some ⟨bwd, 0, none⟩)), (.pointer (some ⟨bf, 0, none⟩))])]), (9, .pt bb 0 [(.func (.func 109) #[] #[(.pointer (some ⟨bwd, 0, none⟩)), (.pointer (some ⟨bo, 0, none⟩)), (.pointer (some ⟨be, 0, none⟩)), (.pointer (some ⟨bb, 0, none⟩))])])]) ∧ xM N F0 W F a Gy K4 P7 = some r) ?_ ?_
 rintro ⟨Gy, K4, P7⟩ w dO ⟨h, hs⟩
 refine aI hs rfl (fun c136 hs => ?_) (fun c136 hs => ?_)
 refine aC (gq h 2 [(.bool (false))] rfl BB rfl rfl rfl rfl rfl fun w h => az (au ?_))
 exact bQ (K4, false) ⟨h.cn _, hs⟩
 refine aH (au ?_)
 exact bQ (K4, P7) ⟨h.cn _, hs⟩
 refine aC (aa (fq (k := 0) h 6 rfl DK rfl rfl) (lh (args := [(.pointer (some ⟨ba, 0, none⟩)), (.pointer (some ⟨bw, 0, none⟩)), (.pointer (some ⟨bo, 0, none⟩))]) DI rfl rfl (aQ (args := [(.pointer (some ⟨ba, 0, none⟩)), (.pointer (some ⟨bw, 0, none⟩)), (.pointer (some ⟨bo, 0, none⟩))]) Tryz.func103 rfl Tryz.ntmps103 (bF rfl) (nG (aa (ae (v := (aV [])) rfl) (nK (aa (aA h 1 rfl aU rfl rfl) (aa (fq (k := 0) h 5 rfl qQ rfl rfl) (aa (bW gN rfl (h.ny 3 rfl)) (aa (qV rfl rfl) (nN (aI hs rfl (fun c137 hs => ?_) (fun c137 hs => ?_)))))))))))))
 refine nG (gq h 2 [(.bool (false))] rfl BB rfl rfl rfl rfl rfl fun w h => nJ (aa (ae (v := (aV [])) rfl) (nR (ay (dD (v := (aV [])) Tryz.results103 rfl (⟨_, rfl, ?_⟩))))))
 refine aa (LM rfl rfl) (aa (ah (v := (.bool (true))) rfl) (nM (b' := true) rfl rfl rfl (nM (b' := true) rfl rfl rfl (aa (fB (b := true) (v := (.bool (true))) rfl rfl) (az (au ?_))))))
 exact bQ (true, sx.at_, false) ⟨h.cn _, hs⟩
 refine nS (aa (aA h 1 rfl aU rfl rfl) ?_)
 obtain ⟨a138, hs⟩ := bB hs
 refine aa (dP rfl rfl a138) (gq h 1 [(I6 ((sx.at_ + 1)))] rfl aU rfl rfl rfl rfl rfl fun w h => nJ (aa (fq (k := 0) h 5 rfl qQ rfl rfl) (aa (aA h 1 rfl aU rfl rfl) ?_)))
 obtain ⟨a139, hs⟩ := bB hs
 refine aa (mV rfl rfl a139) ?_
 obtain ⟨Rj, Rk, hs⟩ := aK hs
 obtain ⟨b143, o144, cs145, h, r146, i142⟩ := h.Cm 3 27 rfl gN rfl (aB Rk).1 (aB Rk).2
 obtain rfl := r146
 refine aa (i142 _ _ _ _ _ _ _ _ _ rfl rfl) (aa (fq (k := 0) h 27 rfl Cy rfl rfl) (aa (ae (v := (aV Rj)) rfl) (nR (dD (v := (aV Rj)) Tryz.results103 rfl (⟨_, rfl, ?_⟩)))))
 refine aa (LM rfl rfl) (aa (ah (v := (.bool (decide ((Rj : Str) ≠ [123])))) rfl) (aG rfl rfl (fun q => ah (v := (I6 a)) rfl) (aG rfl rfl (fun q => lT (eD q) rfl) (aa (iJ rfl rfl nC) (az (au ?_))))))
 exact bQ ((decide ((Rj : Str) ≠ [123]) || decide ((6 : Int) < a)), (sx.at_ + 1), sx.ok) ⟨h.cn _, hs⟩
def pq (NH : List iw → Option (List iw × Int)) (y24 : List iw) : Option (List iw × Int) :=
  NH y24
def pE (y1 : List Str) (i17 : Int) (yt : List iw) (NH : List iw → Option (List iw × Int)) (x30 : Bool) : Option (List iw × Int) :=
  bif x30 then (idx y1 (i17 + 1)).bind fun x32 => (EF x32).bind fun y39 => ib (jV (i17 + 2)) ((idx y1 (i17 + 2)).bind fun x45 => (EF x45).bind fun FM => ib (Room 40 yt [(⟨y39.1, FM.1, []⟩ : iw)]) (pq NH (yt ++ [(⟨y39.1, FM.1, []⟩ : iw)]))) else pq NH yt
def jD (N : Nat) (y1 : List Str) (vU : List iw) (i101 : Int) (ou : (List iw × Int × Bool) → Option (List iw × Int)) (K5 : Int) (y112 : Bool) : Option (List iw × Int) :=
  (zo N (⟨K5, y112⟩ : fJ) y1 vU 1).bind fun mY => (idx vU i101).bind fun Ay => ou ((vU.set (i101).toNat { Ay with body := mY.1 }), mY.2.at_, mY.2.ok)
def jE (N : Nat) (y1 : List Str) (vU : List iw) (i101 : Int) (ou : (List iw × Int × Bool) → Option (List iw × Int)) (Ca : Int) (P8 : Bool) : Option (List iw × Int) :=
  bif decide (((y1.length : Int) : Int) ≤ Ca) then jD N y1 vU i101 ou Ca false else ib (jV (Ca + 1)) (ib (jV ((Ca + 1) - 1)) ((idx y1 ((Ca + 1) - 1)).bind fun x128 => jD N y1 vU i101 ou (Ca + 1) P8))
def jF (N : Nat) (y1 : List Str) (vU : List iw) (i101 : Int) (ou : (List iw × Int × Bool) → Option (List iw × Int)) (tQ : Int) (P9 : Bool) : Option (List iw × Int) :=
  bif decide (((y1.length : Int) : Int) ≤ tQ) then jE N y1 vU i101 ou tQ false else ib (jV (tQ + 1)) (ib (jV ((tQ + 1) - 1)) ((idx y1 ((tQ + 1) - 1)).bind fun rE => jE N y1 vU i101 ou (tQ + 1) P9))
def jG (N : Nat) (y1 : List Str) (vU : List iw) (i101 : Int) (ou : (List iw × Int × Bool) → Option (List iw × Int)) (Rl : Bool) (K6 : Int) (Qa : Bool) : Option (List iw × Int) :=
  bif Rl then jF N y1 vU i101 ou K6 false else jF N y1 vU i101 ou K6 Qa
def lv (vU : List iw) (x159 : Bool) : Option (List iw × Int) :=
  bif x159 then some ([], 1) else some (vU, 0)
def jH (N : Nat) (y1 : List Str) (i101 : Int) (s : List iw × Int × Bool) (ou : List iw × Int × Bool → Option (List iw × Int)) : Option (List iw × Int) :=
  match s with | (vU, y98, y99) => bif decide (((y1.length : Int) : Int) ≤ y98) then jG N y1 vU i101 ou true y98 false else ib (jV (y98 + 1)) (ib (jV ((y98 + 1) - 1)) ((idx y1 ((y98 + 1) - 1)).bind fun x152 => jG N y1 vU i101 ou (decide ((x152 : Str) ≠ [102, 117, 110])) (y98 + 1) y99))
def lC (N : Nat) (y1 : List Str) (a : Str) (s : List iw × Int × Bool) : Option (List iw × Int) :=
  match s with | (vU, y98, y99) => bif ((!y99) || decide ((y98 : Int) < (y1.length : Int))) then lv vU true else (wP N vU).bind fun ZG => bif decide ((ZG : Int) ≠ 0) then lv vU true else (xD N vU).bind fun y166 => lv vU (decide ((y166 : Str) ≠ a))
def lD (yt : List iw) (i64 : Int) (s : Unit) (nx67 : Unit → Option (List iw × Int)) : Option (List iw × Int) :=
  (idx yt i64).bind fun x70 => bif (!(aN x70.params 0 3)) then some ([], 1) else nx67 ()
def jI (N : Nat) (y1 : List Str) (a : Str) (yt : List iw) (s : Unit) : Option (List iw × Int) :=
  upto (jH N y1) (lC N y1 a) 0 ((yt.length : Int)).toNat (yt, 0, true)
def lF (y1 : List Str) (i17 : Int) (Av : Str) (yt : List iw) (NH : List iw → Option (List iw × Int)) : Option (List iw × Int) :=
  bif decide ((Av : Str) = [102, 117, 110]) then ib (jV (i17 + 2)) (pE y1 i17 yt NH (decide (((i17 + 2) : Int) < (y1.length : Int)))) else pE y1 i17 yt NH false
def jJ (N : Nat) (y1 : List Str) (a : Str) (yt : List iw) : Option (List iw × Int) :=
  bif (decide (((yt.length : Int) : Int) = 0) || decide ((4 : Int) < (yt.length : Int))) then some ([], 1) else upto (lD yt) (jI N y1 a yt) 0 ((yt.length : Int)).toNat ()
def nU (N : Nat) (a : Str) : Option (List iw × Int) :=
  (Px a [32]).bind fun y1 => dW (lF y1) (jJ N y1 a) 0 y1 []
end
end Go.Proofs.YtfclkapelkhlpaaGreatDoor
