/-
  What the law VmSays needs of our own library and of the walks, no more.
-/
import Derived.Test.YtfclkapelkhlpaaGreatDoorProg
import Derived.Test.YtfclkapelkhlpaaGreatDoorVmSaysTb
set_option linter.unusedSimpArgs false
set_option linter.unusedVariables false
set_option maxRecDepth 10000
namespace Go.LX
open Go Go.Proofs
abbrev I6 (n : Int) : Value := .int .i64 n
def rg (a : Nat) : Nat → List Nat
  | 0 => []
  | n + 1 => a :: rg (a + 1) n
abbrev cT (p : Nat) (v0 v1 : Value) (st wh : Int) (f : List Frame) (w0 : List Value) (c : List (List Val)) (w1 : List Value) : Chunk := (.two (.two (.two (.two (.blk p [v0, v1, .int .i64 st, .int .i64 wh]) (.own bB.raw 49 v0 (List.zip f w0))) (.iJ (ek bz 51 hn w0 (List.map bB.sub f)))) (.own (eD Val).raw 47 v1 (List.zip c w1))) (.iJ (ek bz 51 hn w1 (List.map (eD Val).sub c))) : Chunk)
abbrev cU (v0 v1 : Value) (f : List Frame) (w0 : List Value) (c : List (List Val)) (w1 : List Value) : Chunk := (.two (.two (.two (.own bB.raw 49 v0 (List.zip f w0)) (.iJ (ek bz 51 hn w0 (List.map bB.sub f)))) (.own (eD Val).raw 47 v1 (List.zip c w1))) (.iJ (ek bz 51 hn w1 (List.map (eD Val).sub c))) : Chunk)
theorem fM {α : Type} {a b : α} (h : some a = some b) : a = b := Option.some.inj h
theorem cB {x y : Bool} (c : x = y) : Value.bool x = Value.bool y := congrArg Value.bool c
theorem oD {p : Prop} [Decidable p] (h : decide p = true) : p := of_decide_eq_true h
theorem WT {a b c : Bool} (h : (a && (b && c)) = true) : a = true ∧ b = true ∧ c = true := by simpa using h
theorem bD {n m : Nat} (h : Nat.ble n m = true) : n ≤ m := Nat.le_of_ble_eq_true h
section
variable {P : Program} {ops : Array Oper} {Q : Exit → Act → World → Prop} {rest : List Oper} {n : Nat} {env : Nat → Value} {w : World} {d : Option Nat} {op : Op} {ty : TypeId} {pos : String} {af : Array Edge}
theorem OT {j dj : Nat} {b : Bool} (hd : (ops[j]?).bind (·.dst) = some dj) (hv : ev n env (.tmp dj) = .bool true) (hb : (true == b) = false) (h : WL P ops Q rest n (lU env d undef) w) : WL P ops Q (⟨d, op, ty, pos, af, some (j, b)⟩ :: rest) n env w := fK hd hv hb h
theorem mO {j dj : Nat} {b : Bool} (hd : (ops[j]?).bind (·.dst) = some dj) (hv : ev n env (.tmp dj) = .bool false) (hb : (false == b) = false) (h : WL P ops Q rest n (lU env d undef) w) : WL P ops Q (⟨d, op, ty, pos, af, some (j, b)⟩ :: rest) n env w := fK hd hv hb h
end
section
variable {P : Program} {Q Q' : Exit → Act → World → Prop} {K1 K2 : Act → World → Prop} {n : Nat} {env : Nat → Value} {w : World} {x y : Code} {l : List Oper} {ops : Array Oper} {id i : Nat}
theorem nG (h : WL P l.toArray (Exit.then (y.wp P Q) Q) l n env w) : WC P (Code.seq (Code.region id l.toArray false) y) Q n env w := aM (aD h)
theorem nN (h : WC P y Q n env w) : WL P ops (Exit.then (y.wp P Q) Q') [] n env w := aA (ak h)
theorem nR (h : Q .ret (act n env) w) : WL P ops (Exit.then (Code.ret.wp P Q) Q') [] n env w := aA (ak (Cm h))
theorem nJ (h : WL P l.toArray (Exit.then (y.wp P Q) Q) l n env w) : WL P ops (Exit.then ((Code.seq (Code.region id l.toArray false) y).wp P Q) Q') [] n env w := nN (nG h)
theorem nK (h : WL P l.toArray (Exit.then (x.wp P (Exit.then (y.wp P Q) Q)) (Exit.then (y.wp P Q) Q)) l n env w) : WL P ops (Exit.then ((Code.seq (Code.seq (Code.region id l.toArray false) x) y).wp P Q) Q') [] n env w := nN (aM (nG h))
theorem nS (h : WL P l.toArray (Exit.then (y.wp P Q) Q) l n env w) : WC P .skip (Exit.then ((Code.seq (Code.region id l.toArray false) y).wp P Q) Q') n env w := aH (ak (nG h))
theorem nE (h : WL P l.toArray (Exit.then (y.wp P Q) Q) l n env w) : WC P (.exit i) (Exit.then K1 (Exit.then K2 (Exit.inBlock i (Exit.then ((Code.seq (Code.region id l.toArray false) y).wp P Q) Q')))) n env w := jl (bQ (bQ (fq (ak (nG h)))))
end
section
variable {P : Program} {ops : Array Oper} {Q : Exit → Act → World → Prop} {n : Nat} {env : Nat → Value} {w ws : World} {d : Option Nat} {op : Op} {ty : TypeId} {pos : String} {af : Array Edge} {fuel : Nat} {listed : Array Bool} {v : Value} {L : BS}
theorem jG (i : Nat) (hS : Grow ws w) (hi : ops[i]? = some ⟨d, op, ty, pos, af, none⟩) (h3 : (Region.noSelect ops && (Region.free .any ops listed i && (Region.ready .any ops listed).contains i)) = true) (he : ∀ wq, Grow ws wq → (execOp (ev n env) ⟨d, op, ty, pos, af, none⟩).run P wq = .ok (.value v) wq) (h : WH P ops ws Q fuel (listed.setIfInBounds i true) n (lU env d v) w) : WH P ops ws Q (fuel + 1) listed n env w := eG i hS hi aj (WT h3).1 (WT h3).2.1 (WT h3).2.2 he h
theorem dN (i : Nat) (hS : aP L ws w) (hi : ops[i]? = some ⟨d, op, ty, pos, af, none⟩) (h3 : (Region.noSelect ops && (Region.free .any ops listed i && (Region.ready .any ops listed).contains i)) = true) (he : ∀ wq, aP L ws wq → (execOp (ev n env) ⟨d, op, ty, pos, af, none⟩).run P wq = .ok (.value v) wq) (h : WI P ops L ws Q fuel (listed.setIfInBounds i true) n (lU env d v) w) : WI P ops L ws Q (fuel + 1) listed n env w := bH i hS hi aj (WT h3).1 (WT h3).2.1 (WT h3).2.2 he h
end
end Go.LX
namespace Go.Proofs.YtfclkapelkhlpaaGreatDoor
open Go Go.Proofs Go.LX
noncomputable section
theorem OU : sS Tryz.prog 111 147 6 112 := ⟨Tryz.underlying111, xK (z := (.agg #[(I6 0), (I6 0), (.slice none 0 0), (.slice none 0 0), (.slice none 0 0), (.slice none 0 0)])) (by kernel_rfl) rfl⟩
theorem OV : sS Tryz.prog 145 160 2 16 := ⟨Tryz.underlying145, xK (z := (.agg #[(I6 0), (I6 0)])) (by kernel_rfl) rfl⟩
theorem OW : sS Tryz.prog 153 9 1 16 := ⟨Tryz.underlying153, xK (z := (aV [])) (by kernel_rfl) rfl⟩
theorem WU : sS Tryz.prog 204 111 1 24 := ⟨Tryz.underlying204, xK (z := (.slice none 0 0)) (by kernel_rfl) rfl⟩
theorem Ry : sS Tryz.prog 22 57 3 40 := ⟨Tryz.underlying22, xK (z := (.agg #[(I6 0), (I6 0), (.slice none 0 0)])) (by kernel_rfl) rfl⟩
theorem kH : sS Tryz.prog 23 49 4 48 := ⟨Tryz.underlying23, xK (z := (.agg #[(I6 0), (I6 0), (.slice none 0 0), (I6 0)])) (by kernel_rfl) rfl⟩
theorem lv : sS Tryz.prog 24 47 1 24 := ⟨Tryz.underlying24, xK (z := (.slice none 0 0)) (by kernel_rfl) rfl⟩
theorem kI : sS Tryz.prog 27 3 1 8 := ⟨Tryz.underlying27, xK (z := (I6 0)) (by kernel_rfl) rfl⟩
theorem lC : sS Tryz.prog 47 51 2 16 := ⟨Tryz.underlying47, xK (z := (.agg #[(I6 0), (I6 0)])) (by kernel_rfl) rfl⟩
theorem iH : sS Tryz.prog 55 93 5 56 := ⟨Tryz.underlying55, xK (z := (.agg #[(I6 0), (I6 0), (I6 0), (I6 0), (.slice none 0 0)])) (by kernel_rfl) rfl⟩
theorem Rz : sS Tryz.prog 67 113 3 40 := ⟨Tryz.underlying67, xK (z := (.agg #[(I6 0), (I6 0), (.slice none 0 0)])) (by kernel_rfl) rfl⟩
theorem ZH : ja Tryz.prog 101 0 0 := ⟨_, _, 0, Tryz.underlying101, rfl, rfl, by kernel_rfl⟩
theorem ZI : ja Tryz.prog 101 1 1 := ⟨_, _, 0, Tryz.underlying101, rfl, rfl, by kernel_rfl⟩
theorem MH : ja Tryz.prog 101 2 2 := ⟨_, _, 0, Tryz.underlying101, rfl, rfl, by kernel_rfl⟩
theorem zq : ja Tryz.prog 113 0 0 := ⟨_, _, 0, Tryz.underlying113, rfl, rfl, by kernel_rfl⟩
theorem CU : ja Tryz.prog 113 1 1 := ⟨_, _, 0, Tryz.underlying113, rfl, rfl, by kernel_rfl⟩
theorem Fa : ja Tryz.prog 113 2 2 := ⟨_, _, 0, Tryz.underlying113, rfl, rfl, by kernel_rfl⟩
theorem nC : ja Tryz.prog 147 0 0 := ⟨_, _, 0, Tryz.underlying147, rfl, rfl, by kernel_rfl⟩
theorem zt : ja Tryz.prog 147 1 1 := ⟨_, _, 0, Tryz.underlying147, rfl, rfl, by kernel_rfl⟩
theorem CV : ja Tryz.prog 147 2 2 := ⟨_, _, 0, Tryz.underlying147, rfl, rfl, by kernel_rfl⟩
theorem Fb : ja Tryz.prog 147 3 3 := ⟨_, _, 0, Tryz.underlying147, rfl, rfl, by kernel_rfl⟩
theorem CW : ja Tryz.prog 147 4 4 := ⟨_, _, 0, Tryz.underlying147, rfl, rfl, by kernel_rfl⟩
theorem CX : ja Tryz.prog 147 5 5 := ⟨_, _, 0, Tryz.underlying147, rfl, rfl, by kernel_rfl⟩
theorem IZ : ja Tryz.prog 160 0 0 := ⟨_, _, 0, Tryz.underlying160, rfl, rfl, by kernel_rfl⟩
theorem rY : ja Tryz.prog 160 1 1 := ⟨_, _, 0, Tryz.underlying160, rfl, rfl, by kernel_rfl⟩
theorem dP : ja Tryz.prog 26 0 0 := ⟨_, _, 0, Tryz.underlying26, rfl, rfl, by kernel_rfl⟩
theorem gJ : ja Tryz.prog 26 1 1 := ⟨_, _, 0, Tryz.underlying26, rfl, rfl, by kernel_rfl⟩
theorem kN : ja Tryz.prog 26 2 2 := ⟨_, _, 0, Tryz.underlying26, rfl, rfl, by kernel_rfl⟩
theorem vJ : ja Tryz.prog 26 3 3 := ⟨_, _, 0, Tryz.underlying26, rfl, rfl, by kernel_rfl⟩
theorem tq : ja Tryz.prog 49 0 0 := ⟨_, _, 0, Tryz.underlying49, rfl, rfl, by kernel_rfl⟩
theorem nO : ja Tryz.prog 49 1 1 := ⟨_, _, 0, Tryz.underlying49, rfl, rfl, by kernel_rfl⟩
theorem jJ : ja Tryz.prog 49 2 2 := ⟨_, _, 0, Tryz.underlying49, rfl, rfl, by kernel_rfl⟩
theorem zg : ja Tryz.prog 49 3 3 := ⟨_, _, 0, Tryz.underlying49, rfl, rfl, by kernel_rfl⟩
theorem lJ : ja Tryz.prog 51 0 0 := ⟨_, _, 0, Tryz.underlying51, rfl, rfl, by kernel_rfl⟩
theorem fu : ja Tryz.prog 51 1 1 := ⟨_, _, 0, Tryz.underlying51, rfl, rfl, by kernel_rfl⟩
theorem Av : ja Tryz.prog 57 0 0 := ⟨_, _, 0, Tryz.underlying57, rfl, rfl, by kernel_rfl⟩
theorem vK : ja Tryz.prog 57 1 1 := ⟨_, _, 0, Tryz.underlying57, rfl, rfl, by kernel_rfl⟩
theorem nP : ja Tryz.prog 57 2 2 := ⟨_, _, 0, Tryz.underlying57, rfl, rfl, by kernel_rfl⟩
theorem ni : ja Tryz.prog 93 0 0 := ⟨_, _, 0, Tryz.underlying93, rfl, rfl, by kernel_rfl⟩
theorem jy : ja Tryz.prog 93 1 1 := ⟨_, _, 0, Tryz.underlying93, rfl, rfl, by kernel_rfl⟩
theorem gN : ja Tryz.prog 93 2 2 := ⟨_, _, 0, Tryz.underlying93, rfl, rfl, by kernel_rfl⟩
theorem nk : ja Tryz.prog 93 3 3 := ⟨_, _, 0, Tryz.underlying93, rfl, rfl, by kernel_rfl⟩
theorem rQ : ja Tryz.prog 93 4 4 := ⟨_, _, 0, Tryz.underlying93, rfl, rfl, by kernel_rfl⟩
theorem Qi : iB Tryz.prog 100 := ⟨_, Tryz.func100, by kernel_rfl, rfl⟩
theorem fnOk101 : iB Tryz.prog 101 := ⟨_, Tryz.func101, by kernel_rfl, rfl⟩
theorem I1 : iB Tryz.prog 102 := ⟨_, Tryz.func102, by kernel_rfl, rfl⟩
theorem D9 : iB Tryz.prog 103 := ⟨_, Tryz.func103, by kernel_rfl, rfl⟩
theorem VT : iB Tryz.prog 104 := ⟨_, Tryz.func104, by kernel_rfl, rfl⟩
theorem fnOk105 : iB Tryz.prog 105 := ⟨_, Tryz.func105, by kernel_rfl, rfl⟩
theorem Qj : iB Tryz.prog 106 := ⟨_, Tryz.func106, by kernel_rfl, rfl⟩
theorem VU : iB Tryz.prog 107 := ⟨_, Tryz.func107, by kernel_rfl, rfl⟩
theorem Qk : iB Tryz.prog 108 := ⟨_, Tryz.func108, by kernel_rfl, rfl⟩
theorem Ql : iB Tryz.prog 109 := ⟨_, Tryz.func109, by kernel_rfl, rfl⟩
theorem fnOk110 : iB Tryz.prog 110 := ⟨_, Tryz.func110, by kernel_rfl, rfl⟩
theorem VV : iB Tryz.prog 111 := ⟨_, Tryz.func111, by kernel_rfl, rfl⟩
theorem fnOk112 : iB Tryz.prog 112 := ⟨_, Tryz.func112, by kernel_rfl, rfl⟩
theorem fnOk113 : iB Tryz.prog 113 := ⟨_, Tryz.func113, by kernel_rfl, rfl⟩
theorem fnOk114 : iB Tryz.prog 114 := ⟨_, Tryz.func114, by kernel_rfl, rfl⟩
theorem fnOk115 : iB Tryz.prog 115 := ⟨_, Tryz.func115, by kernel_rfl, rfl⟩
theorem LV : iB Tryz.prog 116 := ⟨_, Tryz.func116, by kernel_rfl, rfl⟩
theorem VW : iB Tryz.prog 117 := ⟨_, Tryz.func117, by kernel_rfl, rfl⟩
theorem fnOk124 : iB Tryz.prog 124 := ⟨_, Tryz.func124, by kernel_rfl, rfl⟩
theorem LW : iB Tryz.prog 125 := ⟨_, Tryz.func125, by kernel_rfl, rfl⟩
theorem VX : iB Tryz.prog 128 := ⟨_, Tryz.func128, by kernel_rfl, rfl⟩
theorem Qm : iB Tryz.prog 129 := ⟨_, Tryz.func129, by kernel_rfl, rfl⟩
theorem Qn : iB Tryz.prog 130 := ⟨_, Tryz.func130, by kernel_rfl, rfl⟩
theorem fnOk131 : iB Tryz.prog 131 := ⟨_, Tryz.func131, by kernel_rfl, rfl⟩
theorem fnOk141 : iB Tryz.prog 141 := ⟨_, Tryz.func141, by kernel_rfl, rfl⟩
theorem Ea : iB Tryz.prog 144 := ⟨_, Tryz.func144, by kernel_rfl, rfl⟩
theorem Gb : iB Tryz.prog 145 := ⟨_, Tryz.func145, by kernel_rfl, rfl⟩
theorem VY : iB Tryz.prog 146 := ⟨_, Tryz.func146, by kernel_rfl, rfl⟩
theorem VZ : iB Tryz.prog 147 := ⟨_, Tryz.func147, by kernel_rfl, rfl⟩
theorem fnOk164 : iB Tryz.prog 164 := ⟨_, Tryz.func164, by kernel_rfl, rfl⟩
theorem Ua : iB Tryz.prog 18 := ⟨_, Tryz.func18, by kernel_rfl, rfl⟩
theorem fnOk19 : iB Tryz.prog 19 := ⟨_, Tryz.func19, by kernel_rfl, rfl⟩
theorem ZJ : iB Tryz.prog 20 := ⟨_, Tryz.func20, by kernel_rfl, rfl⟩
theorem fnOk21 : iB Tryz.prog 21 := ⟨_, Tryz.func21, by kernel_rfl, rfl⟩
theorem fnOk22 : iB Tryz.prog 22 := ⟨_, Tryz.func22, by kernel_rfl, rfl⟩
theorem Cq : iB Tryz.prog 24 := ⟨_, Tryz.func24, by kernel_rfl, rfl⟩
theorem fnOk26 : iB Tryz.prog 26 := ⟨_, Tryz.func26, by kernel_rfl, rfl⟩
theorem Qo : iB Tryz.prog 27 := ⟨_, Tryz.func27, by kernel_rfl, rfl⟩
theorem Qp : iB Tryz.prog 28 := ⟨_, Tryz.func28, by kernel_rfl, rfl⟩
theorem ZK : iB Tryz.prog 29 := ⟨_, Tryz.func29, by kernel_rfl, rfl⟩
theorem ZL : iB Tryz.prog 30 := ⟨_, Tryz.func30, by kernel_rfl, rfl⟩
theorem ZM : iB Tryz.prog 31 := ⟨_, Tryz.func31, by kernel_rfl, rfl⟩
theorem fnOk32 : iB Tryz.prog 32 := ⟨_, Tryz.func32, by kernel_rfl, rfl⟩
theorem fnOk39 : iB Tryz.prog 39 := ⟨_, Tryz.func39, by kernel_rfl, rfl⟩
theorem fnOk40 : iB Tryz.prog 40 := ⟨_, Tryz.func40, by kernel_rfl, rfl⟩
theorem fnOk44 : iB Tryz.prog 44 := ⟨_, Tryz.func44, by kernel_rfl, rfl⟩
theorem ZN : iB Tryz.prog 45 := ⟨_, Tryz.func45, by kernel_rfl, rfl⟩
theorem fnOk46 : iB Tryz.prog 46 := ⟨_, Tryz.func46, by kernel_rfl, rfl⟩
theorem Qq : iB Tryz.prog 47 := ⟨_, Tryz.func47, by kernel_rfl, rfl⟩
theorem fnOk48 : iB Tryz.prog 48 := ⟨_, Tryz.func48, by kernel_rfl, rfl⟩
theorem Qr : iB Tryz.prog 49 := ⟨_, Tryz.func49, by kernel_rfl, rfl⟩
theorem ZO : iB Tryz.prog 50 := ⟨_, Tryz.func50, by kernel_rfl, rfl⟩
theorem rZ : iB Tryz.prog 51 := ⟨_, Tryz.func51, by kernel_rfl, rfl⟩
theorem fnOk52 : iB Tryz.prog 52 := ⟨_, Tryz.func52, by kernel_rfl, rfl⟩
theorem MI : iB Tryz.prog 53 := ⟨_, Tryz.func53, by kernel_rfl, rfl⟩
theorem fnOk54 : iB Tryz.prog 54 := ⟨_, Tryz.func54, by kernel_rfl, rfl⟩
theorem Bd : iB Tryz.prog 55 := ⟨_, Tryz.func55, by kernel_rfl, rfl⟩
theorem ZP : iB Tryz.prog 56 := ⟨_, Tryz.func56, by kernel_rfl, rfl⟩
theorem fnOk58 : iB Tryz.prog 58 := ⟨_, Tryz.func58, by kernel_rfl, rfl⟩
theorem fnOk59 : iB Tryz.prog 59 := ⟨_, Tryz.func59, by kernel_rfl, rfl⟩
theorem ZQ : iB Tryz.prog 63 := ⟨_, Tryz.func63, by kernel_rfl, rfl⟩
theorem fnOk64 : iB Tryz.prog 64 := ⟨_, Tryz.func64, by kernel_rfl, rfl⟩
theorem fnOk65 : iB Tryz.prog 65 := ⟨_, Tryz.func65, by kernel_rfl, rfl⟩
theorem fnOk66 : iB Tryz.prog 66 := ⟨_, Tryz.func66, by kernel_rfl, rfl⟩
theorem ZR : iB Tryz.prog 67 := ⟨_, Tryz.func67, by kernel_rfl, rfl⟩
theorem Ub : iB Tryz.prog 68 := ⟨_, Tryz.func68, by kernel_rfl, rfl⟩
theorem Uc : iB Tryz.prog 69 := ⟨_, Tryz.func69, by kernel_rfl, rfl⟩
theorem fnOk70 : iB Tryz.prog 70 := ⟨_, Tryz.func70, by kernel_rfl, rfl⟩
theorem Qs : iB Tryz.prog 76 := ⟨_, Tryz.func76, by kernel_rfl, rfl⟩
theorem fnOk77 : iB Tryz.prog 77 := ⟨_, Tryz.func77, by kernel_rfl, rfl⟩
theorem fnOk78 : iB Tryz.prog 78 := ⟨_, Tryz.func78, by kernel_rfl, rfl⟩
theorem fnOk79 : iB Tryz.prog 79 := ⟨_, Tryz.func79, by kernel_rfl, rfl⟩
theorem ZT : iB Tryz.prog 80 := ⟨_, Tryz.func80, by kernel_rfl, rfl⟩
theorem Ud : iB Tryz.prog 81 := ⟨_, Tryz.func81, by kernel_rfl, rfl⟩
theorem ZU : iB Tryz.prog 82 := ⟨_, Tryz.func82, by kernel_rfl, rfl⟩
theorem Ue : iB Tryz.prog 83 := ⟨_, Tryz.func83, by kernel_rfl, rfl⟩
theorem Uf : iB Tryz.prog 84 := ⟨_, Tryz.func84, by kernel_rfl, rfl⟩
theorem ZV : iB Tryz.prog 85 := ⟨_, Tryz.func85, by kernel_rfl, rfl⟩
theorem fnOk86 : iB Tryz.prog 86 := ⟨_, Tryz.func86, by kernel_rfl, rfl⟩
theorem ZW : iB Tryz.prog 87 := ⟨_, Tryz.func87, by kernel_rfl, rfl⟩
theorem ZX : iB Tryz.prog 88 := ⟨_, Tryz.func88, by kernel_rfl, rfl⟩
theorem ZY : iB Tryz.prog 89 := ⟨_, Tryz.func89, by kernel_rfl, rfl⟩
theorem ZZ : iB Tryz.prog 90 := ⟨_, Tryz.func90, by kernel_rfl, rfl⟩
theorem fnOk91 : iB Tryz.prog 91 := ⟨_, Tryz.func91, by kernel_rfl, rfl⟩
theorem fnOk92 : iB Tryz.prog 92 := ⟨_, Tryz.func92, by kernel_rfl, rfl⟩
theorem Z0 : iB Tryz.prog 93 := ⟨_, Tryz.func93, by kernel_rfl, rfl⟩
theorem Z4 : iB Tryz.prog 94 := ⟨_, Tryz.func94, by kernel_rfl, rfl⟩
theorem WV : Zm Tryz.prog 156 := ⟨by kernel_rfl⟩
theorem jm : zm Tryz.prog 101 [(.bool (false)), (I6 0), (.bool (false))] := ⟨⟨_, Tryz.underlying101, trivial⟩, by kernel_rfl⟩
theorem qi : zm Tryz.prog 113 [(I6 0), (I6 0), (.slice none 0 0)] := ⟨⟨_, Tryz.underlying113, trivial⟩, by kernel_rfl⟩
theorem tu : zm Tryz.prog 147 [(I6 0), (I6 0), (.slice none 0 0), (.slice none 0 0), (.slice none 0 0), (.slice none 0 0)] := ⟨⟨_, Tryz.underlying147, trivial⟩, by kernel_rfl⟩
theorem nQ : zm Tryz.prog 160 [(I6 0), (I6 0)] := ⟨⟨_, Tryz.underlying160, trivial⟩, by kernel_rfl⟩
theorem bC : zm Tryz.prog 26 [(.slice none 0 0), (.slice none 0 0), (I6 0), (I6 0)] := ⟨⟨_, Tryz.underlying26, trivial⟩, by kernel_rfl⟩
theorem gz : zm Tryz.prog 49 [(I6 0), (I6 0), (.slice none 0 0), (I6 0)] := ⟨⟨_, Tryz.underlying49, trivial⟩, by kernel_rfl⟩
theorem aY : zm Tryz.prog 51 [(I6 0), (I6 0)] := ⟨⟨_, Tryz.underlying51, trivial⟩, by kernel_rfl⟩
theorem tC : zm Tryz.prog 57 [(I6 0), (I6 0), (.slice none 0 0)] := ⟨⟨_, Tryz.underlying57, trivial⟩, by kernel_rfl⟩
theorem oF : zm Tryz.prog 93 [(I6 0), (I6 0), (I6 0), (I6 0), (.slice none 0 0)] := ⟨⟨_, Tryz.underlying93, trivial⟩, by kernel_rfl⟩
theorem I4 : MapOf Tryz.prog 125 (.bool (false)) := ⟨_, _, Tryz.underlying125, Tryz.underlying3, by kernel_rfl⟩
theorem iP : MapOf Tryz.prog 131 (aV []) := ⟨_, _, Tryz.underlying131, Tryz.underlying3, by kernel_rfl⟩
theorem V3 : MapOf Tryz.prog 89 (I6 0) := ⟨_, _, Tryz.underlying89, Tryz.underlying3, by kernel_rfl⟩
theorem Gc : MF Tryz.prog 174 (.agg #[(I6 0), (I6 0)]) := ⟨_, _, Tryz.underlying174, Tryz.underlying4, by kernel_rfl⟩
theorem mi : One Tryz.prog 104 (.pointer none) := ⟨⟨_, Tryz.underlying104, trivial⟩, by kernel_rfl, rfl⟩
theorem uz : One Tryz.prog 111 (.slice none 0 0) := ⟨⟨_, Tryz.underlying111, trivial⟩, by kernel_rfl, rfl⟩
theorem JM : One Tryz.prog 125 (.map none) := ⟨⟨_, Tryz.underlying125, trivial⟩, by kernel_rfl, rfl⟩
theorem Be : One Tryz.prog 145 (.slice none 0 0) := ⟨⟨_, Tryz.underlying145, trivial⟩, by kernel_rfl, rfl⟩
theorem rD : One Tryz.prog 153 (.slice none 0 0) := ⟨⟨_, Tryz.underlying153, trivial⟩, by kernel_rfl, rfl⟩
theorem Eb : One Tryz.prog 159 .nilFunc := ⟨⟨_, Tryz.underlying159, trivial⟩, by kernel_rfl, rfl⟩
theorem Qt : One Tryz.prog 165 .nilFunc := ⟨⟨_, Tryz.underlying165, trivial⟩, by kernel_rfl, rfl⟩
theorem MJ : One Tryz.prog 166 .nilFunc := ⟨⟨_, Tryz.underlying166, trivial⟩, by kernel_rfl, rfl⟩
theorem gL : One Tryz.prog 23 (.slice none 0 0) := ⟨⟨_, Tryz.underlying23, trivial⟩, by kernel_rfl, rfl⟩
theorem jQ : One Tryz.prog 24 (.slice none 0 0) := ⟨⟨_, Tryz.underlying24, trivial⟩, by kernel_rfl, rfl⟩
theorem qU : One Tryz.prog 27 (.slice none 0 0) := ⟨⟨_, Tryz.underlying27, trivial⟩, by kernel_rfl, rfl⟩
theorem aR : One Tryz.prog 3 (I6 0) := ⟨⟨_, Tryz.underlying3, trivial⟩, by kernel_rfl, rfl⟩
theorem BQ : One Tryz.prog 4 (.bool (false)) := ⟨⟨_, Tryz.underlying4, trivial⟩, by kernel_rfl, rfl⟩
theorem jH : One Tryz.prog 47 (.slice none 0 0) := ⟨⟨_, Tryz.underlying47, trivial⟩, by kernel_rfl, rfl⟩
theorem xh : One Tryz.prog 55 (.slice none 0 0) := ⟨⟨_, Tryz.underlying55, trivial⟩, by kernel_rfl, rfl⟩
theorem CY : One Tryz.prog 67 (.slice none 0 0) := ⟨⟨_, Tryz.underlying67, trivial⟩, by kernel_rfl, rfl⟩
theorem V4 : One Tryz.prog 89 (.map none) := ⟨⟨_, Tryz.underlying89, trivial⟩, by kernel_rfl, rfl⟩
theorem CZ : One Tryz.prog 9 (aV []) := ⟨⟨_, Tryz.underlying9, trivial⟩, by kernel_rfl, rfl⟩
theorem Qu : VJ Tryz.prog 51 := ⟨⟨_, _, Tryz.underlying51, by decide, by decide, rfl, rfl, Tryz.underlying3, Tryz.underlying3, by kernel_rfl, by kernel_rfl⟩, by kernel_rfl, by kernel_rfl⟩
theorem oZ : SliceOf Tryz.prog 111 147 6 := ⟨Tryz.underlying111, by kernel_rfl⟩
theorem nZ : SliceOf Tryz.prog 145 160 2 := ⟨Tryz.underlying145, by kernel_rfl⟩
theorem il : SliceOf Tryz.prog 153 9 1 := ⟨Tryz.underlying153, by kernel_rfl⟩
theorem MK : SliceOf Tryz.prog 204 111 1 := ⟨Tryz.underlying204, by kernel_rfl⟩
theorem gU : SliceOf Tryz.prog 22 57 3 := ⟨Tryz.underlying22, by kernel_rfl⟩
theorem bV : SliceOf Tryz.prog 23 49 4 := ⟨Tryz.underlying23, by kernel_rfl⟩
theorem dV : SliceOf Tryz.prog 24 47 1 := ⟨Tryz.underlying24, by kernel_rfl⟩
theorem bZ : SliceOf Tryz.prog 27 3 1 := ⟨Tryz.underlying27, by kernel_rfl⟩
theorem aZ : SliceOf Tryz.prog 47 51 2 := ⟨Tryz.underlying47, by kernel_rfl⟩
theorem iD : SliceOf Tryz.prog 55 93 5 := ⟨Tryz.underlying55, by kernel_rfl⟩
theorem kE : SliceOf Tryz.prog 67 113 3 := ⟨Tryz.underlying67, by kernel_rfl⟩
theorem WW : Struct Tryz.prog 101 [(.bool (false)), (I6 0), (.bool (false))] [(0, 1), (1, 1), (2, 1)] := ⟨by kernel_rfl, _, Tryz.underlying101, by kernel_rfl⟩
theorem WX : Struct Tryz.prog 113 [(I6 0), (I6 0), (.slice none 0 0)] [(0, 1), (1, 1), (2, 1)] := ⟨by kernel_rfl, _, Tryz.underlying113, by kernel_rfl⟩
theorem WY : Struct Tryz.prog 147 [(I6 0), (I6 0), (.slice none 0 0), (.slice none 0 0), (.slice none 0 0), (.slice none 0 0)] [(0, 1), (1, 1), (2, 1), (3, 1), (4, 1), (5, 1)] := ⟨by kernel_rfl, _, Tryz.underlying147, by kernel_rfl⟩
theorem C8 : Struct Tryz.prog 160 [(I6 0), (I6 0)] [(0, 1), (1, 1)] := ⟨by kernel_rfl, _, Tryz.underlying160, by kernel_rfl⟩
theorem wB : Struct Tryz.prog 26 [(.slice none 0 0), (.slice none 0 0), (I6 0), (I6 0)] [(0, 1), (1, 1), (2, 1), (3, 1)] := ⟨by kernel_rfl, _, Tryz.underlying26, by kernel_rfl⟩
theorem C9 : Struct Tryz.prog 49 [(I6 0), (I6 0), (.slice none 0 0), (I6 0)] [(0, 1), (1, 1), (2, 1), (3, 1)] := ⟨by kernel_rfl, _, Tryz.underlying49, by kernel_rfl⟩
theorem qV : Struct Tryz.prog 51 [(I6 0), (I6 0)] [(0, 1), (1, 1)] := ⟨by kernel_rfl, _, Tryz.underlying51, by kernel_rfl⟩
theorem Z5 : Struct Tryz.prog 57 [(I6 0), (I6 0), (.slice none 0 0)] [(0, 1), (1, 1), (2, 1)] := ⟨by kernel_rfl, _, Tryz.underlying57, by kernel_rfl⟩
theorem qW : Struct Tryz.prog 93 [(I6 0), (I6 0), (I6 0), (I6 0), (.slice none 0 0)] [(0, 1), (1, 1), (2, 1), (3, 1), (4, 1)] := ⟨by kernel_rfl, _, Tryz.underlying93, by kernel_rfl⟩
theorem mixed : Tryz.prog.follows .mixedOrders = true := by kernel_rfl
theorem Lt (w0 : World) (M : BS) (hM : ∀ b, M b → b < w0.heap.size) (hT : zo Tryz.prog 4 w0) (a : Str) (b : Str) (r : List Str) (hs : P7 a b = some r) :
    Calls Tryz.prog 101 #[aV a, aV b] w0 (fun e w' => Grow w0 w' ∧ ∃ u, e = .returned u ∧ iL sO w' M u r) :=
  split_w Tryz.strings_Split hM hT hs
theorem uT (w0 : World) (M : BS) (hM : ∀ b, M b → b < w0.heap.size) (hT : zo Tryz.prog 4 w0) (a : Str) (r : Int × Bool) (hs : EY a = some r) :
    Calls Tryz.prog 102 #[aV a] w0 (fun e w' => Grow w0 w' ∧ ∃ u, e = .returned (.tuple #[.int .i64 r.1, u]) ∧ Rn u r.2) :=
  atoi_w Tryz.strconv_Atoi_ok Tryz.strconv_Atoi_syntax_var Tryz.strconv_Atoi_range_var hT hs
def aO (a : Int) (b : Int) (c : Int) : Bool :=
  (decide ((b : Int) ≤ a) && decide ((a : Int) ≤ c))
theorem eH (w0 : World) (M : BS) (hM : ∀ b, M b → b < w0.heap.size) (a : Int) (b : Int) (c : Int) (r : Bool) (hs : aO a b c = r) :
    Calls Tryz.prog 51 #[(I6 a), (I6 b), (I6 c)] w0 (fun e w' => Grow w0 w' ∧ e = .returned (.bool r)) := by
 refine aQ (args := [(I6 a), (I6 b), (I6 c)]) Tryz.func51 rfl Tryz.ntmps51 (bD rfl) ?_
 have h := SH.init hM
 refine nG (aa (ae (v := (.bool (false))) rfl) (nJ (aa (ah (v := (I6 b)) rfl) (aa (ah (v := (I6 a)) rfl) (aa (II rfl rfl) (aa (ah (v := (.bool (decide ((b : Int) ≤ a)))) rfl) (aF rfl rfl (fun q => ah (v := (I6 a)) rfl) (aF rfl rfl (fun q => ah (v := (I6 c)) rfl) (aF rfl rfl (fun q => II (eu q) (eu q)) (aa (fZ rfl rfl mY) (aa (ae (v := (.bool ((decide ((b : Int) ≤ a) && decide ((a : Int) ≤ c))))) rfl) (nR (bR (v := (.bool ((decide ((b : Int) ≤ a) && decide ((a : Int) ≤ c))))) Tryz.results51 rfl ?_)))))))))))))
 obtain rfl := hs
 exact ⟨h.grown, rfl⟩
def tF (WZ : Int → Option (Int × Bool)) (x40 : Int) : Option (Int × Bool) :=
  WZ x40
def tH (F0 : List cO → Int → Option (Int × Bool)) (b : Int) (CF : List cO) (x32 : Int) (WZ : Int → Option (Int × Bool)) : Option (Int × Bool) :=
  bif decide ((0 : Int) < (CF.length : Int)) then iK (kJ (b - 1)) ((F0 CF (b - 1)).bind fun wo => iK (kJ (x32 + wo.1)) (bif ((!wo.2) || decide ((30 : Int) < (x32 + wo.1))) then some (0, false) else tF WZ (x32 + wo.1))) else tF WZ x32
def tJ (Qv : Int → Option (Int × Bool)) (x32 : Int) : Option (Int × Bool) :=
  bif decide ((30 : Int) < x32) then some (0, false) else Qv x32
def tK (F0 : List cO → Int → Option (Int × Bool)) (b : Int) (a : List cO) (x8 : cO) (x5 : Int) (Qv : Int → Option (Int × Bool)) : Option (Int × Bool) :=
  iK (kJ (x5 + 1)) (each (tH F0 b) (tJ Qv) [x8.a, x8.b] (x5 + 1))
def tL (x5 : Int) : Option (Int × Bool) :=
  some (x5, true)
def Ak (F0 : List cO → Int → Option (Int × Bool)) (a : List cO) (b : Int) : Option (Int × Bool) :=
  bif decide ((b : Int) < 1) then some (0, false) else each (tK F0 b a) tL a 0
def qX : Nat → List cO → Int → Option (Int × Bool)
  | 0 => fun _ _ => none
  | N + 1 => Ak (qX N)
theorem GA : ∀ (N : Nat) (w0 : World) (M : BS) (hM : ∀ b, M b → b < w0.heap.size) (va : Value) (a : List cO) (ha : gB ik w0 BE M va a) (b : Int) (r : Int × Bool) (hs : qX N a b = some r),
    Calls Tryz.prog 128 #[va, (I6 b)] w0 (fun e w' => Grow w0 w' ∧ e = .returned (.tuple #[.int .i64 r.1, .bool r.2])) := by
 intro N
 induction N with
 | zero => intro w0 M hM va a ha b r hs; cases hs
 | succ N ih =>
 intro w0 M hM va a ha b r hs
 replace hs : Ak (qX N) a b = some r := hs
 generalize qX N = F0 at hs ih
 refine aQ (args := [va, (I6 b)]) Tryz.func128 rfl Tryz.ntmps128 (bD rfl) ?_
 have h := SH.init hM
 replace h := h.fE 1 ha bA
 have uU := ha.bT
 refine nG (aa (ae (v := (I6 0)) rfl) (aa (ae (v := (.bool (false))) rfl) (nK (aa (ah (v := (I6 b)) rfl) (aa (eO rfl rfl) (nN (aI hs rfl (fun c1 hs => ?_) (fun c1 hs => ?_))))))))
 refine nG (aa (ae (v := (I6 0)) rfl) (aa (ae (v := (.bool (false))) rfl) (nR (ay (JC (v1 := (I6 0)) (v2 := (.bool (false))) Tryz.results128 rfl rfl ?_)))))
 obtain rfl := fM hs
 exact ⟨h.grown, rfl⟩
 refine nS (aa (ae (v := (I6 0)) rfl) (nK (aa (ah (v := va) rfl) (aa (bM oZ rfl (h.gV 1 rfl)) (aa (ah (v := (I6 0)) rfl) (nN (aN (gD (σ := Nat × Int × Int) (inl ([4, 5, 6, 8, 10, 11, 12] ++ rg 17 39)) (fun ⟨k6, i7, x5⟩ => [(6, (I6 x5)), (17, (I6 i7))]) (fun ⟨k6, i7, x5⟩ w => SH w0 M BE w (hset [(1, .sr ik va a)]) ∧ i7 = (k6 : Int) ∧ each (tK F0 b a) tL (a.drop k6) x5 = some r) (fun ⟨k6, i7, x5⟩ => a.length - k6) ⟨0, 0, 0⟩ ⟨rfl, rfl, trivial⟩ ?_ ?_))))))))
 exact ⟨h.cn _, rfl, hs⟩
 rintro ⟨k6, i7, x5⟩ w dR ⟨h, hik, hs⟩
 refine nG ?_
 refine aa (eO rfl rfl) (nN ?_)
 refine aM (gQ rfl (fun e11 => ?_) (fun e11 => ?_))
 refine aH (ak ?_)
 obtain ⟨x8, e12a, e12b⟩ := fG (hik ▸ e11)
 rw [e12b, dU] at hs
 generalize Z6 : each (tK F0 b a) tL (a.drop (k6 + 1)) = Qv at hs
 have e12r := fJ ((h.gV 1 rfl)).bT hik e11
 refine aM (aN (nG ?_))
 obtain ⟨b14, o15, cs16, h, r17, i13⟩ := h.xI 1 2 rfl oZ rfl (ig hik) (fI hik e12a)
 obtain ⟨Y0, u20, u22, u24, rfl, g19, g21, g23, g25⟩ := D5 r17
 replace h := h.dh 3 g19.up
 replace h := h.dh 4 g21.up.up
 replace h := h.dh 5 g23.up.up.up
 replace h := h.dh 6 g25.up.up.up.up
 refine aa (i13 _ _ _ _ _ _ _ _ _ rfl rfl) (aa (jc (k := 0) (vs := [(I6 x8.kind), (I6 x8.n), Y0, u20, u22, u24]) h 2 rfl tu rfl rfl rfl (bD rfl)) (bI h 7 tu fun w b26 h => dK (vs := [(I6 x8.kind), (I6 x8.n), Y0, u20, u22, u24]) h 7 [(I6 x8.kind), (I6 x8.n), Y0, u20, u22, u24] rfl tu rfl rfl rfl rfl rfl (ai rfl (ai rfl (ai (h.iN 3 rfl).one (ai (h.iN 4 rfl).one (ai (h.iN 5 rfl).one (ai (h.iN 6 rfl).one aS)))))) fun w h => nJ (aa (ah (v := (I6 x5)) rfl) ?_)))
 obtain ⟨a27, hs⟩ := bG hs
 refine aa (dQ rfl rfl a27) (aa (ae (v := (I6 ((x5 + 1)))) rfl) (nK (aa (ag CW rfl) (aa (az h 7 rfl uz rfl rfl) (aa (ag CX rfl) (aa (az h 7 rfl uz rfl rfl) (sV (R := (l9 ik)) (vs := [u22, u24]) (xs := [x8.a, x8.b]) h 8 WU rfl rfl rfl ⟨(h.iN 5 rfl).rdc, ⟨(h.iN 6 rfl).rdc, trivial⟩⟩ rfl fun w u28 h => aa (bM MK rfl (h.eT 8 rfl)) (aa (ah (v := (I6 0)) rfl) (nN (aN ?_))))))))))
 replace h := h.freeze 8 rfl
 refine gD (σ := Nat × Int × Int) (inl ([4, 5, 6, 10, 11, 12] ++ rg 29 24)) (fun ⟨Y1, i34, x32⟩ => [(6, (I6 x32)), (29, (I6 i34))]) (fun ⟨Y1, i34, x32⟩ w => SH w0 M BE w (hset [(1, .sr ik va a), (8, .rd (l9 ik) u28 [x8.a, x8.b])]) ∧ i34 = (Y1 : Int) ∧ each (tH F0 b) (tJ Qv) ([x8.a, x8.b].drop Y1) x32 = some r) (fun ⟨Y1, i34, x32⟩ => [x8.a, x8.b].length - Y1) ⟨0, 0, (x5 + 1)⟩ ⟨rfl, rfl, trivial⟩ ?_ ?_
 exact ⟨h.cn _, rfl, hs⟩
 rintro ⟨Y1, i34, x32⟩ w dR ⟨h, hik, hs⟩
 refine nG ?_
 refine aa (eO rfl rfl) (nN ?_)
 refine aM (gQ rfl (fun e38 => ?_) (fun e38 => ?_))
 refine aH (ak ?_)
 obtain ⟨CF, e39a, e39b⟩ := fG (hik ▸ e38)
 rw [e39b, dU] at hs
 generalize hnx37 : each (tH F0 b) (tJ Qv) ([x8.a, x8.b].drop (Y1 + 1)) = WZ at hs
 have e39r := fJ ((h.kL 8 rfl)).bT hik e38
 refine cu (σ := Int) (inl ([4, 5, 6, 10, 11, 12] ++ rg 31 21)) (fun x40 => [(6, (I6 x40))]) (fun x40 w => SH w0 M BE w (hset [(1, .sr ik va a), (8, .rd (l9 ik) u28 [x8.a, x8.b])]) ∧ tF WZ x40 = some r) ?_ ?_
 rintro x40 w dR ⟨h, hs⟩
 refine aD (aa (dQ rfl rfl e39r) (aa (ah (v := (I6 ((i34 + 1)))) rfl) (aA (au ?_))))
 subst hnx37
 exact jM ⟨Y1 + 1, i34 + 1, x40⟩ ⟨h.cn _, by omega, hs⟩ (by have := oD e38; dsimp only; omega)
 refine aN (nG ?_)
 obtain ⟨b42, o43, cs44, h, r45, i41⟩ := h.Cn 8 9 rfl MK rfl (ig hik) (fI hik e39a)
 obtain ⟨u46, rfl, g47⟩ := r45
 replace h := h.dh 10 g47.up
 refine aa (i41 _ _ _ _ _ _ _ _ _ rfl rfl) (aa (fo (k := 0) h 9 rfl uz rfl rfl) (aa (ae (v := u46) rfl) (nJ (aa (ah (v := u46) rfl) (aa (bM oZ rfl (h.kL 10 rfl)) (aa (mV rfl rfl) (nN (aI hs rfl (fun c48 hs => ?_) (fun c48 hs => ?_)))))))))
 refine nG (aa (ah (v := u46) rfl) (aa (ah (v := (I6 b)) rfl) ?_))
 obtain ⟨a49, hs⟩ := bG hs
 refine aa (oh rfl rfl a49) ?_
 obtain ⟨wo, e51, hs⟩ := aL hs
 refine aW VX rfl rfl (ih _ _ h.lt u46 CF (h.kL 10 rfl) (b - 1) _ e51) ?_
 rintro _ w ⟨k52, rfl⟩
 refine ⟨_, rfl, ?_⟩
 replace h := h.grow k52
 refine aa (ah (v := (.tuple #[(I6 wo.1), (.bool (wo.2))])) rfl) (aa (bg rfl rfl) (aa (bg rfl rfl) (aa (ae (v := (I6 wo.1)) rfl) (aa (ae (v := (.bool (wo.2))) rfl) (nJ (aa (ah (v := (I6 x32)) rfl) (aa (ah (v := (I6 wo.1)) rfl) ?_)))))))
 obtain ⟨a53, hs⟩ := bG hs
 refine aa (dQ rfl rfl a53) (aa (ae (v := (I6 ((x32 + wo.1)))) rfl) (nJ (aa (ah (v := (.bool (wo.2))) rfl) (aa (fw rfl) (aa (ah (v := (.bool ((!wo.2)))) rfl) (aF rfl rfl (fun q => ah (v := (I6 ((x32 + wo.1)))) rfl) (aF rfl rfl (fun q => mV (eu q) rfl) (aa (jD rfl rfl mY) (nN (aI hs rfl (fun c54 hs => ?_) (fun c54 hs => ?_)))))))))))
 refine nG (aa (ae (v := (I6 0)) rfl) (aa (ae (v := (.bool (false))) rfl) (nR (aB (ay (ay (aB (ay (aB (ay (ay (aB (ay (JC (v1 := (I6 0)) (v2 := (.bool (false))) Tryz.results128 rfl rfl ?_))))))))))))))
 obtain rfl := fM hs
 exact ⟨h.grown, rfl⟩
 refine aH (ax (au ?_))
 exact bS (x32 + wo.1) ⟨h.cn _, hs⟩
 refine aH (ax (au ?_))
 exact bS x32 ⟨h.cn _, hs⟩
 rw [fH (hik ▸ e38), fO] at hs
 refine nE (aa (ah (v := (I6 x32)) rfl) (aa (mV rfl rfl) (nN (aI hs rfl (fun c55 hs => ?_) (fun c55 hs => ?_)))))
 refine nG (aa (ae (v := (I6 0)) rfl) (aa (ae (v := (.bool (false))) rfl) (nR (aB (ay (ay (aB (ay (JC (v1 := (I6 0)) (v2 := (.bool (false))) Tryz.results128 rfl rfl ?_)))))))))
 obtain rfl := fM hs
 exact ⟨h.grown, rfl⟩
 refine aH (ax (ak (aD (aa (dQ rfl rfl e12r) (aa (ah (v := (I6 ((i7 + 1)))) rfl) (aA (au ?_)))))))
 subst Z6
 exact jM ⟨k6 + 1, i7 + 1, x32⟩ ⟨h.cn _, by omega, hs⟩ (by have := oD e11; dsimp only; omega)
 rw [fH (hik ▸ e11), fO] at hs
 refine nE (aa (ah (v := (I6 x5)) rfl) (aa (ae (v := (I6 x5)) rfl) (aa (ae (v := (.bool (true))) rfl) (nR (JC (v1 := (I6 x5)) (v2 := (.bool (true))) Tryz.results128 rfl rfl ?_)))))
 obtain rfl := fM hs
 exact ⟨h.grown, rfl⟩
theorem mP (w0 : World) (M : BS) (hM : ∀ b, M b → b < w0.heap.size) (a : Str) (b : UInt8) (r : Bool) (hs : hasB a b = r) :
    Calls Tryz.prog 145 #[(aV a), (aV [b])] w0 (fun e w' => Grow w0 w' ∧ e = .returned (.bool r)) := by
  refine (Tryz.strings_Contains_one ⟨a.toArray⟩ b w0).mono ?_
  rintro e w' ⟨rfl, rfl⟩
  subst hs
  exact ⟨aP.refl _ _, by simp [hasB]⟩
def aJ (a : Int) (b : Int) : Bool :=
  (decide ((0 : Int) ≤ a) && decide ((a : Int) < b))
theorem gX (w0 : World) (M : BS) (hM : ∀ b, M b → b < w0.heap.size) (a : Int) (b : Int) (r : Bool) (hs : aJ a b = r) :
    Calls Tryz.prog 55 #[(I6 a), (I6 b)] w0 (fun e w' => Grow w0 w' ∧ e = .returned (.bool r)) := by
 refine aQ (args := [(I6 a), (I6 b)]) Tryz.func55 rfl Tryz.ntmps55 (bD rfl) ?_
 have h := SH.init hM
 refine nG (aa (ae (v := (.bool (false))) rfl) (nJ (aa (ah (v := (I6 a)) rfl) (aa (rH rfl rfl) (aa (ah (v := (.bool (decide ((0 : Int) ≤ a)))) rfl) (aF rfl rfl (fun q => ah (v := (I6 a)) rfl) (aF rfl rfl (fun q => ah (v := (I6 b)) rfl) (aF rfl rfl (fun q => eO (eu q) (eu q)) (aa (fZ rfl rfl mY) (aa (ae (v := (.bool ((decide ((0 : Int) ≤ a) && decide ((a : Int) < b))))) rfl) (nR (bR (v := (.bool ((decide ((0 : Int) ≤ a) && decide ((a : Int) < b))))) Tryz.results55 rfl ?_))))))))))))
 obtain rfl := hs
 exact ⟨h.grown, rfl⟩
def dW (a : Int) : Bool :=
  (aO a (-1000000000) 1000000000)
theorem o7 (w0 : World) (M : BS) (hM : ∀ b, M b → b < w0.heap.size) (a : Int) (r : Bool) (hs : dW a = r) :
    Calls Tryz.prog 53 #[(I6 a)] w0 (fun e w' => Grow w0 w' ∧ e = .returned (.bool r)) := by
 refine aQ (args := [(I6 a)]) Tryz.func53 rfl Tryz.ntmps53 (bD rfl) ?_
 have h := SH.init hM
 refine nG (aa (ae (v := (.bool (false))) rfl) (nJ (aa (ah (v := (I6 a)) rfl) (aW rZ rfl rfl (eH _ _ h.lt a (-1000000000) 1000000000 _ rfl) ?_))))
 rintro _ w ⟨k1, rfl⟩
 refine ⟨_, rfl, ?_⟩
 replace h := h.grow k1
 refine aa (ae (v := (.bool ((aO a (-1000000000) 1000000000)))) rfl) (nR (bR (v := (.bool ((aO a (-1000000000) 1000000000)))) Tryz.results53 rfl ?_))
 obtain rfl := hs
 exact ⟨h.grown, rfl⟩
def jd (x2 : Bool) : Int :=
  bif (!x2) then 3 else 0
def ic (a : Tok) (b : List iO) (c : Int) : Int :=
  bif decide ((a.kind : Int) = 1) then jd (dW a.n) else bif decide ((a.kind : Int) = 2) then jd (aJ a.n c) else bif decide ((a.kind : Int) = 3) then jd (aO a.n 1 5) else bif decide ((a.kind : Int) = 4) then jd (aO a.n 0 3) else bif decide ((a.kind : Int) = 5) then jd (aO a.n 1 4) else bif decide ((a.kind : Int) = 6) then bif (!(aJ a.n (b.length : Int))) then 5 else jd true else 4
theorem xO (w0 : World) (M : BS) (hM : ∀ b, M b → b < w0.heap.size) (a : Tok) (vb : Value) (b : List iO) (hb : gB kY w0 BE M vb b) (c : Int) (r : Int) (hs : ic a b c = r) :
    Calls Tryz.prog 107 #[(.agg #[(I6 a.kind), (I6 a.n)]), vb, (I6 c)] w0 (fun e w' => Grow w0 w' ∧ e = .returned (.int .i64 r)) := by
 refine aQ (args := [(.agg #[(I6 a.kind), (I6 a.n)]), vb, (I6 c)]) Tryz.func107 rfl Tryz.ntmps107 (bD rfl) ?_
 have h := SH.init hM
 replace h := h.fE 1 hb bA
 have ML := hb.bT
 refine nG (kM (cs := [(I6 a.kind), (I6 a.n)]) h 2 rfl rfl fun w b1 h => aa (ae (v := (I6 0)) rfl) (nJ (aa (ae (v := (.bool (false))) rfl) (nN (cu (σ := Bool) (inl (rg 6 38)) (fun x2 => [(7, (.bool (x2)))]) (fun x2 w => SH w0 M BE w (hset []) ∧ jd x2 = r) ?_ ?_)))))
 rintro x2 w dR ⟨h, hs⟩
 refine aM (nG (aa (ah (v := (.bool (x2))) rfl) (aa (fw rfl) (nN (aI hs rfl (fun c3 hs => ?_) (fun c3 hs => ?_))))))
 refine nG (aa (ae (v := (I6 3)) rfl) (nR (ay (bR (v := (I6 3)) Tryz.results107 rfl ?_))))
 obtain rfl := hs
 exact ⟨h.grown, rfl⟩
 refine nS (aa (ae (v := (I6 0)) rfl) (nR (bR (v := (I6 0)) Tryz.results107 rfl ?_)))
 obtain rfl := hs
 exact ⟨h.grown, rfl⟩
 refine nG (aa (ag IZ rfl) (aa (az h 2 rfl aR rfl rfl) (nN (aN (nG (aa (bu rfl rfl) (aa (ae (v := (.bool (decide ((a.kind : Int) = 1)))) rfl) (nN (aI hs rfl (fun c4 hs => ?_) (fun c4 hs => ?_))))))))))
 refine aD (aa (ag rY rfl) (aa (az h 2 rfl aR rfl rfl) (aW MI rfl rfl (o7 _ _ h.lt a.n _ rfl) ?_)))
 rintro _ w ⟨k5, rfl⟩
 refine ⟨_, rfl, ?_⟩
 replace h := h.grow k5
 refine aa (ae (v := (.bool ((dW a.n)))) rfl) (aA (ax (au ?_)))
 exact bS (dW a.n) ⟨h.cn _, hs⟩
 refine nG (aa (bu rfl rfl) (aa (ae (v := (.bool (decide ((a.kind : Int) = 2)))) rfl) (nN (aI hs rfl (fun c6 hs => ?_) (fun c6 hs => ?_)))))
 refine aD (aa (ag rY rfl) (aa (az h 2 rfl aR rfl rfl) (aa (ah (v := (I6 c)) rfl) (aW Bd rfl rfl (gX _ _ h.lt a.n c _ rfl) ?_))))
 rintro _ w ⟨k7, rfl⟩
 refine ⟨_, rfl, ?_⟩
 replace h := h.grow k7
 refine aa (ae (v := (.bool ((aJ a.n c)))) rfl) (aA (ax (au ?_)))
 exact bS (aJ a.n c) ⟨h.cn _, hs⟩
 refine nG (aa (bu rfl rfl) (aa (ae (v := (.bool (decide ((a.kind : Int) = 3)))) rfl) (nN (aI hs rfl (fun c8 hs => ?_) (fun c8 hs => ?_)))))
 refine aD (aa (ag rY rfl) (aa (az h 2 rfl aR rfl rfl) (aW rZ rfl rfl (eH _ _ h.lt a.n 1 5 _ rfl) ?_)))
 rintro _ w ⟨k9, rfl⟩
 refine ⟨_, rfl, ?_⟩
 replace h := h.grow k9
 refine aa (ae (v := (.bool ((aO a.n 1 5)))) rfl) (aA (ax (au ?_)))
 exact bS (aO a.n 1 5) ⟨h.cn _, hs⟩
 refine nG (aa (bu rfl rfl) (aa (ae (v := (.bool (decide ((a.kind : Int) = 4)))) rfl) (nN (aI hs rfl (fun c10 hs => ?_) (fun c10 hs => ?_)))))
 refine aD (aa (ag rY rfl) (aa (az h 2 rfl aR rfl rfl) (aW rZ rfl rfl (eH _ _ h.lt a.n 0 3 _ rfl) ?_)))
 rintro _ w ⟨k11, rfl⟩
 refine ⟨_, rfl, ?_⟩
 replace h := h.grow k11
 refine aa (ae (v := (.bool ((aO a.n 0 3)))) rfl) (aA (ax (au ?_)))
 exact bS (aO a.n 0 3) ⟨h.cn _, hs⟩
 refine nG (aa (bu rfl rfl) (aa (ae (v := (.bool (decide ((a.kind : Int) = 5)))) rfl) (nN (aI hs rfl (fun c12 hs => ?_) (fun c12 hs => ?_)))))
 refine aD (aa (ag rY rfl) (aa (az h 2 rfl aR rfl rfl) (aW rZ rfl rfl (eH _ _ h.lt a.n 1 4 _ rfl) ?_)))
 rintro _ w ⟨k13, rfl⟩
 refine ⟨_, rfl, ?_⟩
 replace h := h.grow k13
 refine aa (ae (v := (.bool ((aO a.n 1 4)))) rfl) (aA (ax (au ?_)))
 exact bS (aO a.n 1 4) ⟨h.cn _, hs⟩
 refine nG (aa (bu rfl rfl) (aa (ae (v := (.bool (decide ((a.kind : Int) = 6)))) rfl) (nN (aI hs rfl (fun c14 hs => ?_) (fun c14 hs => ?_)))))
 refine aM (nG (aa (ag rY rfl) (aa (az h 2 rfl aR rfl rfl) (aa (ah (v := vb) rfl) (aa (bM kE rfl (h.gV 1 rfl)) (aW Bd rfl rfl (gX _ _ h.lt a.n (b.length : Int) _ rfl) ?_))))))
 rintro _ w ⟨k15, rfl⟩
 refine ⟨_, rfl, ?_⟩
 replace h := h.grow k15
 refine aa (fw rfl) (nN (aI hs rfl (fun c16 hs => ?_) (fun c16 hs => ?_)))
 refine nG (aa (ae (v := (I6 5)) rfl) (nR (ay (aB (ay (bR (v := (I6 5)) Tryz.results107 rfl ?_))))))
 obtain rfl := hs
 exact ⟨h.grown, rfl⟩
 refine aH (ak (aD (aa (ae (v := (.bool (true))) rfl) (aA (ax (au ?_))))))
 exact bS true ⟨h.cn _, hs⟩
 refine nG (aa (ae (v := (I6 4)) rfl) (nR (aB (ay (bR (v := (I6 4)) Tryz.results107 rfl ?_)))))
 obtain rfl := hs
 exact ⟨h.grown, rfl⟩
def vL (a : Tok) (b : List iO) : Option Int :=
  bif decide ((a.kind : Int) = 3) then some 2 else bif decide ((a.kind : Int) = 4) then some 1 else bif decide ((a.kind : Int) = 6) then (idx b a.n).bind fun x5 => some x5.params else some 0
theorem wO (w0 : World) (M : BS) (hM : ∀ b, M b → b < w0.heap.size) (a : Tok) (vb : Value) (b : List iO) (hb : gB kY w0 BE M vb b) (r : Int) (hs : vL a b = some r) :
    Calls Tryz.prog 108 #[(.agg #[(I6 a.kind), (I6 a.n)]), vb] w0 (fun e w' => Grow w0 w' ∧ e = .returned (.int .i64 r)) := by
 refine aQ (args := [(.agg #[(I6 a.kind), (I6 a.n)]), vb]) Tryz.func108 rfl Tryz.ntmps108 (bD rfl) ?_
 have h := SH.init hM
 replace h := h.fE 1 hb bA
 have ML := hb.bT
 refine nG (kM (cs := [(I6 a.kind), (I6 a.n)]) h 2 rfl rfl fun w b1 h => aa (ae (v := (I6 0)) rfl) (nK (aa (ag IZ rfl) (aa (az h 2 rfl aR rfl rfl) (nN (aN (nG (aa (bu rfl rfl) (aa (ae (v := (.bool (decide ((a.kind : Int) = 3)))) rfl) (nN (aI hs rfl (fun c2 hs => ?_) (fun c2 hs => ?_))))))))))))
 refine nG (aa (ae (v := (I6 2)) rfl) (nR (aB (ay (bR (v := (I6 2)) Tryz.results108 rfl ?_)))))
 obtain rfl := fM hs
 exact ⟨h.grown, rfl⟩
 refine nG (aa (bu rfl rfl) (aa (ae (v := (.bool (decide ((a.kind : Int) = 4)))) rfl) (nN (aI hs rfl (fun c3 hs => ?_) (fun c3 hs => ?_)))))
 refine nG (aa (ae (v := (I6 1)) rfl) (nR (aB (ay (bR (v := (I6 1)) Tryz.results108 rfl ?_)))))
 obtain rfl := fM hs
 exact ⟨h.grown, rfl⟩
 refine nG (aa (bu rfl rfl) (aa (ae (v := (.bool (decide ((a.kind : Int) = 6)))) rfl) (nN (aI hs rfl (fun c4 hs => ?_) (fun c4 hs => ?_)))))
 refine nG (aa (ah (v := vb) rfl) (aa (ag rY rfl) (aa (az h 2 rfl aR rfl rfl) ?_)))
 obtain ⟨x5, e6, hs⟩ := aL hs
 obtain ⟨b8, o9, cs10, h, r11, i7⟩ := h.xI 1 3 rfl kE rfl (aC e6).1 (aC e6).2
 obtain ⟨u12, rfl, g13⟩ := w9 r11
 replace h := h.dh 4 g13.up
 refine aa (i7 _ _ _ _ _ _ _ _ _ rfl rfl) (aa (ag zq rfl) (aa (fo (k := 0) h 3 rfl aR rfl rfl) (aa (ae (v := (I6 x5.params)) rfl) (nR (aB (ay (bR (v := (I6 x5.params)) Tryz.results108 rfl ?_)))))))
 obtain rfl := fM hs
 exact ⟨h.grown, rfl⟩
 refine aH (ax (ak (nG (aa (ae (v := (I6 0)) rfl) (nR (bR (v := (I6 0)) Tryz.results108 rfl ?_))))))
 obtain rfl := fM hs
 exact ⟨h.grown, rfl⟩
def xP (a : List Int) (s : Int × Int) (Z7 : Int × Int → Option Int) : Option Int :=
  match s with | (xQ, rR) => bif decide ((rR : Int) < (a.length : Int)) then (idx a rR).bind fun x25 => iK (kJ (rR + 1)) (Z7 ((max xQ x25), (rR + 1))) else some xQ
def slices_Max_int (N : Nat) (a : List Int) : Option Int :=
  bif decide (((a.length : Int) : Int) < 1) then none else (idx a 0).bind fun x2 => again (xP a) N (x2, 1)
theorem JN (N : Nat) (w0 : World) (M : BS) (hM : ∀ b, M b → b < w0.heap.size) (va : Value) (a : List Int) (ha : gB eY w0 BE M va a) (r : Int) (hs : slices_Max_int N a = some r) :
    Calls Tryz.prog 164 #[va] w0 (fun e w' => Grow w0 w' ∧ e = .returned (.int .i64 r)) := by
 refine aQ (args := [va]) Tryz.func164 rfl Tryz.ntmps164 (bD rfl) ?_
 have h := SH.init hM
 replace h := h.fE 1 ha bA
 have uU := ha.bT
 refine nG (aa (ae (v := (I6 0)) rfl) (nK (aa (ah (v := va) rfl) (aa (bM bZ rfl (h.gV 1 rfl)) (aa (eO rfl rfl) (nN (aI hs rfl (fun c1 hs => ?_) (fun c1 hs => ?_))))))))
 cases hs
 refine nS (aa (ah (v := va) rfl) ?_)
 obtain ⟨x2, e3, hs⟩ := aL hs
 obtain ⟨b5, o6, cs7, h, r8, i4⟩ := h.xI 1 2 rfl bZ rfl (aC e3).1 (aC e3).2
 obtain rfl := r8
 refine aa (i4 _ _ _ _ _ _ _ _ _ rfl rfl) (aa (fo (k := 0) h 2 rfl aR rfl rfl) (aa (ae (v := (I6 x2)) rfl) (nK (aa (ae (v := (I6 1)) rfl) (nN (aN (gD (σ := Nat × Int × Int) (inl ([3, 4] ++ rg 12 12)) (fun ⟨m20, xQ, rR⟩ => [(3, (I6 xQ)), (4, (I6 rR))]) (fun ⟨m20, xQ, rR⟩ w => SH w0 M BE w (hset [(1, .sr eY va a)]) ∧ again (xP a) m20 (xQ, rR) = some r) (fun ⟨m20, xQ, rR⟩ => m20) ⟨N, x2, 1⟩ ⟨rfl, rfl, trivial⟩ ?_ ?_)))))))
 exact ⟨h.cn _, hs⟩
 rintro ⟨m20, xQ, rR⟩ w dR ⟨h, hs⟩
 obtain ⟨m201, m20e, m20h⟩ := uq hs
 subst m20e
 replace hs := m20h
 generalize Z8 : again (xP a) m201 = Z7 at hs
 refine aM (nG (aa (ah (v := (I6 rR)) rfl) (aa (ah (v := va) rfl) (aa (bM bZ rfl (h.gV 1 rfl)) (aa (eO rfl rfl) (nN (aI hs rfl (fun c24 hs => ?_) (fun c24 hs => ?_))))))))
 refine aH (ak (aM (aN (aD (aa (ah (v := (I6 xQ)) rfl) (aa (ah (v := va) rfl) (aa (ah (v := (I6 rR)) rfl) ?_)))))))
 obtain ⟨x25, e26, hs⟩ := aL hs
 obtain ⟨b28, o29, cs30, h, r31, i27⟩ := h.xI 1 3 rfl bZ rfl (aC e26).1 (aC e26).2
 obtain rfl := r31
 refine aa (i27 _ _ _ _ _ _ _ _ _ rfl rfl) (aa (fo (k := 0) h 3 rfl aR rfl rfl) (aa (r_max rfl rfl) (aa (ae (v := (I6 ((max xQ x25)))) rfl) (aA (ax (ak (aD (aa (ah (v := (I6 rR)) rfl) ?_))))))))
 obtain ⟨a32, hs⟩ := bG hs
 refine aa (dQ rfl rfl a32) (aa (ae (v := (I6 ((rR + 1)))) rfl) (aA (au ?_)))
 subst Z8
 exact jM ⟨m201, (max xQ x25), (rR + 1)⟩ ⟨h.cn _, hs⟩
 refine nE (aa (ah (v := (I6 xQ)) rfl) (aa (ae (v := (I6 xQ)) rfl) (nR (bR (v := (I6 xQ)) Tryz.results164 rfl ?_))))
 obtain rfl := fM hs
 exact ⟨h.grown, rfl⟩
def o8 (x29 : Tok) (b : List iO) (zW : List Int → Option Int) (x66 : List Int) : Option Int :=
  (vL x29 b).bind fun wu => iK (Room 8 x66 [wu]) (zW (x66 ++ [wu]))
def pg (zX : List Int) (MM : List Int → Option Int) (i28 : Int) (x29 : Tok) (b : List iO) (zW : List Int → Option Int) (x57 : Bool) : Option Int :=
  bif x57 then iK (kJ ((zX.length : Int) - 1)) ((sub? zX 0 ((zX.length : Int) - 1)).bind fun x60 => MM (zX.take (((zX.length : Int) - 1)).toNat)) else bif (decide ((0 : Int) < i28) && decide (((zX.length : Int) : Int) = 0)) then some 4 else bif decide ((0 : Int) < i28) then iK (kJ ((zX.length : Int) - 1)) ((idx zX ((zX.length : Int) - 1)).bind fun x75 => iK (kJ (x75 - 1)) (o8 x29 b zW (zX.set (((zX.length : Int) - 1)).toNat (x75 - 1)))) else o8 x29 b zW zX
def pq (i28 : Int) (x29 : Tok) (b : List iO) (zW : List Int → Option Int) (zX : List Int) (MM : List Int → Option Int) : Option Int :=
  bif decide ((0 : Int) < (zX.length : Int)) then iK (kJ ((zX.length : Int) - 1)) ((idx zX ((zX.length : Int) - 1)).bind fun x89 => pg zX MM i28 x29 b zW (decide ((x89 : Int) = 0))) else pg zX MM i28 x29 b zW false
def pE (K8 : Bool) : Option Int :=
  bif K8 then some 4 else some 0
def pF (N : Nat) (b : List iO) (c : Int) (i28 : Int) (x29 : Tok) (Ec : List Int) (zW : List Int → Option Int) : Option Int :=
  bif decide (((ic x29 b c) : Int) ≠ 0) then some (ic x29 b c) else again (pq i28 x29 b zW) N Ec
def pG (N : Nat) (a : List Tok) (Ec : List Int) : Option Int :=
  bif decide (((a.length : Int) : Int) = 0) then pE true else iK (Room 8 [0] Ec) ((slices_Max_int N ([0] ++ Ec)).bind fun wP => pE (decide ((0 : Int) < wP)))
def pI (x4 : iO) (s : Unit) (G5 : Unit → Option Int) : Option Int :=
  bif (!(aO x4.params 0 3)) then some 3 else G5 ()
def pJ (N : Nat) (b : List iO) (c : Int) (a : List Tok) (s : Unit) : Option Int :=
  dZ (pF N b c) (pG N a) 0 a []
def uA (N : Nat) (a : List Tok) (b : List iO) (c : Int) : Option Int :=
  bif decide ((24 : Int) < (a.length : Int)) then some 2 else each pI (pJ N b c a) b ()
theorem xk (N : Nat) (w0 : World) (M : BS) (hM : ∀ b, M b → b < w0.heap.size) (va : Value) (a : List Tok) (ha : gB oz w0 BE M va a) (vb : Value) (b : List iO) (hb : gB kY w0 BE M vb b) (c : Int) (r : Int) (hs : uA N a b c = some r) :
    Calls Tryz.prog 146 #[va, vb, (I6 c)] w0 (fun e w' => Grow w0 w' ∧ e = .returned (.int .i64 r)) := by
 refine aQ (args := [va, vb, (I6 c)]) Tryz.func146 rfl Tryz.ntmps146 (bD rfl) ?_
 have h := SH.init hM
 replace h := h.fE 1 ha bA
 replace h := h.fE 2 hb (bN bA)
 have uU := ha.bT
 have ML := hb.bT
 refine nG (aa (ae (v := (I6 0)) rfl) (nK (aa (ah (v := va) rfl) (aa (bM nZ rfl (h.gV 1 rfl)) (aa (mV rfl rfl) (nN (aI hs rfl (fun c1 hs => ?_) (fun c1 hs => ?_))))))))
 refine nG (aa (ae (v := (I6 2)) rfl) (nR (ay (bR (v := (I6 2)) Tryz.results146 rfl ?_))))
 obtain rfl := fM hs
 exact ⟨h.grown, rfl⟩
 refine aH (ak (aM (nG (aa (ah (v := vb) rfl) (aa (bM kE rfl (h.gV 2 rfl)) (aa (ah (v := (I6 0)) rfl) (nN (aN (gD (σ := Nat × Int) (inl ([6, 8] ++ rg 18 9)) (fun ⟨k2, i3⟩ => [(18, (I6 i3))]) (fun ⟨k2, i3⟩ w => SH w0 M BE w (hset [(1, .sr oz va a), (2, .sr kY vb b)]) ∧ i3 = (k2 : Int) ∧ each pI (pJ N b c a) (b.drop k2) () = some r) (fun ⟨k2, i3⟩ => b.length - k2) ⟨0, 0⟩ ⟨rfl, trivial⟩ ?_ ?_)))))))))
 exact ⟨h.cn _, rfl, hs⟩
 rintro ⟨k2, i3⟩ w dR ⟨h, hik, hs⟩
 refine nG ?_
 refine aa (eO rfl rfl) (nN ?_)
 refine aM (gQ rfl (fun e7 => ?_) (fun e7 => ?_))
 refine aH (ak ?_)
 obtain ⟨x4, e8a, e8b⟩ := fG (hik ▸ e7)
 rw [e8b, dU] at hs
 generalize G6 : each pI (pJ N b c a) (b.drop (k2 + 1)) = G5 at hs
 have Ug := fJ ((h.gV 2 rfl)).bT hik e7
 refine aM (aN (nG ?_))
 obtain ⟨b10, o11, cs12, h, r13, i9⟩ := h.xI 2 3 rfl kE rfl (ig hik) (fI hik e8a)
 obtain ⟨Lu, rfl, g15⟩ := w9 r13
 replace h := h.dh 4 g15.up
 refine aa (i9 _ _ _ _ _ _ _ _ _ rfl rfl) (aa (jc (k := 0) (vs := [(I6 x4.params), (I6 x4.locals), Lu]) h 3 rfl qi rfl rfl rfl (bD rfl)) (bI h 5 qi fun w b16 h => dK (vs := [(I6 x4.params), (I6 x4.locals), Lu]) h 5 [(I6 x4.params), (I6 x4.locals), Lu] rfl qi rfl rfl rfl rfl rfl (ai rfl (ai rfl (ai (h.iN 4 rfl).one aS))) fun w h => nJ (aa (ag zq rfl) (aa (az h 5 rfl aR rfl rfl) (aW rZ rfl rfl (eH _ _ h.lt x4.params 0 3 _ rfl) ?_)))))
 rintro _ w ⟨k17, rfl⟩
 refine ⟨_, rfl, ?_⟩
 replace h := h.grow k17
 refine aa (fw rfl) (nN (aI hs rfl (fun c18 hs => ?_) (fun c18 hs => ?_)))
 refine nG (aa (ae (v := (I6 3)) rfl) (nR (aB (ay (ay (aB (ay (bR (v := (I6 3)) Tryz.results146 rfl ?_))))))))
 obtain rfl := fM hs
 exact ⟨h.grown, rfl⟩
 refine aH (ax (ak (aD (aa (dQ rfl rfl Ug) (aa (ah (v := (I6 ((i3 + 1)))) rfl) (aA (au ?_)))))))
 subst G6
 exact jM ⟨k2 + 1, i3 + 1⟩ ⟨h.cn _, by omega, hs⟩ (by have := oD e7; dsimp only; omega)
 rw [fH (hik ▸ e7), fO] at hs
 refine nE (aa (ae (v := (.slice none 0 0)) rfl) (nK (aa (ah (v := va) rfl) (aa (bM nZ rfl (h.gV 1 rfl)) (aa (ah (v := (I6 0)) rfl) (nN (aN ?_)))))))
 replace h := h.yH (R := eY) (E := 3) 9
 refine gD (σ := Nat × Int × Value × List Int) (inl ([6, 9, 10, 11, 12] ++ rg 29 53)) (fun ⟨k27, i28, v25, Ec⟩ => [(9, v25), (29, (I6 i28))]) (fun ⟨k27, i28, v25, Ec⟩ w => SH w0 M BE w (hset [(1, .sr oz va a), (2, .sr kY vb b), (9, .own eY 3 v25 Ec)]) ∧ i28 = (k27 : Int) ∧ dZ (pF N b c) (pG N a) i28 (a.drop k27) Ec = some r) (fun ⟨k27, i28, v25, Ec⟩ => a.length - k27) ⟨0, 0, (.slice none 0 0), []⟩ ⟨rfl, rfl, trivial⟩ ?_ ?_
 exact ⟨h.cn _, rfl, hs⟩
 rintro ⟨k27, i28, v25, Ec⟩ w dR ⟨h, hik, hs⟩
 refine nG ?_
 refine aa (eO rfl rfl) (nN ?_)
 refine aM (gQ rfl (fun e32 => ?_) (fun e32 => ?_))
 refine aH (ak ?_)
 obtain ⟨x29, e33a, e33b⟩ := fG (hik ▸ e32)
 rw [e33b, iQ] at hs
 generalize Z9 : dZ (pF N b c) (pG N a) (i28 + 1) (a.drop (k27 + 1)) = zW at hs
 have e33r := fJ ((h.gV 1 rfl)).bT hik e32
 refine aM (aN (nG (aa (ah (v := (I6 i28)) rfl) ?_)))
 obtain ⟨b35, o36, cs37, h, r38, i34⟩ := h.xI 1 10 rfl nZ rfl (ig hik) (fI hik e33a)
 obtain rfl := r38
 refine aa (i34 _ _ _ _ _ _ _ _ _ rfl rfl) (aa (jc (k := 0) (vs := [(I6 x29.kind), (I6 x29.n)]) h 10 rfl nQ rfl rfl rfl (bD rfl)) (bI h 11 nQ fun w b39 h => aa (ae (v := (I6 i28)) rfl) (dK (vs := [(I6 x29.kind), (I6 x29.n)]) h 11 [(I6 x29.kind), (I6 x29.n)] rfl nQ rfl rfl rfl rfl rfl (ai rfl (ai rfl aS)) fun w h => nK (aa (bU (vs := [(I6 x29.kind), (I6 x29.n)]) h 11 rfl nQ rfl rfl rfl) (aa (ah (v := vb) rfl) (aa (ah (v := (I6 c)) rfl) (aW VU rfl rfl (xO _ _ h.lt x29 vb b (h.gV 2 rfl) c _ rfl) ?_)))))))
 rintro _ w ⟨k40, rfl⟩
 refine ⟨_, rfl, ?_⟩
 replace h := h.grow k40
 refine aa (ae (v := (I6 ((ic x29 b c)))) rfl) (nJ (aa (ah (v := (I6 ((ic x29 b c)))) rfl) (aa (gM rfl rfl) (nN (aI hs rfl (fun c41 hs => ?_) (fun c41 hs => ?_))))))
 refine nG (aa (ah (v := (I6 ((ic x29 b c)))) rfl) (aa (ae (v := (I6 ((ic x29 b c)))) rfl) (nR (ay (aB (ay (ay (aB (ay (bR (v := (I6 ((ic x29 b c)))) Tryz.results146 rfl ?_))))))))))
 obtain rfl := fM hs
 exact ⟨h.grown, rfl⟩
 refine aH (ak (aM (aN (gD (σ := Nat × Value × List Int) (inl ([9] ++ rg 41 17)) (fun ⟨m53, v48, zX⟩ => [(9, v48)]) (fun ⟨m53, v48, zX⟩ w => SH w0 M BE w (hset [(1, .sr oz va a), (2, .sr kY vb b), (9, .own eY 3 v48 zX), (11, .blk b39 [(I6 x29.kind), (I6 x29.n)])]) ∧ again (pq i28 x29 b zW) m53 zX = some r) (fun ⟨m53, v48, zX⟩ => m53) ⟨N, v25, Ec⟩ ⟨rfl, trivial⟩ ?_ ?_))))
 exact ⟨h.cn _, hs⟩
 rintro ⟨m53, v48, zX⟩ w dR ⟨h, hs⟩
 obtain ⟨m531, m53e, m53h⟩ := uq hs
 subst m53e
 replace hs := m53h
 generalize hnx54 : again (pq i28 x29 b zW) m531 = MM at hs
 refine aM (cu (σ := Bool) (inl (rg 41 12)) (fun x57 => [(52, (.bool (x57)))]) (fun x57 w => SH w0 M BE w (hset [(1, .sr oz va a), (2, .sr kY vb b), (9, .own eY 3 v48 zX), (11, .blk b39 [(I6 x29.kind), (I6 x29.n)])]) ∧ pg zX MM i28 x29 b zW x57 = some r) ?_ ?_)
 rintro x57 w dR ⟨h, hs⟩
 refine aI hs rfl (fun c58 hs => ?_) (fun c58 hs => ?_)
 refine aH (ak (aN (aD (aa (ah (v := v48) rfl) (aa (ah (v := v48) rfl) (aa (bM bZ rfl (h.eT 9 rfl)) ?_))))))
 obtain ⟨a59, hs⟩ := bG hs
 refine aa (oh rfl rfl a59) ?_
 obtain ⟨x60, e61, hs⟩ := aL hs
 obtain ⟨e64, e64a, e64b, e64c⟩ := VB e61
 obtain ⟨u62, h, i63⟩ := h.cutO 9 rfl bZ rfl e64b e64c
 refine aa (i63 _ _ _ _ _ _ _ _ _ _ rfl (.inl ⟨rfl, rfl⟩) (.inr (congrArg some rfl))) (aa (ae (v := u62) rfl) (aA (ax (au ?_))))
 subst hnx54
 exact jM ⟨m531, u62, (zX.take (((zX.length : Int) - 1)).toNat)⟩ ⟨h.cn _, hs⟩
 refine jl (bQ (bQ (fq (ak (aM (nG (aa (ah (v := (I6 i28)) rfl) (aa (mV rfl rfl) (aa (ah (v := (.bool (decide ((0 : Int) < i28)))) rfl) (aF rfl rfl (fun q => ah (v := v48) rfl) (aF rfl rfl (fun q => bM bZ (eu q) (h.eT 9 rfl)) (aF rfl rfl (fun q => bu (eu q) rfl) (aa (fZ rfl rfl mY) (nN (aI hs rfl (fun Aw hs => ?_) (fun Aw hs => ?_))))))))))))))))
 refine nG (aa (ae (v := (I6 4)) rfl) (nR (ay (aB (ay (ay (aB (ay (bR (v := (I6 4)) Tryz.results146 rfl ?_)))))))))
 obtain rfl := fM hs
 exact ⟨h.grown, rfl⟩
 refine aH (ak (cu (σ := List Int) (inl (rg 65 10)) (fun x66 => []) (fun x66 w => SH w0 M BE w (hset [(1, .sr oz va a), (2, .sr kY vb b), (9, .own eY 3 v48 x66), (11, .blk b39 [(I6 x29.kind), (I6 x29.n)])]) ∧ o8 x29 b zW x66 = some r) ?_ ?_))
 rintro x66 w dR ⟨h, hs⟩
 refine aD (aa (ah (v := v48) rfl) (aa (bU (vs := [(I6 x29.kind), (I6 x29.n)]) h 11 rfl nQ rfl rfl rfl) (aa (ah (v := vb) rfl) ?_)))
 obtain ⟨wu, e68, hs⟩ := aL hs
 refine aW Qk rfl rfl (wO _ _ h.lt x29 vb b (h.gV 2 rfl) _ e68) ?_
 rintro _ w ⟨k69, rfl⟩
 refine ⟨_, rfl, ?_⟩
 replace h := h.grow k69
 refine sV (R := eY) (vs := [(I6 wu)]) (xs := [wu]) h 13 kI rfl rfl rfl ⟨rfl, trivial⟩ rfl fun w u70 h => ?_
 obtain ⟨a71, hs⟩ := bG hs
 refine mW (R := eY) (m := [wu]) h 9 rfl (h.eT 13 rfl) kI rfl rfl rfl a71.1 a71.2 fun w u72 h => aa (ae (v := u72) rfl) (aA (ax (ak (aD (aa (dQ rfl rfl e33r) (aa (ah (v := (I6 ((i28 + 1)))) rfl) (aA (au ?_))))))))
 subst Z9
 exact jM ⟨k27 + 1, i28 + 1, u72, (x66 ++ [wu])⟩ ⟨h.cn _, by omega, hs⟩ (by have := oD e32; dsimp only; omega)
 refine nG (aa (ah (v := (I6 i28)) rfl) (aa (mV rfl rfl) (nN (aI hs rfl (fun c73 hs => ?_) (fun c73 hs => ?_)))))
 refine aD (aa (ah (v := v48) rfl) (aa (ah (v := v48) rfl) (aa (bM bZ rfl (h.eT 9 rfl)) ?_)))
 obtain ⟨a74, hs⟩ := bG hs
 refine aa (oh rfl rfl a74) ?_
 obtain ⟨x75, e76, hs⟩ := aL hs
 obtain ⟨b78, q79, i77⟩ := h.rO 9 rfl bZ rfl (aC e76).1 (aC e76).2
 refine aa (i77 _ _ _ _ _ _ _ _ _ rfl rfl) ?_
 obtain ⟨cs80, m81, r82⟩ := h.uQ 9 rfl q79 (aC e76).2
 obtain rfl := r82
 refine aa (lh (k := 0) m81 aR rfl rfl) ?_
 obtain ⟨a83, hs⟩ := bG hs
 refine aa (oh rfl rfl a83) ?_
 obtain ⟨MN, q86, i84⟩ := h.rO 9 rfl bZ rfl (aC e76).1 (aC e76).2
 refine aa (i84 _ _ _ _ _ _ _ _ _ rfl rfl) (IM (off := 0) (a' := (x75 - 1)) h 9 rfl q86 rfl (aC e76).2 aR rfl rfl rfl rfl (fun cs hq => set1 rfl hq rfl rfl) fun w h => aA (au ?_))
 exact bS (zX.set (((zX.length : Int) - 1)).toNat (x75 - 1)) ⟨h.cn _, hs⟩
 refine aH (au ?_)
 exact bS zX ⟨h.cn _, hs⟩
 refine aD (aa (ah (v := v48) rfl) (aa (bM bZ rfl (h.eT 9 rfl)) (aa (mV rfl rfl) (aa (ah (v := (.bool (decide ((0 : Int) < (zX.length : Int))))) rfl) (gT (b := decide ((0 : Int) < (zX.length : Int))) hs (fun c87 hs => ?_) (fun c87 hs => ?_))))))
 refine cz rfl (cB c87) (aa (ah (v := v48) rfl) (cz rfl (cB c87) (aa (ah (v := v48) rfl) (cz rfl (cB c87) (aa (bM bZ rfl (h.eT 9 rfl)) (cz rfl (cB c87) ?_))))))
 obtain ⟨a88, hs⟩ := bG hs
 refine aa (oh rfl rfl a88) (cz rfl (cB c87) ?_)
 obtain ⟨x89, e90, hs⟩ := aL hs
 obtain ⟨b92, q93, i91⟩ := h.rO 9 rfl bZ rfl (aC e90).1 (aC e90).2
 refine aa (i91 _ _ _ _ _ _ _ _ _ rfl rfl) (cz rfl (cB c87) ?_)
 obtain ⟨cs94, m95, r96⟩ := h.uQ 9 rfl q93 (aC e90).2
 obtain rfl := r96
 refine aa (lh (k := 0) m95 aR rfl rfl) (cz rfl (cB c87) (aa (bu rfl rfl) (aa (bY (b := true) (v := (.bool (decide ((x89 : Int) = 0)))) (cB c87) rfl) (aA (au ?_)))))
 exact bS (decide ((x89 : Int) = 0)) ⟨h.cn _, hs⟩
 refine mO rfl (cB c87) rfl (mO rfl (cB c87) rfl (mO rfl (cB c87) rfl (mO rfl (cB c87) rfl (mO rfl (cB c87) rfl (mO rfl (cB c87) rfl (mO rfl (cB c87) rfl (aa (bY (b := false) (v := (.bool (false))) (cB c87) rfl) (aA (au ?_)))))))))
 exact bS false ⟨h.cn _, hs⟩
 rw [fH (hik ▸ e32), ll] at hs
 refine jl (bQ (bQ (fq (ak (aM (cu (σ := Bool) (inl (rg 82 10)) (fun K8 => [(91, (.bool (K8)))]) (fun K8 w => SH w0 M BE w (hset []) ∧ pE K8 = some r) ?_ ?_))))))
 rintro K8 w dR ⟨h, hs⟩
 refine aI hs rfl (fun c98 hs => ?_) (fun c98 hs => ?_)
 refine nG (aa (ae (v := (I6 4)) rfl) (nR (ay (bR (v := (I6 4)) Tryz.results146 rfl ?_))))
 obtain rfl := fM hs
 exact ⟨h.grown, rfl⟩
 refine nS (aa (ae (v := (I6 0)) rfl) (nR (bR (v := (I6 0)) Tryz.results146 rfl ?_)))
 obtain rfl := fM hs
 exact ⟨h.grown, rfl⟩
 refine aD (aa (ah (v := va) rfl) (aa (bM nZ rfl (h.gV 1 rfl)) (aa (bu rfl rfl) (aa (ah (v := (.bool (decide (((a.length : Int) : Int) = 0)))) rfl) (gT (b := decide (((a.length : Int) : Int) = 0)) hs (fun W9 hs => ?_) (fun W9 hs => ?_))))))
 refine OT rfl (cB W9) rfl (OT rfl (cB W9) rfl (OT rfl (cB W9) rfl (OT rfl (cB W9) rfl (OT rfl (cB W9) rfl (aa (bY (b := true) (v := (.bool (true))) (cB W9) rfl) (aA (au ?_)))))))
 exact bS true ⟨h.cn _, hs⟩
 refine cz rfl (cB W9) (sV (R := eY) (vs := [(I6 0)]) (xs := [0]) h 14 kI rfl rfl rfl ⟨rfl, trivial⟩ rfl fun w u100 h => cz rfl (cB W9) (aa (ah (v := v25) rfl) (cz rfl (cB W9) ?_)))
 obtain ⟨Xa, hs⟩ := bG hs
 refine mW (R := eY) (m := Ec) h 14 rfl (h.eT 9 rfl) kI rfl rfl rfl Xa.1 Xa.2 fun w u102 h => cz rfl (cB W9) ?_
 obtain ⟨wP, Xb, hs⟩ := aL hs
 refine aW fnOk164 rfl rfl (JN N _ _ h.lt u102 ([0] ++ Ec) (h.eT 14 rfl) _ Xb) ?_
 rintro _ w ⟨k105, rfl⟩
 refine ⟨_, rfl, ?_⟩
 replace h := h.grow k105
 refine cz rfl (cB W9) (aa (mV rfl rfl) (aa (bY (b := false) (v := (.bool (decide ((0 : Int) < wP)))) (cB W9) rfl) (aA (au ?_))))
 exact bS (decide ((0 : Int) < wP)) ⟨h.cn _, hs⟩
def bL (nM : Str) : Bool :=
  (hasB nM 78)
theorem zu (w0 : World) (M : BS) (hM : ∀ b, M b → b < w0.heap.size) (nM : Str) (q0 : Nat) (hq0 : ∃ E, w0.heap[q0]? = some (.cells #[(aV nM)] E (0, 0))) (r : Bool) (hs : bL nM = r) :
    Calls Tryz.prog 144 #[(aV [78]), (.pointer (some ⟨q0, 0, none⟩))] w0 (fun e w' => Grow w0 w' ∧ e = .returned (.bool r)) := by
 refine aQ (args := [(aV [78]), (.pointer (some ⟨q0, 0, none⟩))]) Tryz.func144 rfl Tryz.ntmps144 (bD rfl) ?_
 have h := SH.init hM
 replace h := h.Mk 1 (cs := [(aV nM)]) hq0 bA
 refine nG (aa (ae (v := (.bool (false))) rfl) (nJ (aa (fo (k := 0) h 1 rfl CZ rfl rfl) (aa (ah (v := (aV [78])) rfl) (aW Gb rfl rfl (mP _ _ h.lt nM 78 _ rfl) ?_)))))
 rintro _ w ⟨k1, rfl⟩
 refine ⟨_, rfl, ?_⟩
 replace h := h.grow k1
 refine aa (ae (v := (.bool ((hasB nM 78)))) rfl) (nR (bR (v := (.bool ((hasB nM 78)))) Tryz.results144 rfl ?_))
 obtain rfl := hs
 exact ⟨h.grown, rfl⟩
def dG (nM : Str) : Bool :=
  (hasB nM 69)
theorem zw (w0 : World) (M : BS) (hM : ∀ b, M b → b < w0.heap.size) (nM : Str) (q0 : Nat) (hq0 : ∃ E, w0.heap[q0]? = some (.cells #[(aV nM)] E (0, 0))) (r : Bool) (hs : dG nM = r) :
    Calls Tryz.prog 144 #[(aV [69]), (.pointer (some ⟨q0, 0, none⟩))] w0 (fun e w' => Grow w0 w' ∧ e = .returned (.bool r)) := by
 refine aQ (args := [(aV [69]), (.pointer (some ⟨q0, 0, none⟩))]) Tryz.func144 rfl Tryz.ntmps144 (bD rfl) ?_
 have h := SH.init hM
 replace h := h.Mk 1 (cs := [(aV nM)]) hq0 bA
 refine nG (aa (ae (v := (.bool (false))) rfl) (nJ (aa (fo (k := 0) h 1 rfl CZ rfl rfl) (aa (ah (v := (aV [69])) rfl) (aW Gb rfl rfl (mP _ _ h.lt nM 69 _ rfl) ?_)))))
 rintro _ w ⟨k1, rfl⟩
 refine ⟨_, rfl, ?_⟩
 replace h := h.grow k1
 refine aa (ae (v := (.bool ((hasB nM 69)))) rfl) (nR (bR (v := (.bool ((hasB nM 69)))) Tryz.results144 rfl ?_))
 obtain rfl := hs
 exact ⟨h.grown, rfl⟩
def eB (nM : Str) : Bool :=
  (hasB nM 70)
theorem sQ (w0 : World) (M : BS) (hM : ∀ b, M b → b < w0.heap.size) (nM : Str) (q0 : Nat) (hq0 : ∃ E, w0.heap[q0]? = some (.cells #[(aV nM)] E (0, 0))) (r : Bool) (hs : eB nM = r) :
    Calls Tryz.prog 144 #[(aV [70]), (.pointer (some ⟨q0, 0, none⟩))] w0 (fun e w' => Grow w0 w' ∧ e = .returned (.bool r)) := by
 refine aQ (args := [(aV [70]), (.pointer (some ⟨q0, 0, none⟩))]) Tryz.func144 rfl Tryz.ntmps144 (bD rfl) ?_
 have h := SH.init hM
 replace h := h.Mk 1 (cs := [(aV nM)]) hq0 bA
 refine nG (aa (ae (v := (.bool (false))) rfl) (nJ (aa (fo (k := 0) h 1 rfl CZ rfl rfl) (aa (ah (v := (aV [70])) rfl) (aW Gb rfl rfl (mP _ _ h.lt nM 70 _ rfl) ?_)))))
 rintro _ w ⟨k1, rfl⟩
 refine ⟨_, rfl, ?_⟩
 replace h := h.grow k1
 refine aa (ae (v := (.bool ((hasB nM 70)))) rfl) (nR (bR (v := (.bool ((hasB nM 70)))) Tryz.results144 rfl ?_))
 obtain rfl := hs
 exact ⟨h.grown, rfl⟩
def iV (nM : Str) : Bool :=
  (hasB nM 65)
theorem zx (w0 : World) (M : BS) (hM : ∀ b, M b → b < w0.heap.size) (nM : Str) (q0 : Nat) (hq0 : ∃ E, w0.heap[q0]? = some (.cells #[(aV nM)] E (0, 0))) (r : Bool) (hs : iV nM = r) :
    Calls Tryz.prog 144 #[(aV [65]), (.pointer (some ⟨q0, 0, none⟩))] w0 (fun e w' => Grow w0 w' ∧ e = .returned (.bool r)) := by
 refine aQ (args := [(aV [65]), (.pointer (some ⟨q0, 0, none⟩))]) Tryz.func144 rfl Tryz.ntmps144 (bD rfl) ?_
 have h := SH.init hM
 replace h := h.Mk 1 (cs := [(aV nM)]) hq0 bA
 refine nG (aa (ae (v := (.bool (false))) rfl) (nJ (aa (fo (k := 0) h 1 rfl CZ rfl rfl) (aa (ah (v := (aV [65])) rfl) (aW Gb rfl rfl (mP _ _ h.lt nM 65 _ rfl) ?_)))))
 rintro _ w ⟨k1, rfl⟩
 refine ⟨_, rfl, ?_⟩
 replace h := h.grow k1
 refine aa (ae (v := (.bool ((hasB nM 65)))) rfl) (nR (bR (v := (.bool ((hasB nM 65)))) Tryz.results144 rfl ?_))
 obtain rfl := hs
 exact ⟨h.grown, rfl⟩
def uI (nM : Str) : Bool :=
  (hasB nM 66)
theorem zy (w0 : World) (M : BS) (hM : ∀ b, M b → b < w0.heap.size) (nM : Str) (q0 : Nat) (hq0 : ∃ E, w0.heap[q0]? = some (.cells #[(aV nM)] E (0, 0))) (r : Bool) (hs : uI nM = r) :
    Calls Tryz.prog 144 #[(aV [66]), (.pointer (some ⟨q0, 0, none⟩))] w0 (fun e w' => Grow w0 w' ∧ e = .returned (.bool r)) := by
 refine aQ (args := [(aV [66]), (.pointer (some ⟨q0, 0, none⟩))]) Tryz.func144 rfl Tryz.ntmps144 (bD rfl) ?_
 have h := SH.init hM
 replace h := h.Mk 1 (cs := [(aV nM)]) hq0 bA
 refine nG (aa (ae (v := (.bool (false))) rfl) (nJ (aa (fo (k := 0) h 1 rfl CZ rfl rfl) (aa (ah (v := (aV [66])) rfl) (aW Gb rfl rfl (mP _ _ h.lt nM 66 _ rfl) ?_)))))
 rintro _ w ⟨k1, rfl⟩
 refine ⟨_, rfl, ?_⟩
 replace h := h.grow k1
 refine aa (ae (v := (.bool ((hasB nM 66)))) rfl) (nR (bR (v := (.bool ((hasB nM 66)))) Tryz.results144 rfl ?_))
 obtain rfl := hs
 exact ⟨h.grown, rfl⟩
def pK (K9 : Unit → Option Int) (jb : Int) : Option Int :=
  bif decide ((jb : Int) ≠ 0) then some jb else K9 ()
def pM (F0 : List cO → List iO → Int → Option Int) (x3 : cO) (b : List iO) (c : Int) (K9 : Unit → Option Int) (CF : Int) : Option Int :=
  bif decide ((CF : Int) = 0) then (F0 x3.b b c).bind fun y39 => pK K9 y39 else pK K9 CF
def pO (F0 : List cO → List iO → Int → Option Int) (x3 : cO) (a : List cO) (b : List iO) (c : Int) (K9 : Unit → Option Int) (x34 : Int) : Option Int :=
  bif decide ((x34 : Int) = 0) then (F0 x3.a b c).bind fun Ed => pM F0 x3 b c K9 Ed else pM F0 x3 b c K9 x34
def pQ (N : Nat) (F0 : List cO → List iO → Int → Option Int) (x3 : cO) (b : List iO) (c : Int) (a : List cO) (K9 : Unit → Option Int) (Da : Int) : Option Int :=
  bif (decide ((Da : Int) = 0) && (eB ((lk x3.kind ([(1, [78, 69]), (2, [78, 69, 70]), (3, [69]), (4, []), (5, [69]), (6, [69, 65, 66]), (7, [69, 65]), (8, [69])] : List (Int × Str))).getD []))) then (uA N x3.f b c).bind fun qj => pO F0 x3 a b c K9 qj else pO F0 x3 a b c K9 Da
def pR (N : Nat) (F0 : List cO → List iO → Int → Option Int) (a : List cO) (b : List iO) (c : Int) (x3 : cO) (s : Unit) (K9 : Unit → Option Int) : Option Int :=
  bif ((((((!(lk x3.kind ([(1, [78, 69]), (2, [78, 69, 70]), (3, [69]), (4, []), (5, [69]), (6, [69, 65, 66]), (7, [69, 65]), (8, [69])] : List (Int × Str))).isSome) || (decide ((x3.n : Int) ≠ 0) && (!(bL ((lk x3.kind ([(1, [78, 69]), (2, [78, 69, 70]), (3, [69]), (4, []), (5, [69]), (6, [69, 65, 66]), (7, [69, 65]), (8, [69])] : List (Int × Str))).getD []))))) || (decide ((0 : Int) < (x3.e.length : Int)) && (!(dG ((lk x3.kind ([(1, [78, 69]), (2, [78, 69, 70]), (3, [69]), (4, []), (5, [69]), (6, [69, 65, 66]), (7, [69, 65]), (8, [69])] : List (Int × Str))).getD []))))) || (decide ((0 : Int) < (x3.f.length : Int)) && (!(eB ((lk x3.kind ([(1, [78, 69]), (2, [78, 69, 70]), (3, [69]), (4, []), (5, [69]), (6, [69, 65, 66]), (7, [69, 65]), (8, [69])] : List (Int × Str))).getD []))))) || (decide ((0 : Int) < (x3.a.length : Int)) && (!(iV ((lk x3.kind ([(1, [78, 69]), (2, [78, 69, 70]), (3, [69]), (4, []), (5, [69]), (6, [69, 65, 66]), (7, [69, 65]), (8, [69])] : List (Int × Str))).getD []))))) || (decide ((0 : Int) < (x3.b.length : Int)) && (!(uI ((lk x3.kind ([(1, [78, 69]), (2, [78, 69, 70]), (3, [69]), (4, []), (5, [69]), (6, [69, 65, 66]), (7, [69, 65]), (8, [69])] : List (Int × Str))).getD []))))) then some 4 else bif ((decide ((x3.kind : Int) = 1) && (!(aJ x3.n c))) || (decide ((x3.kind : Int) = 2) && (!(aO x3.n 0 3)))) then some 3 else bif (hasB ((lk x3.kind ([(1, [78, 69]), (2, [78, 69, 70]), (3, [69]), (4, []), (5, [69]), (6, [69, 65, 66]), (7, [69, 65]), (8, [69])] : List (Int × Str))).getD []) 69) then (uA N x3.e b c).bind fun AR => pQ N F0 x3 b c a K9 AR else pQ N F0 x3 b c a K9 0
def pU (s : Unit) : Option Int :=
  some 0
def wC (N : Nat) (F0 : List cO → List iO → Int → Option Int) (a : List cO) (b : List iO) (c : Int) : Option Int :=
  each (pR N F0 a b c) pU a ()
def lW : Nat → List cO → List iO → Int → Option Int
  | 0 => fun _ _ _ => none
  | N + 1 => wC N (lW N)
theorem Cr : ∀ (N : Nat) (w0 : World) (M : BS) (hM : ∀ b, M b → b < w0.heap.size) (va : Value) (a : List cO) (ha : gB ik w0 BE M va a) (vb : Value) (b : List iO) (hb : gB kY w0 BE M vb b) (c : Int) (r : Int) (hs : lW N a b c = some r),
    Calls Tryz.prog 129 #[va, vb, (I6 c)] w0 (fun e w' => Grow w0 w' ∧ e = .returned (.int .i64 r)) := by
 intro N
 induction N with
 | zero => intro w0 M hM va a ha vb b hb c r hs; cases hs
 | succ N ih =>
 intro w0 M hM va a ha vb b hb c r hs
 replace hs : wC N (lW N) a b c = some r := hs
 generalize lW N = F0 at hs ih
 refine aQ (args := [va, vb, (I6 c)]) Tryz.func129 rfl Tryz.ntmps129 (bD rfl) ?_
 have h := SH.init hM
 replace h := h.fE 1 ha bA
 replace h := h.fE 2 hb (bN bA)
 have uU := ha.bT
 have ML := hb.bT
 refine nG (aa (ae (v := (I6 0)) rfl) (nK (aa (ah (v := va) rfl) (aa (bM oZ rfl (h.gV 1 rfl)) (aa (ah (v := (I6 0)) rfl) (nN (aN (gD (σ := Nat × Int) (inl ([6, 8, 9, 10, 11, 12] ++ rg 15 126)) (fun ⟨k1, i2⟩ => [(15, (I6 i2))]) (fun ⟨k1, i2⟩ w => SH w0 M BE w (hset [(1, .sr ik va a), (2, .sr kY vb b)]) ∧ i2 = (k1 : Int) ∧ each (pR N F0 a b c) pU (a.drop k1) () = some r) (fun ⟨k1, i2⟩ => a.length - k1) ⟨0, 0⟩ ⟨rfl, trivial⟩ ?_ ?_))))))))
 exact ⟨h.cn _, rfl, hs⟩
 rintro ⟨k1, i2⟩ w dR ⟨h, hik, hs⟩
 refine nG ?_
 refine aa (eO rfl rfl) (nN ?_)
 refine aM (gQ rfl (fun e6 => ?_) (fun e6 => ?_))
 refine aH (ak ?_)
 obtain ⟨x3, e7a, e7b⟩ := fG (hik ▸ e6)
 rw [e7b, dU] at hs
 generalize hnx5 : each (pR N F0 a b c) pU (a.drop (k1 + 1)) = K9 at hs
 have e7r := fJ ((h.gV 1 rfl)).bT hik e6
 refine aM (aN (nG ?_))
 obtain ⟨b9, o10, cs11, h, r12, i8⟩ := h.xI 1 3 rfl oZ rfl (ig hik) (fI hik e7a)
 obtain ⟨DX, zA, EF, RA, rfl, g14, g16, g18, g20⟩ := D5 r12
 replace h := h.dh 4 g14.up
 replace h := h.dh 5 g16.up.up
 replace h := h.dh 6 g18.up.up.up
 replace h := h.dh 7 g20.up.up.up.up
 refine aa (i8 _ _ _ _ _ _ _ _ _ rfl rfl) (aa (jc (k := 0) (vs := [(I6 x3.kind), (I6 x3.n), DX, zA, EF, RA]) h 3 rfl tu rfl rfl rfl (bD rfl)) (bI h 8 tu fun w IE h => dK (vs := [(I6 x3.kind), (I6 x3.n), DX, zA, EF, RA]) h 8 [(I6 x3.kind), (I6 x3.n), DX, zA, EF, RA] rfl tu rfl rfl rfl rfl rfl (ai rfl (ai rfl (ai (h.iN 4 rfl).one (ai (h.iN 5 rfl).one (ai (h.iN 6 rfl).one (ai (h.iN 7 rfl).one aS)))))) fun w h => nJ (CQ h 9 fun w b22 h => jq (kT := [(1, (aV [78, 69]))]) h 9 rfl iP rfl rfl rfl rfl fun w h => jq (kT := [(1, (aV [78, 69])), (2, (aV [78, 69, 70]))]) h 9 rfl iP rfl rfl rfl rfl fun w h => jq (kT := [(1, (aV [78, 69])), (2, (aV [78, 69, 70])), (3, (aV [69]))]) h 9 rfl iP rfl rfl rfl rfl fun w h => jq (kT := [(1, (aV [78, 69])), (2, (aV [78, 69, 70])), (3, (aV [69])), (4, (aV []))]) h 9 rfl iP rfl rfl rfl rfl fun w h => jq (kT := [(1, (aV [78, 69])), (2, (aV [78, 69, 70])), (3, (aV [69])), (4, (aV [])), (5, (aV [69]))]) h 9 rfl iP rfl rfl rfl rfl fun w h => jq (kT := [(1, (aV [78, 69])), (2, (aV [78, 69, 70])), (3, (aV [69])), (4, (aV [])), (5, (aV [69])), (6, (aV [69, 65, 66]))]) h 9 rfl iP rfl rfl rfl rfl fun w h => jq (kT := [(1, (aV [78, 69])), (2, (aV [78, 69, 70])), (3, (aV [69])), (4, (aV [])), (5, (aV [69])), (6, (aV [69, 65, 66])), (7, (aV [69, 65]))]) h 9 rfl iP rfl rfl rfl rfl fun w h => jq (kT := [(1, (aV [78, 69])), (2, (aV [78, 69, 70])), (3, (aV [69])), (4, (aV [])), (5, (aV [69])), (6, (aV [69, 65, 66])), (7, (aV [69, 65])), (8, (aV [69]))]) h 9 rfl iP rfl rfl rfl rfl fun w h => aa (ah (v := (.map (some b22))) rfl) (aa (ag nC rfl) (aa (az h 8 rfl aR rfl rfl) (aa (r_lk2 (f := aV) (zz := []) ([(1, [78, 69]), (2, [78, 69, 70]), (3, [69]), (4, []), (5, [69]), (6, [69, 65, 66]), (7, [69, 65]), (8, [69])] : List (Int × Str)) h 9 rfl iP rfl rfl rfl rfl) (aa (ah (v := (.tuple #[(aV ((lk x3.kind ([(1, [78, 69]), (2, [78, 69, 70]), (3, [69]), (4, []), (5, [69]), (6, [69, 65, 66]), (7, [69, 65]), (8, [69])] : List (Int × Str))).getD [])), (.bool ((lk x3.kind ([(1, [78, 69]), (2, [78, 69, 70]), (3, [69]), (4, []), (5, [69]), (6, [69, 65, 66]), (7, [69, 65]), (8, [69])] : List (Int × Str))).isSome))])) rfl) (aa (bg rfl rfl) (aa (bg rfl rfl) ?_)))))))))
 refine uj h 10 CZ fun w Gd h => gP h 10 [(aV ((lk x3.kind ([(1, [78, 69]), (2, [78, 69, 70]), (3, [69]), (4, []), (5, [69]), (6, [69, 65, 66]), (7, [69, 65]), (8, [69])] : List (Int × Str))).getD []))] rfl CZ rfl rfl rfl rfl rfl fun w h => aa (ae (v := (.bool ((lk x3.kind ([(1, [78, 69]), (2, [78, 69, 70]), (3, [69]), (4, []), (5, [69]), (6, [69, 65, 66]), (7, [69, 65]), (8, [69])] : List (Int × Str))).isSome))) rfl) (nJ (aa (sU (c1 := []) (c2 := [(.pointer (some ⟨Gd, 0, none⟩))]) rfl rfl) (aa (ae (v := (.func (.func 144) #[] #[(.pointer (some ⟨Gd, 0, none⟩))])) rfl) (nK (aa (ah (v := (.bool ((lk x3.kind ([(1, [78, 69]), (2, [78, 69, 70]), (3, [69]), (4, []), (5, [69]), (6, [69, 65, 66]), (7, [69, 65]), (8, [69])] : List (Int × Str))).isSome))) rfl) (aa (fw rfl) (aa (ah (v := (.bool ((!(lk x3.kind ([(1, [78, 69]), (2, [78, 69, 70]), (3, [69]), (4, []), (5, [69]), (6, [69, 65, 66]), (7, [69, 65]), (8, [69])] : List (Int × Str))).isSome)))) rfl) (aF rfl rfl (fun q => ag zt rfl) (aF rfl rfl (fun q => az h 8 rfl aR (eu q) rfl) (aF rfl rfl (fun q => gM (eu q) rfl) (aF rfl rfl (fun q => ah (v := (.bool (decide ((x3.n : Int) ≠ 0)))) (eu q)) (lS ((!(lk x3.kind ([(1, [78, 69]), (2, [78, 69, 70]), (3, [69]), (4, []), (5, [69]), (6, [69, 65, 66]), (7, [69, 65]), (8, [69])] : List (Int × Str))).isSome) == false) rfl rfl (fun q => ah (v := (.func (.func 144) #[] #[(.pointer (some ⟨Gd, 0, none⟩))])) rfl) (F7 [(.pointer (some ⟨Gd, 0, none⟩))] ((!(lk x3.kind ([(1, [78, 69]), (2, [78, 69, 70]), (3, [69]), (4, []), (5, [69]), (6, [69, 65, 66]), (7, [69, 65]), (8, [69])] : List (Int × Str))).isSome) == false) rfl rfl Ea (fun q => (eu q)) (fun q => jP rfl rfl) (zu _ _ h.lt ((lk x3.kind ([(1, [78, 69]), (2, [78, 69, 70]), (3, [69]), (4, []), (5, [69]), (6, [69, 65, 66]), (7, [69, 65]), (8, [69])] : List (Int × Str))).getD []) Gd (h.uO 10 rfl) _ rfl) fun w k24 => ?_)))))))))))))
 replace h := h.grow k24
 refine lS ((!(lk x3.kind ([(1, [78, 69]), (2, [78, 69, 70]), (3, [69]), (4, []), (5, [69]), (6, [69, 65, 66]), (7, [69, 65]), (8, [69])] : List (Int × Str))).isSome) == false) rfl rfl (fun q => fw (eu q)) (aF rfl rfl (fun q => fZ (eu q) (TP q) mY) (aa (jD rfl rfl mY) (aa (ah (v := (.bool (((!(lk x3.kind ([(1, [78, 69]), (2, [78, 69, 70]), (3, [69]), (4, []), (5, [69]), (6, [69, 65, 66]), (7, [69, 65]), (8, [69])] : List (Int × Str))).isSome) || (decide ((x3.n : Int) ≠ 0) && (!(bL ((lk x3.kind ([(1, [78, 69]), (2, [78, 69, 70]), (3, [69]), (4, []), (5, [69]), (6, [69, 65, 66]), (7, [69, 65]), (8, [69])] : List (Int × Str))).getD [])))))))) rfl) (aF rfl rfl (fun q => ag CV rfl) (aF rfl rfl (fun q => az h 8 rfl Be (eu q) rfl) (aF rfl rfl (fun q => bM nZ (eu q) (h.kL 4 rfl)) (aF rfl rfl (fun q => mV (eu q) rfl) (aF rfl rfl (fun q => ah (v := (.bool (decide ((0 : Int) < (x3.e.length : Int))))) (eu q)) (lS (((!(lk x3.kind ([(1, [78, 69]), (2, [78, 69, 70]), (3, [69]), (4, []), (5, [69]), (6, [69, 65, 66]), (7, [69, 65]), (8, [69])] : List (Int × Str))).isSome) || (decide ((x3.n : Int) ≠ 0) && (!(bL ((lk x3.kind ([(1, [78, 69]), (2, [78, 69, 70]), (3, [69]), (4, []), (5, [69]), (6, [69, 65, 66]), (7, [69, 65]), (8, [69])] : List (Int × Str))).getD []))))) == false) rfl rfl (fun q => ah (v := (.func (.func 144) #[] #[(.pointer (some ⟨Gd, 0, none⟩))])) rfl) (F7 [(.pointer (some ⟨Gd, 0, none⟩))] (((!(lk x3.kind ([(1, [78, 69]), (2, [78, 69, 70]), (3, [69]), (4, []), (5, [69]), (6, [69, 65, 66]), (7, [69, 65]), (8, [69])] : List (Int × Str))).isSome) || (decide ((x3.n : Int) ≠ 0) && (!(bL ((lk x3.kind ([(1, [78, 69]), (2, [78, 69, 70]), (3, [69]), (4, []), (5, [69]), (6, [69, 65, 66]), (7, [69, 65]), (8, [69])] : List (Int × Str))).getD []))))) == false) rfl rfl Ea (fun q => (eu q)) (fun q => jP rfl rfl) (zw _ _ h.lt ((lk x3.kind ([(1, [78, 69]), (2, [78, 69, 70]), (3, [69]), (4, []), (5, [69]), (6, [69, 65, 66]), (7, [69, 65]), (8, [69])] : List (Int × Str))).getD []) Gd (h.uO 10 rfl) _ rfl) fun w k25 => ?_))))))))))
 replace h := h.grow k25
 refine lS (((!(lk x3.kind ([(1, [78, 69]), (2, [78, 69, 70]), (3, [69]), (4, []), (5, [69]), (6, [69, 65, 66]), (7, [69, 65]), (8, [69])] : List (Int × Str))).isSome) || (decide ((x3.n : Int) ≠ 0) && (!(bL ((lk x3.kind ([(1, [78, 69]), (2, [78, 69, 70]), (3, [69]), (4, []), (5, [69]), (6, [69, 65, 66]), (7, [69, 65]), (8, [69])] : List (Int × Str))).getD []))))) == false) rfl rfl (fun q => fw (eu q)) (aF rfl rfl (fun q => fZ (eu q) (TP q) mY) (aa (jD rfl rfl mY) (aa (ah (v := (.bool ((((!(lk x3.kind ([(1, [78, 69]), (2, [78, 69, 70]), (3, [69]), (4, []), (5, [69]), (6, [69, 65, 66]), (7, [69, 65]), (8, [69])] : List (Int × Str))).isSome) || (decide ((x3.n : Int) ≠ 0) && (!(bL ((lk x3.kind ([(1, [78, 69]), (2, [78, 69, 70]), (3, [69]), (4, []), (5, [69]), (6, [69, 65, 66]), (7, [69, 65]), (8, [69])] : List (Int × Str))).getD []))))) || (decide ((0 : Int) < (x3.e.length : Int)) && (!(dG ((lk x3.kind ([(1, [78, 69]), (2, [78, 69, 70]), (3, [69]), (4, []), (5, [69]), (6, [69, 65, 66]), (7, [69, 65]), (8, [69])] : List (Int × Str))).getD [])))))))) rfl) (aF rfl rfl (fun q => ag Fb rfl) (aF rfl rfl (fun q => az h 8 rfl Be (eu q) rfl) (aF rfl rfl (fun q => bM nZ (eu q) (h.kL 5 rfl)) (aF rfl rfl (fun q => mV (eu q) rfl) (aF rfl rfl (fun q => ah (v := (.bool (decide ((0 : Int) < (x3.f.length : Int))))) (eu q)) (lS ((((!(lk x3.kind ([(1, [78, 69]), (2, [78, 69, 70]), (3, [69]), (4, []), (5, [69]), (6, [69, 65, 66]), (7, [69, 65]), (8, [69])] : List (Int × Str))).isSome) || (decide ((x3.n : Int) ≠ 0) && (!(bL ((lk x3.kind ([(1, [78, 69]), (2, [78, 69, 70]), (3, [69]), (4, []), (5, [69]), (6, [69, 65, 66]), (7, [69, 65]), (8, [69])] : List (Int × Str))).getD []))))) || (decide ((0 : Int) < (x3.e.length : Int)) && (!(dG ((lk x3.kind ([(1, [78, 69]), (2, [78, 69, 70]), (3, [69]), (4, []), (5, [69]), (6, [69, 65, 66]), (7, [69, 65]), (8, [69])] : List (Int × Str))).getD []))))) == false) rfl rfl (fun q => ah (v := (.func (.func 144) #[] #[(.pointer (some ⟨Gd, 0, none⟩))])) rfl) (F7 [(.pointer (some ⟨Gd, 0, none⟩))] ((((!(lk x3.kind ([(1, [78, 69]), (2, [78, 69, 70]), (3, [69]), (4, []), (5, [69]), (6, [69, 65, 66]), (7, [69, 65]), (8, [69])] : List (Int × Str))).isSome) || (decide ((x3.n : Int) ≠ 0) && (!(bL ((lk x3.kind ([(1, [78, 69]), (2, [78, 69, 70]), (3, [69]), (4, []), (5, [69]), (6, [69, 65, 66]), (7, [69, 65]), (8, [69])] : List (Int × Str))).getD []))))) || (decide ((0 : Int) < (x3.e.length : Int)) && (!(dG ((lk x3.kind ([(1, [78, 69]), (2, [78, 69, 70]), (3, [69]), (4, []), (5, [69]), (6, [69, 65, 66]), (7, [69, 65]), (8, [69])] : List (Int × Str))).getD []))))) == false) rfl rfl Ea (fun q => (eu q)) (fun q => jP rfl rfl) (sQ _ _ h.lt ((lk x3.kind ([(1, [78, 69]), (2, [78, 69, 70]), (3, [69]), (4, []), (5, [69]), (6, [69, 65, 66]), (7, [69, 65]), (8, [69])] : List (Int × Str))).getD []) Gd (h.uO 10 rfl) _ rfl) fun w k26 => ?_))))))))))
 replace h := h.grow k26
 refine lS ((((!(lk x3.kind ([(1, [78, 69]), (2, [78, 69, 70]), (3, [69]), (4, []), (5, [69]), (6, [69, 65, 66]), (7, [69, 65]), (8, [69])] : List (Int × Str))).isSome) || (decide ((x3.n : Int) ≠ 0) && (!(bL ((lk x3.kind ([(1, [78, 69]), (2, [78, 69, 70]), (3, [69]), (4, []), (5, [69]), (6, [69, 65, 66]), (7, [69, 65]), (8, [69])] : List (Int × Str))).getD []))))) || (decide ((0 : Int) < (x3.e.length : Int)) && (!(dG ((lk x3.kind ([(1, [78, 69]), (2, [78, 69, 70]), (3, [69]), (4, []), (5, [69]), (6, [69, 65, 66]), (7, [69, 65]), (8, [69])] : List (Int × Str))).getD []))))) == false) rfl rfl (fun q => fw (eu q)) (aF rfl rfl (fun q => fZ (eu q) (TP q) mY) (aa (jD rfl rfl mY) (aa (ah (v := (.bool (((((!(lk x3.kind ([(1, [78, 69]), (2, [78, 69, 70]), (3, [69]), (4, []), (5, [69]), (6, [69, 65, 66]), (7, [69, 65]), (8, [69])] : List (Int × Str))).isSome) || (decide ((x3.n : Int) ≠ 0) && (!(bL ((lk x3.kind ([(1, [78, 69]), (2, [78, 69, 70]), (3, [69]), (4, []), (5, [69]), (6, [69, 65, 66]), (7, [69, 65]), (8, [69])] : List (Int × Str))).getD []))))) || (decide ((0 : Int) < (x3.e.length : Int)) && (!(dG ((lk x3.kind ([(1, [78, 69]), (2, [78, 69, 70]), (3, [69]), (4, []), (5, [69]), (6, [69, 65, 66]), (7, [69, 65]), (8, [69])] : List (Int × Str))).getD []))))) || (decide ((0 : Int) < (x3.f.length : Int)) && (!(eB ((lk x3.kind ([(1, [78, 69]), (2, [78, 69, 70]), (3, [69]), (4, []), (5, [69]), (6, [69, 65, 66]), (7, [69, 65]), (8, [69])] : List (Int × Str))).getD [])))))))) rfl) (aF rfl rfl (fun q => ag CW rfl) (aF rfl rfl (fun q => az h 8 rfl uz (eu q) rfl) (aF rfl rfl (fun q => bM oZ (eu q) (h.kL 6 rfl)) (aF rfl rfl (fun q => mV (eu q) rfl) (aF rfl rfl (fun q => ah (v := (.bool (decide ((0 : Int) < (x3.a.length : Int))))) (eu q)) (lS (((((!(lk x3.kind ([(1, [78, 69]), (2, [78, 69, 70]), (3, [69]), (4, []), (5, [69]), (6, [69, 65, 66]), (7, [69, 65]), (8, [69])] : List (Int × Str))).isSome) || (decide ((x3.n : Int) ≠ 0) && (!(bL ((lk x3.kind ([(1, [78, 69]), (2, [78, 69, 70]), (3, [69]), (4, []), (5, [69]), (6, [69, 65, 66]), (7, [69, 65]), (8, [69])] : List (Int × Str))).getD []))))) || (decide ((0 : Int) < (x3.e.length : Int)) && (!(dG ((lk x3.kind ([(1, [78, 69]), (2, [78, 69, 70]), (3, [69]), (4, []), (5, [69]), (6, [69, 65, 66]), (7, [69, 65]), (8, [69])] : List (Int × Str))).getD []))))) || (decide ((0 : Int) < (x3.f.length : Int)) && (!(eB ((lk x3.kind ([(1, [78, 69]), (2, [78, 69, 70]), (3, [69]), (4, []), (5, [69]), (6, [69, 65, 66]), (7, [69, 65]), (8, [69])] : List (Int × Str))).getD []))))) == false) rfl rfl (fun q => ah (v := (.func (.func 144) #[] #[(.pointer (some ⟨Gd, 0, none⟩))])) rfl) (F7 [(.pointer (some ⟨Gd, 0, none⟩))] (((((!(lk x3.kind ([(1, [78, 69]), (2, [78, 69, 70]), (3, [69]), (4, []), (5, [69]), (6, [69, 65, 66]), (7, [69, 65]), (8, [69])] : List (Int × Str))).isSome) || (decide ((x3.n : Int) ≠ 0) && (!(bL ((lk x3.kind ([(1, [78, 69]), (2, [78, 69, 70]), (3, [69]), (4, []), (5, [69]), (6, [69, 65, 66]), (7, [69, 65]), (8, [69])] : List (Int × Str))).getD []))))) || (decide ((0 : Int) < (x3.e.length : Int)) && (!(dG ((lk x3.kind ([(1, [78, 69]), (2, [78, 69, 70]), (3, [69]), (4, []), (5, [69]), (6, [69, 65, 66]), (7, [69, 65]), (8, [69])] : List (Int × Str))).getD []))))) || (decide ((0 : Int) < (x3.f.length : Int)) && (!(eB ((lk x3.kind ([(1, [78, 69]), (2, [78, 69, 70]), (3, [69]), (4, []), (5, [69]), (6, [69, 65, 66]), (7, [69, 65]), (8, [69])] : List (Int × Str))).getD []))))) == false) rfl rfl Ea (fun q => (eu q)) (fun q => jP rfl rfl) (zx _ _ h.lt ((lk x3.kind ([(1, [78, 69]), (2, [78, 69, 70]), (3, [69]), (4, []), (5, [69]), (6, [69, 65, 66]), (7, [69, 65]), (8, [69])] : List (Int × Str))).getD []) Gd (h.uO 10 rfl) _ rfl) fun w k27 => ?_))))))))))
 replace h := h.grow k27
 refine lS (((((!(lk x3.kind ([(1, [78, 69]), (2, [78, 69, 70]), (3, [69]), (4, []), (5, [69]), (6, [69, 65, 66]), (7, [69, 65]), (8, [69])] : List (Int × Str))).isSome) || (decide ((x3.n : Int) ≠ 0) && (!(bL ((lk x3.kind ([(1, [78, 69]), (2, [78, 69, 70]), (3, [69]), (4, []), (5, [69]), (6, [69, 65, 66]), (7, [69, 65]), (8, [69])] : List (Int × Str))).getD []))))) || (decide ((0 : Int) < (x3.e.length : Int)) && (!(dG ((lk x3.kind ([(1, [78, 69]), (2, [78, 69, 70]), (3, [69]), (4, []), (5, [69]), (6, [69, 65, 66]), (7, [69, 65]), (8, [69])] : List (Int × Str))).getD []))))) || (decide ((0 : Int) < (x3.f.length : Int)) && (!(eB ((lk x3.kind ([(1, [78, 69]), (2, [78, 69, 70]), (3, [69]), (4, []), (5, [69]), (6, [69, 65, 66]), (7, [69, 65]), (8, [69])] : List (Int × Str))).getD []))))) == false) rfl rfl (fun q => fw (eu q)) (aF rfl rfl (fun q => fZ (eu q) (TP q) mY) (aa (jD rfl rfl mY) (aa (ah (v := (.bool ((((((!(lk x3.kind ([(1, [78, 69]), (2, [78, 69, 70]), (3, [69]), (4, []), (5, [69]), (6, [69, 65, 66]), (7, [69, 65]), (8, [69])] : List (Int × Str))).isSome) || (decide ((x3.n : Int) ≠ 0) && (!(bL ((lk x3.kind ([(1, [78, 69]), (2, [78, 69, 70]), (3, [69]), (4, []), (5, [69]), (6, [69, 65, 66]), (7, [69, 65]), (8, [69])] : List (Int × Str))).getD []))))) || (decide ((0 : Int) < (x3.e.length : Int)) && (!(dG ((lk x3.kind ([(1, [78, 69]), (2, [78, 69, 70]), (3, [69]), (4, []), (5, [69]), (6, [69, 65, 66]), (7, [69, 65]), (8, [69])] : List (Int × Str))).getD []))))) || (decide ((0 : Int) < (x3.f.length : Int)) && (!(eB ((lk x3.kind ([(1, [78, 69]), (2, [78, 69, 70]), (3, [69]), (4, []), (5, [69]), (6, [69, 65, 66]), (7, [69, 65]), (8, [69])] : List (Int × Str))).getD []))))) || (decide ((0 : Int) < (x3.a.length : Int)) && (!(iV ((lk x3.kind ([(1, [78, 69]), (2, [78, 69, 70]), (3, [69]), (4, []), (5, [69]), (6, [69, 65, 66]), (7, [69, 65]), (8, [69])] : List (Int × Str))).getD [])))))))) rfl) (aF rfl rfl (fun q => ag CX rfl) (aF rfl rfl (fun q => az h 8 rfl uz (eu q) rfl) (aF rfl rfl (fun q => bM oZ (eu q) (h.kL 7 rfl)) (aF rfl rfl (fun q => mV (eu q) rfl) (aF rfl rfl (fun q => ah (v := (.bool (decide ((0 : Int) < (x3.b.length : Int))))) (eu q)) (lS ((((((!(lk x3.kind ([(1, [78, 69]), (2, [78, 69, 70]), (3, [69]), (4, []), (5, [69]), (6, [69, 65, 66]), (7, [69, 65]), (8, [69])] : List (Int × Str))).isSome) || (decide ((x3.n : Int) ≠ 0) && (!(bL ((lk x3.kind ([(1, [78, 69]), (2, [78, 69, 70]), (3, [69]), (4, []), (5, [69]), (6, [69, 65, 66]), (7, [69, 65]), (8, [69])] : List (Int × Str))).getD []))))) || (decide ((0 : Int) < (x3.e.length : Int)) && (!(dG ((lk x3.kind ([(1, [78, 69]), (2, [78, 69, 70]), (3, [69]), (4, []), (5, [69]), (6, [69, 65, 66]), (7, [69, 65]), (8, [69])] : List (Int × Str))).getD []))))) || (decide ((0 : Int) < (x3.f.length : Int)) && (!(eB ((lk x3.kind ([(1, [78, 69]), (2, [78, 69, 70]), (3, [69]), (4, []), (5, [69]), (6, [69, 65, 66]), (7, [69, 65]), (8, [69])] : List (Int × Str))).getD []))))) || (decide ((0 : Int) < (x3.a.length : Int)) && (!(iV ((lk x3.kind ([(1, [78, 69]), (2, [78, 69, 70]), (3, [69]), (4, []), (5, [69]), (6, [69, 65, 66]), (7, [69, 65]), (8, [69])] : List (Int × Str))).getD []))))) == false) rfl rfl (fun q => ah (v := (.func (.func 144) #[] #[(.pointer (some ⟨Gd, 0, none⟩))])) rfl) (F7 [(.pointer (some ⟨Gd, 0, none⟩))] ((((((!(lk x3.kind ([(1, [78, 69]), (2, [78, 69, 70]), (3, [69]), (4, []), (5, [69]), (6, [69, 65, 66]), (7, [69, 65]), (8, [69])] : List (Int × Str))).isSome) || (decide ((x3.n : Int) ≠ 0) && (!(bL ((lk x3.kind ([(1, [78, 69]), (2, [78, 69, 70]), (3, [69]), (4, []), (5, [69]), (6, [69, 65, 66]), (7, [69, 65]), (8, [69])] : List (Int × Str))).getD []))))) || (decide ((0 : Int) < (x3.e.length : Int)) && (!(dG ((lk x3.kind ([(1, [78, 69]), (2, [78, 69, 70]), (3, [69]), (4, []), (5, [69]), (6, [69, 65, 66]), (7, [69, 65]), (8, [69])] : List (Int × Str))).getD []))))) || (decide ((0 : Int) < (x3.f.length : Int)) && (!(eB ((lk x3.kind ([(1, [78, 69]), (2, [78, 69, 70]), (3, [69]), (4, []), (5, [69]), (6, [69, 65, 66]), (7, [69, 65]), (8, [69])] : List (Int × Str))).getD []))))) || (decide ((0 : Int) < (x3.a.length : Int)) && (!(iV ((lk x3.kind ([(1, [78, 69]), (2, [78, 69, 70]), (3, [69]), (4, []), (5, [69]), (6, [69, 65, 66]), (7, [69, 65]), (8, [69])] : List (Int × Str))).getD []))))) == false) rfl rfl Ea (fun q => (eu q)) (fun q => jP rfl rfl) (zy _ _ h.lt ((lk x3.kind ([(1, [78, 69]), (2, [78, 69, 70]), (3, [69]), (4, []), (5, [69]), (6, [69, 65, 66]), (7, [69, 65]), (8, [69])] : List (Int × Str))).getD []) Gd (h.uO 10 rfl) _ rfl) fun w k28 => ?_))))))))))
 replace h := h.grow k28
 refine lS ((((((!(lk x3.kind ([(1, [78, 69]), (2, [78, 69, 70]), (3, [69]), (4, []), (5, [69]), (6, [69, 65, 66]), (7, [69, 65]), (8, [69])] : List (Int × Str))).isSome) || (decide ((x3.n : Int) ≠ 0) && (!(bL ((lk x3.kind ([(1, [78, 69]), (2, [78, 69, 70]), (3, [69]), (4, []), (5, [69]), (6, [69, 65, 66]), (7, [69, 65]), (8, [69])] : List (Int × Str))).getD []))))) || (decide ((0 : Int) < (x3.e.length : Int)) && (!(dG ((lk x3.kind ([(1, [78, 69]), (2, [78, 69, 70]), (3, [69]), (4, []), (5, [69]), (6, [69, 65, 66]), (7, [69, 65]), (8, [69])] : List (Int × Str))).getD []))))) || (decide ((0 : Int) < (x3.f.length : Int)) && (!(eB ((lk x3.kind ([(1, [78, 69]), (2, [78, 69, 70]), (3, [69]), (4, []), (5, [69]), (6, [69, 65, 66]), (7, [69, 65]), (8, [69])] : List (Int × Str))).getD []))))) || (decide ((0 : Int) < (x3.a.length : Int)) && (!(iV ((lk x3.kind ([(1, [78, 69]), (2, [78, 69, 70]), (3, [69]), (4, []), (5, [69]), (6, [69, 65, 66]), (7, [69, 65]), (8, [69])] : List (Int × Str))).getD []))))) == false) rfl rfl (fun q => fw (eu q)) (aF rfl rfl (fun q => fZ (eu q) (TP q) mY) (aa (jD rfl rfl mY) (nN (aI hs rfl (fun c29 hs => ?_) (fun c29 hs => ?_)))))
 refine nG (aa (ae (v := (I6 4)) rfl) (nR (ay (aB (ay (ay (aB (ay (bR (v := (I6 4)) Tryz.results129 rfl ?_)))))))))
 obtain rfl := fM hs
 exact ⟨h.grown, rfl⟩
 refine aH (ak (aM (nG (aa (ag nC rfl) (aa (az h 8 rfl aR rfl rfl) (aa (bu rfl rfl) (aa (ah (v := (.bool (decide ((x3.kind : Int) = 1)))) rfl) (aF rfl rfl (fun q => ag zt rfl) (aF rfl rfl (fun q => az h 8 rfl aR (eu q) rfl) (aF rfl rfl (fun q => ah (v := (I6 c)) rfl) (zn rfl rfl Bd rfl (fun q => jP (eu q) (jP (eu q) rfl)) (gX _ _ h.lt x3.n c _ rfl) fun w k30 => ?_)))))))))))
 replace h := h.grow k30
 refine aF rfl rfl (fun q => fw (eu q)) (aa (fZ rfl rfl mY) (aa (ah (v := (.bool ((decide ((x3.kind : Int) = 1) && (!(aJ x3.n c)))))) rfl) (aF rfl rfl (fun q => ag nC rfl) (aF rfl rfl (fun q => az h 8 rfl aR (eu q) rfl) (aF rfl rfl (fun q => bu (eu q) rfl) (aF rfl rfl (fun q => ah (v := (.bool (decide ((x3.kind : Int) = 2)))) (eu q)) (lS ((decide ((x3.kind : Int) = 1) && (!(aJ x3.n c))) == false) rfl rfl (fun q => ag zt rfl) (lS ((decide ((x3.kind : Int) = 1) && (!(aJ x3.n c))) == false) rfl rfl (fun q => az h 8 rfl aR (eu q) rfl) (VH ((decide ((x3.kind : Int) = 1) && (!(aJ x3.n c))) == false) rfl rfl rZ rfl (fun q => jP (eu q) (jP rfl (jP rfl rfl))) (eH _ _ h.lt x3.n 0 3 _ rfl) fun w k31 => ?_)))))))))
 replace h := h.grow k31
 refine lS ((decide ((x3.kind : Int) = 1) && (!(aJ x3.n c))) == false) rfl rfl (fun q => fw (eu q)) (aF rfl rfl (fun q => fZ (eu q) (TP q) mY) (aa (jD rfl rfl mY) (nN (aI hs rfl (fun c32 hs => ?_) (fun c32 hs => ?_)))))
 refine nG (aa (ae (v := (I6 3)) rfl) (nR (ay (aB (ay (ay (aB (ay (bR (v := (I6 3)) Tryz.results129 rfl ?_)))))))))
 obtain rfl := fM hs
 exact ⟨h.grown, rfl⟩
 refine nS (aa (ae (v := (I6 0)) rfl) (nN (cu (σ := Int) (inl ([12] ++ rg 105 7)) (fun Da => [(12, (I6 Da))]) (fun Da w => SH w0 M BE w (hset [(1, .sr ik va a), (2, .sr kY vb b), (4, .rd oz DX x3.e), (5, .rd oz zA x3.f), (6, .rd ik EF x3.a), (7, .rd ik RA x3.b), (8, .blk IE [(I6 x3.kind), (I6 x3.n), DX, zA, EF, RA]), (10, .blk Gd [(aV ((lk x3.kind ([(1, [78, 69]), (2, [78, 69, 70]), (3, [69]), (4, []), (5, [69]), (6, [69, 65, 66]), (7, [69, 65]), (8, [69])] : List (Int × Str))).getD []))])]) ∧ pQ N F0 x3 b c a K9 Da = some r) ?_ ?_)))
 rintro Da w dR ⟨h, hs⟩
 refine cu (σ := Int) (inl ([12] ++ rg 112 11)) (fun x34 => [(12, (I6 x34)), (115, (gv (decide ((Da : Int) = 0) == true) (.func (.func 144) #[] #[(.pointer (some ⟨Gd, 0, none⟩))])))]) (fun x34 w => SH w0 M BE w (hset [(1, .sr ik va a), (2, .sr kY vb b), (4, .rd oz DX x3.e), (5, .rd oz zA x3.f), (6, .rd ik EF x3.a), (7, .rd ik RA x3.b), (8, .blk IE [(I6 x3.kind), (I6 x3.n), DX, zA, EF, RA]), (10, .blk Gd [(aV ((lk x3.kind ([(1, [78, 69]), (2, [78, 69, 70]), (3, [69]), (4, []), (5, [69]), (6, [69, 65, 66]), (7, [69, 65]), (8, [69])] : List (Int × Str))).getD []))])]) ∧ pO F0 x3 a b c K9 x34 = some r) ?_ ?_
 rintro x34 w dR ⟨h, hs⟩
 refine cu (σ := Int) (inl ([12] ++ rg 123 7)) (fun CF => [(12, (I6 CF))]) (fun CF w => SH w0 M BE w (hset [(1, .sr ik va a), (2, .sr kY vb b), (4, .rd oz DX x3.e), (5, .rd oz zA x3.f), (6, .rd ik EF x3.a), (7, .rd ik RA x3.b), (8, .blk IE [(I6 x3.kind), (I6 x3.n), DX, zA, EF, RA]), (10, .blk Gd [(aV ((lk x3.kind ([(1, [78, 69]), (2, [78, 69, 70]), (3, [69]), (4, []), (5, [69]), (6, [69, 65, 66]), (7, [69, 65]), (8, [69])] : List (Int × Str))).getD []))])]) ∧ pM F0 x3 b c K9 CF = some r) ?_ ?_
 rintro CF w dR ⟨h, hs⟩
 refine cu (σ := Int) (inl ([12] ++ rg 130 7)) (fun jb => [(12, (I6 jb))]) (fun jb w => SH w0 M BE w (hset [(1, .sr ik va a), (2, .sr kY vb b), (10, .blk Gd [(aV ((lk x3.kind ([(1, [78, 69]), (2, [78, 69, 70]), (3, [69]), (4, []), (5, [69]), (6, [69, 65, 66]), (7, [69, 65]), (8, [69])] : List (Int × Str))).getD []))])]) ∧ pK K9 jb = some r) ?_ ?_
 rintro jb w dR ⟨h, hs⟩
 refine nG (aa (ah (v := (I6 jb)) rfl) (aa (gM rfl rfl) (nN (aI hs rfl (fun c37 hs => ?_) (fun c37 hs => ?_)))))
 refine nG (aa (ah (v := (I6 jb)) rfl) (aa (ae (v := (I6 jb)) rfl) (nR (aB (ay (ay (aB (ay (bR (v := (I6 jb)) Tryz.results129 rfl ?_)))))))))
 obtain rfl := fM hs
 exact ⟨h.grown, rfl⟩
 refine aH (ax (ak (aD (aa (dQ rfl rfl e7r) (aa (ah (v := (I6 ((i2 + 1)))) rfl) (aA (au ?_)))))))
 subst hnx5
 exact jM ⟨k1 + 1, i2 + 1⟩ ⟨h.cn _, by omega, hs⟩ (by have := oD e6; dsimp only; omega)
 refine nG (aa (ah (v := (I6 CF)) rfl) (aa (bu rfl rfl) (nN (aI hs rfl (fun G7 hs => ?_) (fun G7 hs => ?_)))))
 refine aD (aa (ag CX rfl) (aa (az h 8 rfl uz rfl rfl) (aa (ah (v := vb) rfl) (aa (ah (v := (I6 c)) rfl) ?_))))
 obtain ⟨y39, e40, hs⟩ := aL hs
 refine aW Qm rfl rfl (ih _ _ h.lt RA x3.b (h.kL 7 rfl) vb b (h.gV 2 rfl) c _ e40) ?_
 rintro _ w ⟨k41, rfl⟩
 refine ⟨_, rfl, ?_⟩
 replace h := h.grow k41
 refine aa (ae (v := (I6 y39)) rfl) (aA (au ?_))
 exact bS y39 ⟨h.cn _, hs⟩
 refine aH (au ?_)
 exact bS CF ⟨h.cn _, hs⟩
 refine nG (aa (ah (v := (I6 x34)) rfl) (aa (bu rfl rfl) (nN (aI hs rfl (fun c42 hs => ?_) (fun c42 hs => ?_)))))
 refine aD (aa (ag CW rfl) (aa (az h 8 rfl uz rfl rfl) (aa (ah (v := vb) rfl) (aa (ah (v := (I6 c)) rfl) ?_))))
 obtain ⟨Ed, e44, hs⟩ := aL hs
 refine aW Qm rfl rfl (ih _ _ h.lt EF x3.a (h.kL 6 rfl) vb b (h.gV 2 rfl) c _ e44) ?_
 rintro _ w ⟨k45, rfl⟩
 refine ⟨_, rfl, ?_⟩
 replace h := h.grow k45
 refine aa (ae (v := (I6 Ed)) rfl) (aA (au ?_))
 exact bS Ed ⟨h.cn _, hs⟩
 refine aH (au ?_)
 exact bS x34 ⟨h.cn _, hs⟩
 refine nG (aa (ah (v := (I6 Da)) rfl) (aa (bu rfl rfl) (aa (ah (v := (.bool (decide ((Da : Int) = 0)))) rfl) (aF rfl rfl (fun q => ah (v := (.func (.func 144) #[] #[(.pointer (some ⟨Gd, 0, none⟩))])) rfl) (Ml [(.pointer (some ⟨Gd, 0, none⟩))] rfl rfl Ea (fun q => (eu q)) (fun q => jP rfl rfl) (sQ _ _ h.lt ((lk x3.kind ([(1, [78, 69]), (2, [78, 69, 70]), (3, [69]), (4, []), (5, [69]), (6, [69, 65, 66]), (7, [69, 65]), (8, [69])] : List (Int × Str))).getD []) Gd (h.uO 10 rfl) _ rfl) fun w k46 => ?_)))))
 replace h := h.grow k46
 refine aa (fZ rfl rfl mY) (nN (aI hs rfl (fun Uh hs => ?_) (fun Uh hs => ?_)))
 refine aD (aa (ag Fb rfl) (aa (az h 8 rfl Be rfl rfl) (aa (ah (v := vb) rfl) (aa (ah (v := (I6 c)) rfl) ?_))))
 obtain ⟨qj, e49, hs⟩ := aL hs
 refine aW VY rfl rfl (xk N _ _ h.lt zA x3.f (h.kL 5 rfl) vb b (h.gV 2 rfl) c _ e49) ?_
 rintro _ w ⟨V5, rfl⟩
 refine ⟨_, rfl, ?_⟩
 replace h := h.grow V5
 refine aa (ae (v := (I6 qj)) rfl) (aA (au ?_))
 exact bS qj ⟨h.cn _, hs⟩
 refine aH (au ?_)
 exact bS Da ⟨h.cn _, hs⟩
 refine nG (aa (ah (v := (.func (.func 144) #[] #[(.pointer (some ⟨Gd, 0, none⟩))])) rfl) (jY (args := [(aV [69]), (.pointer (some ⟨Gd, 0, none⟩))]) Ea rfl rfl (aQ (args := [(aV [69]), (.pointer (some ⟨Gd, 0, none⟩))]) Tryz.func144 rfl Tryz.ntmps144 (bD rfl) (nG (aa (ae (v := (.bool (false))) rfl) (nJ (aa (az h 10 rfl CZ rfl rfl) (aa (ah (v := (aV [69])) rfl) (aW Gb rfl rfl (mP _ _ h.lt ((lk x3.kind ([(1, [78, 69]), (2, [78, 69, 70]), (3, [69]), (4, []), (5, [69]), (6, [69, 65, 66]), (7, [69, 65]), (8, [69])] : List (Int × Str))).getD []) 69 _ rfl) ?_)))))))))
 rintro _ w ⟨k51, rfl⟩
 refine ⟨_, rfl, ?_⟩
 replace h := h.grow k51
 refine aa (ae (v := (.bool ((hasB ((lk x3.kind ([(1, [78, 69]), (2, [78, 69, 70]), (3, [69]), (4, []), (5, [69]), (6, [69, 65, 66]), (7, [69, 65]), (8, [69])] : List (Int × Str))).getD []) 69)))) rfl) (nR (bR (v := (.bool ((hasB ((lk x3.kind ([(1, [78, 69]), (2, [78, 69, 70]), (3, [69]), (4, []), (5, [69]), (6, [69, 65, 66]), (7, [69, 65]), (8, [69])] : List (Int × Str))).getD []) 69)))) Tryz.results144 rfl (⟨_, rfl, ?_⟩)))
 refine nN (aI hs rfl (fun G8 hs => ?_) (fun G8 hs => ?_))
 refine aD (aa (ag CV rfl) (aa (az h 8 rfl Be rfl rfl) (aa (ah (v := vb) rfl) (aa (ah (v := (I6 c)) rfl) ?_))))
 obtain ⟨AR, e54, hs⟩ := aL hs
 refine aW VY rfl rfl (xk N _ _ h.lt DX x3.e (h.kL 4 rfl) vb b (h.gV 2 rfl) c _ e54) ?_
 rintro _ w ⟨k55, rfl⟩
 refine ⟨_, rfl, ?_⟩
 replace h := h.grow k55
 refine aa (ae (v := (I6 AR)) rfl) (aA (au ?_))
 exact bS AR ⟨h.cn _, hs⟩
 refine aH (au ?_)
 exact bS 0 ⟨h.cn _, hs⟩
 rw [fH (hik ▸ e6), fO] at hs
 refine nE (aa (ae (v := (I6 0)) rfl) (nR (bR (v := (I6 0)) Tryz.results129 rfl ?_)))
 obtain rfl := fM hs
 exact ⟨h.grown, rfl⟩
def pV (N : Nat) (a : List iO) (uM : iO) (s : Unit) (Db : Unit → Option Int) : Option Int :=
  (qX N uM.body 4).bind fun ql => bif (!ql.2) then some 2 else (lW N uM.body a uM.locals).bind fun y40 => bif decide ((y40 : Int) ≠ 0) then some y40 else Db ()
def pW (s : Unit) : Option Int :=
  some 0
def pX (i4 : Int) (x5 : iO) (s : Unit) (nx7 : Unit → Option Int) : Option Int :=
  bif (((!(aO x5.params 0 3)) || (!(aO x5.locals x5.params 6))) || (decide ((i4 : Int) = 0) && decide ((x5.params : Int) ≠ 0))) then some 3 else nx7 ()
def pY (N : Nat) (a : List iO) (s : Unit) : Option Int :=
  each (pV N a) pW a ()
def xm (N : Nat) (a : List iO) : Option Int :=
  bif (!(aO (a.length : Int) 1 4)) then some 2 else dZ pX (pY N a) 0 a ()
theorem BR (N : Nat) (w0 : World) (M : BS) (hM : ∀ b, M b → b < w0.heap.size) (va : Value) (a : List iO) (ha : gB kY w0 BE M va a) (r : Int) (hs : xm N a = some r) :
    Calls Tryz.prog 112 #[va] w0 (fun e w' => Grow w0 w' ∧ e = .returned (.int .i64 r)) := by
 refine aQ (args := [va]) Tryz.func112 rfl Tryz.ntmps112 (bD rfl) ?_
 have h := SH.init hM
 replace h := h.fE 1 ha bA
 have uU := ha.bT
 refine nG (aa (ae (v := (I6 0)) rfl) (nK (aa (ah (v := va) rfl) (aa (bM kE rfl (h.gV 1 rfl)) (aW rZ rfl rfl (eH _ _ h.lt (a.length : Int) 1 4 _ rfl) ?_)))))
 rintro _ w ⟨k1, rfl⟩
 refine ⟨_, rfl, ?_⟩
 replace h := h.grow k1
 refine aa (fw rfl) (nN (aI hs rfl (fun c2 hs => ?_) (fun c2 hs => ?_)))
 refine nG (aa (ae (v := (I6 2)) rfl) (nR (ay (bR (v := (I6 2)) Tryz.results112 rfl ?_))))
 obtain rfl := fM hs
 exact ⟨h.grown, rfl⟩
 refine aH (ak (aM (nG (aa (ah (v := va) rfl) (aa (bM kE rfl (h.gV 1 rfl)) (aa (ah (v := (I6 0)) rfl) (nN (aN (gD (σ := Nat × Int) (inl ([2, 3, 4] ++ rg 16 27)) (fun ⟨k3, i4⟩ => [(16, (I6 i4))]) (fun ⟨k3, i4⟩ w => SH w0 M BE w (hset [(1, .sr kY va a)]) ∧ i4 = (k3 : Int) ∧ dZ pX (pY N a) i4 (a.drop k3) () = some r) (fun ⟨k3, i4⟩ => a.length - k3) ⟨0, 0⟩ ⟨rfl, trivial⟩ ?_ ?_)))))))))
 exact ⟨h.cn _, rfl, hs⟩
 rintro ⟨k3, i4⟩ w dR ⟨h, hik, hs⟩
 refine nG ?_
 refine aa (eO rfl rfl) (nN ?_)
 refine aM (gQ rfl (fun e8 => ?_) (fun e8 => ?_))
 refine aH (ak ?_)
 obtain ⟨x5, e9a, e9b⟩ := fG (hik ▸ e8)
 rw [e9b, iQ] at hs
 generalize hnx7 : dZ pX (pY N a) (i4 + 1) (a.drop (k3 + 1)) = nx7 at hs
 have e9r := fJ ((h.gV 1 rfl)).bT hik e8
 refine aM (aN (nG (aa (ah (v := (I6 i4)) rfl) ?_)))
 obtain ⟨b11, o12, cs13, h, r14, i10⟩ := h.xI 1 2 rfl kE rfl (ig hik) (fI hik e9a)
 obtain ⟨zA, rfl, g16⟩ := w9 r14
 replace h := h.dh 3 g16.up
 refine aa (i10 _ _ _ _ _ _ _ _ _ rfl rfl) (aa (jc (k := 0) (vs := [(I6 x5.params), (I6 x5.locals), zA]) h 2 rfl qi rfl rfl rfl (bD rfl)) (bI h 4 qi fun w b17 h => aa (ae (v := (I6 i4)) rfl) (dK (vs := [(I6 x5.params), (I6 x5.locals), zA]) h 4 [(I6 x5.params), (I6 x5.locals), zA] rfl qi rfl rfl rfl rfl rfl (ai rfl (ai rfl (ai (h.iN 3 rfl).one aS))) fun w h => nJ (aa (ag zq rfl) (aa (az h 4 rfl aR rfl rfl) (aW rZ rfl rfl (eH _ _ h.lt x5.params 0 3 _ rfl) ?_))))))
 rintro _ w ⟨k18, rfl⟩
 refine ⟨_, rfl, ?_⟩
 replace h := h.grow k18
 refine aa (fw rfl) (aa (ah (v := (.bool ((!(aO x5.params 0 3))))) rfl) (aF rfl rfl (fun q => ag CU rfl) (aF rfl rfl (fun q => az h 4 rfl aR (eu q) rfl) (aF rfl rfl (fun q => ag zq rfl) (aF rfl rfl (fun q => az h 4 rfl aR (eu q) rfl) (zn rfl rfl rZ rfl (fun q => jP (eu q) (jP (eu q) (jP rfl rfl))) (eH _ _ h.lt x5.locals x5.params 6 _ rfl) fun w k19 => ?_))))))
 replace h := h.grow k19
 refine aF rfl rfl (fun q => fw (eu q)) (aa (jD rfl rfl mY) (aa (ah (v := (.bool (((!(aO x5.params 0 3)) || (!(aO x5.locals x5.params 6)))))) rfl) (aF rfl rfl (fun q => ah (v := (I6 i4)) rfl) (aF rfl rfl (fun q => bu (eu q) rfl) (aF rfl rfl (fun q => ah (v := (.bool (decide ((i4 : Int) = 0)))) (eu q)) (lS (((!(aO x5.params 0 3)) || (!(aO x5.locals x5.params 6))) == false) rfl rfl (fun q => ag zq rfl) (lS (((!(aO x5.params 0 3)) || (!(aO x5.locals x5.params 6))) == false) rfl rfl (fun q => az h 4 rfl aR (eu q) rfl) (lS (((!(aO x5.params 0 3)) || (!(aO x5.locals x5.params 6))) == false) rfl rfl (fun q => gM (eu q) rfl) (aF rfl rfl (fun q => fZ (eu q) (TP q) mY) (aa (jD rfl rfl mY) (nN (aI hs rfl (fun c20 hs => ?_) (fun c20 hs => ?_)))))))))))))
 refine nG (aa (ae (v := (I6 3)) rfl) (nR (aB (ay (ay (aB (ay (bR (v := (I6 3)) Tryz.results112 rfl ?_))))))))
 obtain rfl := fM hs
 exact ⟨h.grown, rfl⟩
 refine aH (ax (ak (aD (aa (dQ rfl rfl e9r) (aa (ah (v := (I6 ((i4 + 1)))) rfl) (aA (au ?_)))))))
 subst hnx7
 exact jM ⟨k3 + 1, i4 + 1⟩ ⟨h.cn _, by omega, hs⟩ (by have := oD e8; dsimp only; omega)
 rw [fH (hik ▸ e8), ll] at hs
 refine jl (bQ (bQ (fq (ak (aM (nG (aa (ah (v := va) rfl) (aa (bM kE rfl (h.gV 1 rfl)) (aa (ah (v := (I6 0)) rfl) (nN (aN (gD (σ := Nat × Int) (inl ([2, 6, 7, 8, 9] ++ rg 45 22)) (fun ⟨k21, i22⟩ => [(45, (I6 i22))]) (fun ⟨k21, i22⟩ w => SH w0 M BE w (hset [(1, .sr kY va a)]) ∧ i22 = (k21 : Int) ∧ each (pV N a) pW (a.drop k21) () = some r) (fun ⟨k21, i22⟩ => a.length - k21) ⟨0, 0⟩ ⟨rfl, trivial⟩ ?_ ?_))))))))))))
 exact ⟨h.cn _, rfl, hs⟩
 rintro ⟨k21, i22⟩ w dR ⟨h, hik, hs⟩
 refine nG ?_
 refine aa (eO rfl rfl) (nN ?_)
 refine aM (gQ rfl (fun e26 => ?_) (fun e26 => ?_))
 refine aH (ak ?_)
 obtain ⟨uM, e27a, e27b⟩ := fG (hik ▸ e26)
 rw [e27b, dU] at hs
 generalize hnx25 : each (pV N a) pW (a.drop (k21 + 1)) = Db at hs
 have e27r := fJ ((h.gV 1 rfl)).bT hik e26
 refine aM (aN (nG ?_))
 obtain ⟨b29, o30, cs31, h, r32, i28⟩ := h.xI 1 5 rfl kE rfl (ig hik) (fI hik e27a)
 obtain ⟨u33, rfl, g34⟩ := w9 r32
 replace h := h.dh 6 g34.up
 refine aa (i28 _ _ _ _ _ _ _ _ _ rfl rfl) (aa (jc (k := 0) (vs := [(I6 uM.params), (I6 uM.locals), u33]) h 5 rfl qi rfl rfl rfl (bD rfl)) (bI h 7 qi fun w b35 h => dK (vs := [(I6 uM.params), (I6 uM.locals), u33]) h 7 [(I6 uM.params), (I6 uM.locals), u33] rfl qi rfl rfl rfl rfl rfl (ai rfl (ai rfl (ai (h.iN 6 rfl).one aS))) fun w h => nK (aa (ag Fa rfl) (aa (az h 7 rfl uz rfl rfl) ?_))))
 obtain ⟨ql, e37, hs⟩ := aL hs
 refine aW VX rfl rfl (GA N _ _ h.lt u33 uM.body (h.kL 6 rfl) 4 _ e37) ?_
 rintro _ w ⟨V6, rfl⟩
 refine ⟨_, rfl, ?_⟩
 replace h := h.grow V6
 refine aa (ah (v := (.tuple #[(I6 ql.1), (.bool (ql.2))])) rfl) (aa (bg rfl rfl) (aa (bg rfl rfl) (aa (ae (v := (I6 ql.1)) rfl) (aa (ae (v := (.bool (ql.2))) rfl) (nJ (aa (ah (v := (.bool (ql.2))) rfl) (aa (fw rfl) (nN (aI hs rfl (fun c39 hs => ?_) (fun c39 hs => ?_))))))))))
 refine nG (aa (ae (v := (I6 2)) rfl) (nR (ay (aB (ay (ay (aB (ay (bR (v := (I6 2)) Tryz.results112 rfl ?_)))))))))
 obtain rfl := fM hs
 exact ⟨h.grown, rfl⟩
 refine nS (aa (ag Fa rfl) (aa (az h 7 rfl uz rfl rfl) (aa (ah (v := va) rfl) (aa (ag CU rfl) (aa (az h 7 rfl aR rfl rfl) ?_)))))
 obtain ⟨y40, e41, hs⟩ := aL hs
 refine aW Qm rfl rfl (Cr N _ _ h.lt u33 uM.body (h.kL 6 rfl) va a (h.gV 1 rfl) uM.locals _ e41) ?_
 rintro _ w ⟨Qw, rfl⟩
 refine ⟨_, rfl, ?_⟩
 replace h := h.grow Qw
 refine aa (ae (v := (I6 y40)) rfl) (nJ (aa (ah (v := (I6 y40)) rfl) (aa (gM rfl rfl) (nN (aI hs rfl (fun c43 hs => ?_) (fun c43 hs => ?_))))))
 refine nG (aa (ah (v := (I6 y40)) rfl) (aa (ae (v := (I6 y40)) rfl) (nR (aB (ay (ay (aB (ay (bR (v := (I6 y40)) Tryz.results112 rfl ?_)))))))))
 obtain rfl := fM hs
 exact ⟨h.grown, rfl⟩
 refine aH (ax (ak (aD (aa (dQ rfl rfl e27r) (aa (ah (v := (I6 ((i22 + 1)))) rfl) (aA (au ?_)))))))
 subst hnx25
 exact jM ⟨k21 + 1, i22 + 1⟩ ⟨h.cn _, by omega, hs⟩ (by have := oD e26; dsimp only; omega)
 rw [fH (hik ▸ e26), fO] at hs
 refine nE (aa (ae (v := (I6 0)) rfl) (nR (bR (v := (I6 0)) Tryz.results112 rfl ?_)))
 obtain rfl := fM hs
 exact ⟨h.grown, rfl⟩
theorem xR (w0 : World) (M : BS) (hM : ∀ b, M b → b < w0.heap.size) (hT : zo Tryz.prog 4 w0) (a : Int) (r : Str) (hs : OG a = some r) :
    Calls Tryz.prog 125 #[.int .i64 a] w0 (fun e w' => Grow w0 w' ∧ e = .returned (aV r)) :=
  itoa_w Tryz.strconv_Itoa hT hs
theorem Dc (w0 : World) (M : BS) (hM : ∀ b, M b → b < w0.heap.size) (hT : zo Tryz.prog 4 w0) (a : Str) (r : List Str) (hs : IU a = some r) :
    Calls Tryz.prog 111 #[aV a] w0 (fun e w' => Grow w0 w' ∧ ∃ u, e = .returned u ∧ iL sO w' M u r) :=
  Zy Tryz.strings_Fields (q := 0) (by kernel_rfl) hM hT hs
def ma (a : Tok) : Option Str :=
  (OG a.n).bind fun y2 => bif decide ((a.kind : Int) = 2) then iK ([118].length + y2.length ≤ 9223372036854775807) (some ([118] ++ y2)) else bif decide ((a.kind : Int) = 3) then iK (kJ (a.n + 1)) ((subs? [63, 43, 45, 42, 60, 61] a.n (a.n + 1)).bind fun x9 => some x9) else bif decide ((a.kind : Int) = 4) then iK ([46].length + y2.length ≤ 9223372036854775807) (some ([46] ++ y2)) else bif decide ((a.kind : Int) = 5) then iK ([110, 101, 119].length + y2.length ≤ 9223372036854775807) (some ([110, 101, 119] ++ y2)) else bif decide ((a.kind : Int) = 6) then iK ([102].length + y2.length ≤ 9223372036854775807) (some ([102] ++ y2)) else some y2
theorem uB (w0 : World) (M : BS) (hM : ∀ b, M b → b < w0.heap.size) (hT : zo Tryz.prog 4 w0) (a : Tok) (r : Str) (hs : ma a = some r) :
    Calls Tryz.prog 106 #[(.agg #[(I6 a.kind), (I6 a.n)])] w0 (fun e w' => Grow w0 w' ∧ e = .returned (aV r)) := by
 refine aQ (args := [(.agg #[(I6 a.kind), (I6 a.n)])]) Tryz.func106 rfl Tryz.ntmps106 (bD rfl) ?_
 have h := SH.init hM
 refine nG (kM (cs := [(I6 a.kind), (I6 a.n)]) h 1 rfl rfl fun w b1 h => aa (ae (v := (aV [])) rfl) (nJ (aa (ag rY rfl) (aa (az h 1 rfl aR rfl rfl) ?_))))
 obtain ⟨y2, e3, hs⟩ := aL hs
 refine aW LW rfl rfl (xR _ _ h.lt (hT.go h.keep) a.n _ e3) ?_
 rintro _ w ⟨k4, rfl⟩
 refine ⟨_, rfl, ?_⟩
 replace h := h.grow k4
 refine aa (ae (v := (aV y2)) rfl) (nK (aa (ag IZ rfl) (aa (az h 1 rfl aR rfl rfl) (nN (aN (nG (aa (bu rfl rfl) (aa (ae (v := (.bool (decide ((a.kind : Int) = 2)))) rfl) (nN (aI hs rfl (fun c5 hs => ?_) (fun c5 hs => ?_)))))))))))
 refine nG (aa (ah (v := (aV y2)) rfl) ?_)
 obtain ⟨a6, hs⟩ := bG hs
 refine aa (qC rfl rfl a6) (aa (ae (v := (aV ([118] ++ y2))) rfl) (nR (aB (ay (bR (v := (aV ([118] ++ y2))) Tryz.results106 rfl ?_)))))
 obtain rfl := fM hs
 exact ⟨h.grown, rfl⟩
 refine nG (aa (bu rfl rfl) (aa (ae (v := (.bool (decide ((a.kind : Int) = 3)))) rfl) (nN (aI hs rfl (fun c7 hs => ?_) (fun c7 hs => ?_)))))
 refine nG (aa (ag rY rfl) (aa (az h 1 rfl aR rfl rfl) (aa (ag rY rfl) (aa (az h 1 rfl aR rfl rfl) ?_))))
 obtain ⟨a8, hs⟩ := bG hs
 refine aa (dQ rfl rfl a8) ?_
 obtain ⟨x9, e10, hs⟩ := aL hs
 obtain ⟨e11a, e11b, e11c, e11⟩ := TS e10
 refine aa (TR e11 Tryz.underlying9 rfl (.inr (congrArg some rfl)) (.inr (congrArg some rfl)) e11a e11b e11c) (aa (ae (v := (aV x9)) rfl) (nR (aB (ay (bR (v := (aV x9)) Tryz.results106 rfl ?_)))))
 obtain rfl := fM hs
 exact ⟨h.grown, rfl⟩
 refine nG (aa (bu rfl rfl) (aa (ae (v := (.bool (decide ((a.kind : Int) = 4)))) rfl) (nN (aI hs rfl (fun c12 hs => ?_) (fun c12 hs => ?_)))))
 refine nG (aa (ah (v := (aV y2)) rfl) ?_)
 obtain ⟨a13, hs⟩ := bG hs
 refine aa (qC rfl rfl a13) (aa (ae (v := (aV ([46] ++ y2))) rfl) (nR (aB (ay (bR (v := (aV ([46] ++ y2))) Tryz.results106 rfl ?_)))))
 obtain rfl := fM hs
 exact ⟨h.grown, rfl⟩
 refine nG (aa (bu rfl rfl) (aa (ae (v := (.bool (decide ((a.kind : Int) = 5)))) rfl) (nN (aI hs rfl (fun c14 hs => ?_) (fun c14 hs => ?_)))))
 refine nG (aa (ah (v := (aV y2)) rfl) ?_)
 obtain ⟨a15, hs⟩ := bG hs
 refine aa (qC rfl rfl a15) (aa (ae (v := (aV ([110, 101, 119] ++ y2))) rfl) (nR (aB (ay (bR (v := (aV ([110, 101, 119] ++ y2))) Tryz.results106 rfl ?_)))))
 obtain rfl := fM hs
 exact ⟨h.grown, rfl⟩
 refine nG (aa (bu rfl rfl) (aa (ae (v := (.bool (decide ((a.kind : Int) = 6)))) rfl) (nN (aI hs rfl (fun c16 hs => ?_) (fun c16 hs => ?_)))))
 refine nG (aa (ah (v := (aV y2)) rfl) ?_)
 obtain ⟨a17, hs⟩ := bG hs
 refine aa (qC rfl rfl a17) (aa (ae (v := (aV ([102] ++ y2))) rfl) (nR (aB (ay (bR (v := (aV ([102] ++ y2))) Tryz.results106 rfl ?_)))))
 obtain rfl := fM hs
 exact ⟨h.grown, rfl⟩
 refine aH (ax (ak (nG (aa (ah (v := (aV y2)) rfl) (aa (ae (v := (aV y2)) rfl) (nR (bR (v := (aV y2)) Tryz.results106 rfl ?_)))))))
 obtain rfl := fM hs
 exact ⟨h.grown, rfl⟩
def r9 (x7 : Tok) (x4 : Str) (LY : Str → Option Str) : Option Str :=
  (ma x7).bind fun N7 => iK ([32].length + N7.length ≤ 9223372036854775807) (iK (x4.length + ([32] ++ N7).length ≤ 9223372036854775807) (LY (x4 ++ ([32] ++ N7))))
def si (x4 : Str) : Option Str :=
  some x4
def uV (a : List Tok) : Option Str :=
  each r9 si a []
theorem xS (w0 : World) (M : BS) (hM : ∀ b, M b → b < w0.heap.size) (hT : zo Tryz.prog 4 w0) (va : Value) (a : List Tok) (ha : gB oz w0 BE M va a) (r : Str) (hs : uV a = some r) :
    Calls Tryz.prog 147 #[va] w0 (fun e w' => Grow w0 w' ∧ e = .returned (aV r)) := by
 refine aQ (args := [va]) Tryz.func147 rfl Tryz.ntmps147 (bD rfl) ?_
 have h := SH.init hM
 replace h := h.fE 1 ha bA
 have uU := ha.bT
 refine nG (aa (ae (v := (aV [])) rfl) (nJ (aa (ae (v := (aV [])) rfl) (nK (aa (ah (v := va) rfl) (aa (bM nZ rfl (h.gV 1 rfl)) (aa (ah (v := (I6 0)) rfl) (nN (aN (gD (σ := Nat × Int × Str) (inl ([3, 5] ++ rg 8 10)) (fun ⟨k5, i6, x4⟩ => [(3, (aV x4)), (8, (I6 i6))]) (fun ⟨k5, i6, x4⟩ w => SH w0 M BE w (hset [(1, .sr oz va a)]) ∧ i6 = (k5 : Int) ∧ each r9 si (a.drop k5) x4 = some r) (fun ⟨k5, i6, x4⟩ => a.length - k5) ⟨0, 0, []⟩ ⟨rfl, rfl, trivial⟩ ?_ ?_))))))))))
 exact ⟨h.cn _, rfl, hs⟩
 rintro ⟨k5, i6, x4⟩ w dR ⟨h, hik, hs⟩
 refine nG ?_
 refine aa (eO rfl rfl) (nN ?_)
 refine aM (gQ rfl (fun e10 => ?_) (fun e10 => ?_))
 refine aH (ak ?_)
 obtain ⟨x7, e11a, e11b⟩ := fG (hik ▸ e10)
 rw [e11b, dU] at hs
 generalize hnx9 : each r9 si (a.drop (k5 + 1)) = LY at hs
 have e11r := fJ ((h.gV 1 rfl)).bT hik e10
 refine aM (aN (nG ?_))
 obtain ⟨b13, o14, cs15, h, r16, i12⟩ := h.xI 1 2 rfl nZ rfl (ig hik) (fI hik e11a)
 obtain rfl := r16
 refine aa (i12 _ _ _ _ _ _ _ _ _ rfl rfl) (aa (jc (k := 0) (vs := [(I6 x7.kind), (I6 x7.n)]) h 2 rfl nQ rfl rfl rfl (bD rfl)) (bI h 3 nQ fun w b17 h => dK (vs := [(I6 x7.kind), (I6 x7.n)]) h 3 [(I6 x7.kind), (I6 x7.n)] rfl nQ rfl rfl rfl rfl rfl (ai rfl (ai rfl aS)) fun w h => nN (aD (aa (ah (v := (aV x4)) rfl) (aa (bU (vs := [(I6 x7.kind), (I6 x7.n)]) h 3 rfl nQ rfl rfl rfl) ?_)))))
 obtain ⟨N7, e19, hs⟩ := aL hs
 refine aW Qj rfl rfl (uB _ _ h.lt (hT.go h.keep) x7 _ e19) ?_
 rintro _ w ⟨k20, rfl⟩
 refine ⟨_, rfl, ?_⟩
 replace h := h.grow k20
 obtain ⟨a21, hs⟩ := bG hs
 refine aa (qC rfl rfl a21) ?_
 obtain ⟨a22, hs⟩ := bG hs
 refine aa (qC rfl rfl a22) (aa (ae (v := (aV (x4 ++ ([32] ++ N7)))) rfl) (aA (ax (ak (aD (aa (dQ rfl rfl e11r) (aa (ah (v := (I6 ((i6 + 1)))) rfl) (aA (au ?_)))))))))
 subst hnx9
 exact jM ⟨k5 + 1, i6 + 1, (x4 ++ ([32] ++ N7))⟩ ⟨h.cn _, by omega, hs⟩ (by have := oD e10; dsimp only; omega)
 rw [fH (hik ▸ e10), fO] at hs
 refine nE (aa (ah (v := (aV x4)) rfl) (aa (ae (v := (aV x4)) rfl) (nR (bR (v := (aV x4)) Tryz.results147 rfl ?_))))
 obtain rfl := fM hs
 exact ⟨h.grown, rfl⟩
def qD (LY : Str → Option Str) (vY : Str) : Option Str :=
  LY vY
def qE (F0 : List cO → Option Str) (x7 : cO) (LY : Str → Option Str) (x34 : Str) : Option Str :=
  bif decide ((x7.kind : Int) = 6) then (F0 x7.b).bind fun ql => iK ([32].length + ql.length ≤ 9223372036854775807) (iK (x34.length + ([32] ++ ql).length ≤ 9223372036854775807) (qD LY (x34 ++ ([32] ++ ql)))) else qD LY x34
def qF (F0 : List cO → Option Str) (x7 : cO) (a : List cO) (LY : Str → Option Str) (x30 : Str) : Option Str :=
  (uV x7.e).bind fun uW => (uV x7.f).bind fun uX => iK (uW.length + uX.length ≤ 9223372036854775807) (iK (x30.length + (uW ++ uX).length ≤ 9223372036854775807) (bif (decide ((x7.kind : Int) = 6) || decide ((x7.kind : Int) = 7)) then (F0 x7.a).bind fun Bf => iK ([32].length + Bf.length ≤ 9223372036854775807) (iK ((x30 ++ (uW ++ uX)).length + ([32] ++ Bf).length ≤ 9223372036854775807) (qE F0 x7 LY ((x30 ++ (uW ++ uX)) ++ ([32] ++ Bf)))) else qE F0 x7 LY (x30 ++ (uW ++ uX))))
def qG (F0 : List cO → Option Str) (a : List cO) (x7 : cO) (x4 : Str) (LY : Str → Option Str) : Option Str :=
  iK (kJ (x7.kind - 1)) ((IU [115, 101, 116, 32, 112, 117, 116, 32, 115, 97, 121, 32, 112, 97, 117, 115, 101, 32, 103, 111, 32, 105, 102, 32, 119, 104, 105, 108, 101, 32, 114, 101, 116, 117, 114, 110]).bind fun RB => (idx RB (x7.kind - 1)).bind fun uY => iK ([32].length + uY.length ≤ 9223372036854775807) (iK (x4.length + ([32] ++ uY).length ≤ 9223372036854775807) (bif decide ((x7.kind : Int) ≤ 2) then (OG x7.n).bind fun qj => iK ([32].length + qj.length ≤ 9223372036854775807) (iK ((x4 ++ ([32] ++ uY)).length + ([32] ++ qj).length ≤ 9223372036854775807) (qF F0 x7 a LY ((x4 ++ ([32] ++ uY)) ++ ([32] ++ qj)))) else qF F0 x7 a LY (x4 ++ ([32] ++ uY)))))
def qH (x4 : Str) : Option Str :=
  iK (x4.length + [32, 125].length ≤ 9223372036854775807) (some (x4 ++ [32, 125]))
def xn (F0 : List cO → Option Str) (a : List cO) : Option Str :=
  each (qG F0 a) qH a [123]
def mD : Nat → List cO → Option Str
  | 0 => fun _ => none
  | N + 1 => xn (mD N)
theorem De : ∀ (N : Nat) (w0 : World) (M : BS) (hM : ∀ b, M b → b < w0.heap.size) (hT : zo Tryz.prog 4 w0) (va : Value) (a : List cO) (ha : gB ik w0 BE M va a) (r : Str) (hs : mD N a = some r),
    Calls Tryz.prog 130 #[va] w0 (fun e w' => Grow w0 w' ∧ e = .returned (aV r)) := by
 intro N
 induction N with
 | zero => intro w0 M hM hT va a ha r hs; cases hs
 | succ N ih =>
 intro w0 M hM hT va a ha r hs
 replace hs : xn (mD N) a = some r := hs
 generalize mD N = F0 at hs ih
 refine aQ (args := [va]) Tryz.func130 rfl Tryz.ntmps130 (bD rfl) ?_
 have h := SH.init hM
 replace h := h.fE 1 ha bA
 have uU := ha.bT
 refine nG (aa (ae (v := (aV [])) rfl) (nJ (aa (ae (v := (aV [123])) rfl) (nK (aa (ah (v := va) rfl) (aa (bM oZ rfl (h.gV 1 rfl)) (aa (ah (v := (I6 0)) rfl) (nN (aN (gD (σ := Nat × Int × Str) (inl ([3, 5] ++ rg 8 55)) (fun ⟨k5, i6, x4⟩ => [(3, (aV x4)), (8, (I6 i6))]) (fun ⟨k5, i6, x4⟩ w => SH w0 M BE w (hset [(1, .sr ik va a)]) ∧ i6 = (k5 : Int) ∧ each (qG F0 a) qH (a.drop k5) x4 = some r) (fun ⟨k5, i6, x4⟩ => a.length - k5) ⟨0, 0, [123]⟩ ⟨rfl, rfl, trivial⟩ ?_ ?_))))))))))
 exact ⟨h.cn _, rfl, hs⟩
 rintro ⟨k5, i6, x4⟩ w dR ⟨h, hik, hs⟩
 refine nG ?_
 refine aa (eO rfl rfl) (nN ?_)
 refine aM (gQ rfl (fun e10 => ?_) (fun e10 => ?_))
 refine aH (ak ?_)
 obtain ⟨x7, e11a, e11b⟩ := fG (hik ▸ e10)
 rw [e11b, dU] at hs
 generalize hnx9 : each (qG F0 a) qH (a.drop (k5 + 1)) = LY at hs
 have e11r := fJ ((h.gV 1 rfl)).bT hik e10
 refine cu (σ := Str) (inl ([3, 5] ++ rg 10 52)) (fun vY => [(3, (aV vY))]) (fun vY w => SH w0 M BE w (hset [(1, .sr ik va a)]) ∧ qD LY vY = some r) ?_ ?_
 rintro vY w dR ⟨h, hs⟩
 refine aD (aa (dQ rfl rfl e11r) (aa (ah (v := (I6 ((i6 + 1)))) rfl) (aA (au ?_))))
 subst hnx9
 exact jM ⟨k5 + 1, i6 + 1, vY⟩ ⟨h.cn _, by omega, hs⟩ (by have := oD e10; dsimp only; omega)
 refine aN (nG ?_)
 obtain ⟨b14, o15, cs16, h, r17, i13⟩ := h.xI 1 2 rfl oZ rfl (ig hik) (fI hik e11a)
 obtain ⟨Y0, u20, u22, u24, rfl, g19, g21, g23, g25⟩ := D5 r17
 replace h := h.dh 3 g19.up
 replace h := h.dh 4 g21.up.up
 replace h := h.dh 5 g23.up.up.up
 replace h := h.dh 6 g25.up.up.up.up
 refine aa (i13 _ _ _ _ _ _ _ _ _ rfl rfl) (aa (jc (k := 0) (vs := [(I6 x7.kind), (I6 x7.n), Y0, u20, u22, u24]) h 2 rfl tu rfl rfl rfl (bD rfl)) (bI h 7 tu fun w b26 h => dK (vs := [(I6 x7.kind), (I6 x7.n), Y0, u20, u22, u24]) h 7 [(I6 x7.kind), (I6 x7.n), Y0, u20, u22, u24] rfl tu rfl rfl rfl rfl rfl (ai rfl (ai rfl (ai (h.iN 3 rfl).one (ai (h.iN 4 rfl).one (ai (h.iN 5 rfl).one (ai (h.iN 6 rfl).one aS)))))) fun w h => nN (aM (zf mixed h fun w h => eG 0 (aP.refl BE _) rfl aj (by kernel_rfl) (by kernel_rfl) (by kernel_rfl) (fun w hk => ah (v := (aV x4)) rfl) (eG 2 (aP.refl BE _) rfl aj (by kernel_rfl) (by kernel_rfl) (by kernel_rfl) (fun w hk => ag nC rfl) (eG 3 (aP.refl BE _) rfl aj (by kernel_rfl) (by kernel_rfl) (by kernel_rfl) (fun w hk => have h := h.grow hk; az h 7 rfl aR rfl rfl) ?_))))))
 obtain ⟨MO, hs⟩ := bG hs
 refine eG 4 (aP.refl BE _) rfl aj (by kernel_rfl) (by kernel_rfl) (by kernel_rfl) (fun w hk => oh rfl rfl MO) ?_
 obtain ⟨ws28, RD⟩ : ∃ x, x = w := ⟨_, rfl⟩
 have xE : Grow ws28 w := RD ▸ aP.refl BE w
 refine CP RD.symm (mg 1 (by kernel_rfl) rfl aj ?_)
 obtain ⟨RB, eq27x1_2, hs⟩ := aL hs
 refine aW VV rfl rfl (Dc _ _ h.lt (hT.go h.keep) [115, 101, 116, 32, 112, 117, 116, 32, 115, 97, 121, 32, 112, 97, 117, 115, 101, 32, 103, 111, 32, 105, 102, 32, 119, 104, 105, 108, 101, 32, 114, 101, 116, 117, 114, 110] _ eq27x1_2) ?_
 rintro _ w ⟨RF, uq27x1_3, rfl, gq27x1_4⟩
 refine ⟨_, rfl, ?_⟩
 replace h := h.KX 20 RF gq27x1_4
 replace xE := xE.trans RF
 refine aA (iU xE ?_)
 obtain ⟨uY, RG, hs⟩ := aL hs
 obtain ⟨bq27x5_4, oq27x5_5, csq27x5_6, h, rq27x5_7, iq27x5_3⟩ := h.Cn 20 68 rfl il rfl (aC RG).1 (aC RG).2
 obtain rfl := rq27x5_7
 refine jG 5 xE rfl (by kernel_rfl) (fun w hk => iq27x5_3 _ _ _ _ _ _ _ _ _ rfl rfl) (LM xE ?_)
 obtain ⟨Xc, Ui⟩ : ∃ x, x = w := ⟨_, rfl⟩
 have hgq27x6_2 : Grow Xc w := Ui ▸ aP.refl _ _
 refine eG 6 (aP.refl BE _) rfl aj (by kernel_rfl) (by kernel_rfl) (by kernel_rfl) (fun w hk => have h := h.grow hk; fo (k := 0) h 68 rfl CZ rfl rfl) ?_
 obtain ⟨aq27x7_1, hs⟩ := bG hs
 refine eG 7 (aP.refl BE _) rfl aj (by kernel_rfl) (by kernel_rfl) (by kernel_rfl) (fun w hk => qC rfl rfl aq27x7_1) ?_
 obtain ⟨aq27x8_1, hs⟩ := bG hs
 refine eG 8 (aP.refl BE _) rfl aj (by kernel_rfl) (by kernel_rfl) (by kernel_rfl) (fun w hk => qC rfl rfl aq27x8_1) (eG 9 (aP.refl BE _) rfl aj (by kernel_rfl) (by kernel_rfl) (by kernel_rfl) (fun w hk => ae (v := (aV (x4 ++ ([32] ++ uY)))) rfl) (qQ (by kernel_rfl) (ak (cu (σ := Str) (inl ([3] ++ rg 21 9)) (fun x30 => [(3, (aV x30))]) (fun x30 w => SH w0 M BE w (hset [(1, .sr ik va a), (3, .rd oz Y0 x7.e), (4, .rd oz u20 x7.f), (5, .rd ik u22 x7.a), (6, .rd ik u24 x7.b), (7, .blk b26 [(I6 x7.kind), (I6 x7.n), Y0, u20, u22, u24])]) ∧ qF F0 x7 a LY x30 = some r) ?_ ?_))))
 rintro x30 w dR ⟨h, hs⟩
 refine aM (zf mixed h fun w h => eG 0 (aP.refl BE _) rfl aj (by kernel_rfl) (by kernel_rfl) (by kernel_rfl) (fun w hk => ah (v := (aV x30)) rfl) (eG 1 (aP.refl BE _) rfl aj (by kernel_rfl) (by kernel_rfl) (by kernel_rfl) (fun w hk => ag CV rfl) (eG 2 (aP.refl BE _) rfl aj (by kernel_rfl) (by kernel_rfl) (by kernel_rfl) (fun w hk => have h := h.grow hk; az h 7 rfl Be rfl rfl) (eG 4 (aP.refl BE _) rfl aj (by kernel_rfl) (by kernel_rfl) (by kernel_rfl) (fun w hk => ag Fb rfl) (eG 5 (aP.refl BE _) rfl aj (by kernel_rfl) (by kernel_rfl) (by kernel_rfl) (fun w hk => have h := h.grow hk; az h 7 rfl Be rfl rfl) ?_)))))
 obtain ⟨Uj, RH⟩ : ∃ x, x = w := ⟨_, rfl⟩
 have rM : Grow Uj w := RH ▸ aP.refl BE w
 refine CP RH.symm (mg 3 (by kernel_rfl) rfl aj ?_)
 obtain ⟨uW, eq31x3_2, hs⟩ := aL hs
 refine aW VZ rfl rfl (xS _ _ h.lt (hT.go h.keep) Y0 x7.e (h.kL 3 rfl) _ eq31x3_2) ?_
 rintro _ w ⟨RI, rfl⟩
 refine ⟨_, rfl, ?_⟩
 replace h := h.grow RI
 replace rM := rM.trans RI
 refine aA (iU rM (mg 6 (by kernel_rfl) rfl aj ?_))
 obtain ⟨uX, eq31x6_2, hs⟩ := aL hs
 refine aW VZ rfl rfl (xS _ _ h.lt (hT.go h.keep) u20 x7.f (h.kL 4 rfl) _ eq31x6_2) ?_
 rintro _ w ⟨RJ, rfl⟩
 refine ⟨_, rfl, ?_⟩
 replace h := h.grow RJ
 replace rM := rM.trans RJ
 refine aA (iU rM ?_)
 obtain ⟨aq31x7_1, hs⟩ := bG hs
 refine jG 7 rM rfl (by kernel_rfl) (fun w hk => qC rfl rfl aq31x7_1) ?_
 obtain ⟨aq31x8_1, hs⟩ := bG hs
 refine jG 8 rM rfl (by kernel_rfl) (fun w hk => qC rfl rfl aq31x8_1) (jG 9 rM rfl (by kernel_rfl) (fun w hk => ae (v := (aV (x30 ++ (uW ++ uX)))) rfl) (qQ (by kernel_rfl) (ak (cu (σ := Str) (inl ([3] ++ rg 39 14)) (fun x34 => [(3, (aV x34))]) (fun x34 w => SH w0 M BE w (hset [(1, .sr ik va a), (3, .rd oz Y0 x7.e), (4, .rd oz u20 x7.f), (5, .rd ik u22 x7.a), (6, .rd ik u24 x7.b), (7, .blk b26 [(I6 x7.kind), (I6 x7.n), Y0, u20, u22, u24])]) ∧ qE F0 x7 LY x34 = some r) ?_ ?_))))
 rintro x34 w dR ⟨h, hs⟩
 refine nG (aa (ag nC rfl) (aa (az h 7 rfl aR rfl rfl) (aa (bu rfl rfl) (nN (aI hs rfl (fun c35 hs => ?_) (fun c35 hs => ?_))))))
 refine aD (aa (ah (v := (aV x34)) rfl) (aa (ag CX rfl) (aa (az h 7 rfl uz rfl rfl) ?_)))
 obtain ⟨ql, e37, hs⟩ := aL hs
 refine aW Qn rfl rfl (ih _ _ h.lt (hT.go h.keep) u24 x7.b (h.kL 6 rfl) _ e37) ?_
 rintro _ w ⟨V6, rfl⟩
 refine ⟨_, rfl, ?_⟩
 replace h := h.grow V6
 obtain ⟨a39, hs⟩ := bG hs
 refine aa (qC rfl rfl a39) ?_
 obtain ⟨a40, hs⟩ := bG hs
 refine aa (qC rfl rfl a40) (aa (ae (v := (aV (x34 ++ ([32] ++ ql)))) rfl) (aA (ax (au ?_))))
 exact bS (x34 ++ ([32] ++ ql)) ⟨h.cn _, hs⟩
 refine aH (ax (au ?_))
 exact bS x34 ⟨h.cn _, hs⟩
 refine nG (aa (ag nC rfl) (aa (az h 7 rfl aR rfl rfl) (aa (bu rfl rfl) (aa (ah (v := (.bool (decide ((x7.kind : Int) = 6)))) rfl) (aF rfl rfl (fun q => ag nC rfl) (aF rfl rfl (fun q => az h 7 rfl aR (eu q) rfl) (aF rfl rfl (fun q => bu (eu q) rfl) (aa (jD rfl rfl mY) (nN (aI hs rfl (fun c41 hs => ?_) (fun c41 hs => ?_)))))))))))
 refine aD (aa (ah (v := (aV (x30 ++ (uW ++ uX)))) rfl) (aa (ag CW rfl) (aa (az h 7 rfl uz rfl rfl) ?_)))
 obtain ⟨Bf, e43, hs⟩ := aL hs
 refine aW Qn rfl rfl (ih _ _ h.lt (hT.go h.keep) u22 x7.a (h.kL 5 rfl) _ e43) ?_
 rintro _ w ⟨k44, rfl⟩
 refine ⟨_, rfl, ?_⟩
 replace h := h.grow k44
 obtain ⟨a45, hs⟩ := bG hs
 refine aa (qC rfl rfl a45) ?_
 obtain ⟨a46, hs⟩ := bG hs
 refine aa (qC rfl rfl a46) (aa (ae (v := (aV ((x30 ++ (uW ++ uX)) ++ ([32] ++ Bf)))) rfl) (aA (au ?_)))
 exact bS ((x30 ++ (uW ++ uX)) ++ ([32] ++ Bf)) ⟨h.cn _, hs⟩
 refine aH (au ?_)
 exact bS (x30 ++ (uW ++ uX)) ⟨h.cn _, hs⟩
 refine nG (aa (ag nC rfl) (aa (az h 7 rfl aR rfl rfl) (aa (II rfl rfl) (nN (aI hs rfl (fun Uh hs => ?_) (fun Uh hs => ?_))))))
 refine aD (aa (ah (v := (aV (x4 ++ ([32] ++ uY)))) rfl) (aa (ag zt rfl) (aa (az h 7 rfl aR rfl rfl) ?_)))
 obtain ⟨qj, e49, hs⟩ := aL hs
 refine aW LW rfl rfl (xR _ _ h.lt (hT.go h.keep) x7.n _ e49) ?_
 rintro _ w ⟨V5, rfl⟩
 refine ⟨_, rfl, ?_⟩
 replace h := h.grow V5
 obtain ⟨a51, hs⟩ := bG hs
 refine aa (qC rfl rfl a51) ?_
 obtain ⟨a52, hs⟩ := bG hs
 refine aa (qC rfl rfl a52) (aa (ae (v := (aV ((x4 ++ ([32] ++ uY)) ++ ([32] ++ qj)))) rfl) (aA (au ?_)))
 exact bS ((x4 ++ ([32] ++ uY)) ++ ([32] ++ qj)) ⟨h.cn _, hs⟩
 refine aH (au ?_)
 exact bS (x4 ++ ([32] ++ uY)) ⟨h.cn _, hs⟩
 rw [fH (hik ▸ e10), fO] at hs
 refine nE (aa (ah (v := (aV x4)) rfl) ?_)
 obtain ⟨a53, hs⟩ := bG hs
 refine aa (qC rfl rfl a53) (aa (ae (v := (aV (x4 ++ [32, 125]))) rfl) (nR (bR (v := (aV (x4 ++ [32, 125]))) Tryz.results130 rfl ?_)))
 obtain rfl := fM hs
 exact ⟨h.grown, rfl⟩
theorem MP (w0 : World) (M : BS) (hM : ∀ b, M b → b < w0.heap.size) (va : Value) (a : List Str) (ha : gB sO w0 BE M va a) (b : Str) (r : Str) (hs : Zo a b = some r) :
    Calls Tryz.prog 131 #[va, aV b] w0 (fun e w' => Grow w0 w' ∧ e = .returned (aV r)) :=
  join_w Tryz.strings_Join_none Tryz.strings_Join ha hs
def qI (N : Nat) (fT : iO) (x8 : List Str) (p8 : List Str → Option Str) : Option Str :=
  (OG fT.params).bind fun um => iK ([102, 117, 110, 32].length + um.length ≤ 9223372036854775807) (iK (([102, 117, 110, 32] ++ um).length + [32].length ≤ 9223372036854775807) ((OG fT.locals).bind fun wD => iK ((([102, 117, 110, 32] ++ um) ++ [32]).length + wD.length ≤ 9223372036854775807) (iK (((([102, 117, 110, 32] ++ um) ++ [32]) ++ wD).length + [32].length ≤ 9223372036854775807) ((mD N fT.body).bind fun xq => iK ((((([102, 117, 110, 32] ++ um) ++ [32]) ++ wD) ++ [32]).length + xq.length ≤ 9223372036854775807) (iK (Room 16 x8 [((((([102, 117, 110, 32] ++ um) ++ [32]) ++ wD) ++ [32]) ++ xq)]) (p8 (x8 ++ [((((([102, 117, 110, 32] ++ um) ++ [32]) ++ wD) ++ [32]) ++ xq)])))))))
def qJ (x8 : List Str) : Option Str :=
  (Zo x8 [32]).bind fun zB => some zB
def xU (N : Nat) (a : List iO) : Option Str :=
  each (qI N) qJ a []
theorem Cs (N : Nat) (w0 : World) (M : BS) (hM : ∀ b, M b → b < w0.heap.size) (hT : zo Tryz.prog 4 w0) (va : Value) (a : List iO) (ha : gB kY w0 BE M va a) (r : Str) (hs : xU N a = some r) :
    Calls Tryz.prog 113 #[va] w0 (fun e w' => Grow w0 w' ∧ e = .returned (aV r)) := by
 refine aQ (args := [va]) Tryz.func113 rfl Tryz.ntmps113 (bD rfl) ?_
 have h := SH.init hM
 replace h := h.fE 1 ha bA
 have uU := ha.bT
 refine nG (aa (ae (v := (aV [])) rfl) (nJ (aa (ae (v := (.slice none 0 0)) rfl) (nK (aa (ah (v := va) rfl) (aa (bM kE rfl (h.gV 1 rfl)) (aa (ah (v := (I6 0)) rfl) (nN (aN ?_)))))))))
 replace h := h.yH (R := sO) (E := 9) 5
 refine gD (σ := Nat × Int × Value × List Str) (inl ([3, 5] ++ rg 8 22)) (fun ⟨k9, i10, v7, x8⟩ => [(3, v7), (8, (I6 i10))]) (fun ⟨k9, i10, v7, x8⟩ w => SH w0 M BE w (hset [(1, .sr kY va a), (5, .own sO 9 v7 x8)]) ∧ i10 = (k9 : Int) ∧ each (qI N) qJ (a.drop k9) x8 = some r) (fun ⟨k9, i10, v7, x8⟩ => a.length - k9) ⟨0, 0, (.slice none 0 0), []⟩ ⟨rfl, rfl, trivial⟩ ?_ ?_
 exact ⟨h.cn _, rfl, hs⟩
 rintro ⟨k9, i10, v7, x8⟩ w dR ⟨h, hik, hs⟩
 refine nG ?_
 refine aa (eO rfl rfl) (nN ?_)
 refine aM (gQ rfl (fun e14 => ?_) (fun e14 => ?_))
 refine aH (ak ?_)
 obtain ⟨fT, Qx, Qy⟩ := fG (hik ▸ e14)
 rw [Qy, dU] at hs
 generalize I5 : each (qI N) qJ (a.drop (k9 + 1)) = p8 at hs
 have Qz := fJ ((h.gV 1 rfl)).bT hik e14
 refine aM (aN (nG ?_))
 obtain ⟨b17, o18, cs19, h, Xd, i16⟩ := h.xI 1 6 rfl kE rfl (ig hik) (fI hik Qx)
 obtain ⟨u21, rfl, g22⟩ := w9 Xd
 replace h := h.dh 7 g22.up
 refine aa (i16 _ _ _ _ _ _ _ _ _ rfl rfl) (aa (jc (k := 0) (vs := [(I6 fT.params), (I6 fT.locals), u21]) h 6 rfl qi rfl rfl rfl (bD rfl)) (bI h 8 qi fun w Gd h => dK (vs := [(I6 fT.params), (I6 fT.locals), u21]) h 8 [(I6 fT.params), (I6 fT.locals), u21] rfl qi rfl rfl rfl rfl rfl (ai rfl (ai rfl (ai (h.iN 7 rfl).one aS))) fun w h => nN (lq (L := (ob v7)) mixed h fun w h => bH 0 (aP.refl _ _) rfl aj (by kernel_rfl) (by kernel_rfl) (by kernel_rfl) (fun w hk => ah (v := v7) rfl) (bH 1 (aP.refl _ _) rfl aj (by kernel_rfl) (by kernel_rfl) (by kernel_rfl) (fun w hk => ag zq rfl) (bH 2 (aP.refl _ _) rfl aj (by kernel_rfl) (by kernel_rfl) (by kernel_rfl) (fun w hk => have h := h.qR 5 rfl hk; az h 8 rfl aR rfl rfl) (bH 6 (aP.refl _ _) rfl aj (by kernel_rfl) (by kernel_rfl) (by kernel_rfl) (fun w hk => ag CU rfl) (bH 7 (aP.refl _ _) rfl aj (by kernel_rfl) (by kernel_rfl) (by kernel_rfl) (fun w hk => have h := h.qR 5 rfl hk; az h 8 rfl aR rfl rfl) (bH 11 (aP.refl _ _) rfl aj (by kernel_rfl) (by kernel_rfl) (by kernel_rfl) (fun w hk => ag Fa rfl) (bH 12 (aP.refl _ _) rfl aj (by kernel_rfl) (by kernel_rfl) (by kernel_rfl) (fun w hk => have h := h.qR 5 rfl hk; az h 8 rfl uz rfl rfl) ?_)))))))))
 obtain ⟨ws28, RD⟩ : ∃ x, x = w := ⟨_, rfl⟩
 have xE : aP (ob v7) ws28 w := RD ▸ aP.refl (ob v7) w
 refine rU RD.symm (bE 3 (by kernel_rfl) rfl aj ?_)
 obtain ⟨um, eq27x3_2, hs⟩ := aL hs
 refine aW LW rfl rfl (xR _ _ h.lt (hT.go h.keep) fT.params _ eq27x3_2) ?_
 rintro _ w ⟨RL, rfl⟩
 refine ⟨_, rfl, ?_⟩
 replace h := h.grow RL
 replace xE := xE.grow RL
 refine aA (aT xE ?_)
 obtain ⟨MO, hs⟩ := bG hs
 refine dN 4 xE rfl (by kernel_rfl) (fun w hk => qC rfl rfl MO) ?_
 obtain ⟨aq27x5_1, hs⟩ := bG hs
 refine dN 5 xE rfl (by kernel_rfl) (fun w hk => qC rfl rfl aq27x5_1) (bE 8 (by kernel_rfl) rfl aj ?_)
 obtain ⟨wD, eq27x8_2, hs⟩ := aL hs
 refine aW LW rfl rfl (xR _ _ h.lt (hT.go h.keep) fT.locals _ eq27x8_2) ?_
 rintro _ w ⟨RN, rfl⟩
 refine ⟨_, rfl, ?_⟩
 replace h := h.grow RN
 replace xE := xE.grow RN
 refine aA (aT xE ?_)
 obtain ⟨aq27x9_1, hs⟩ := bG hs
 refine dN 9 xE rfl (by kernel_rfl) (fun w hk => qC rfl rfl aq27x9_1) ?_
 obtain ⟨Xe, hs⟩ := bG hs
 refine dN 10 xE rfl (by kernel_rfl) (fun w hk => qC rfl rfl Xe) (bE 13 (by kernel_rfl) rfl aj ?_)
 obtain ⟨xq, Xf, hs⟩ := aL hs
 refine aW Qn rfl rfl (De N _ _ h.lt (hT.go h.keep) u21 fT.body (h.kL 7 rfl) _ Xf) ?_
 rintro _ w ⟨OX, rfl⟩
 refine ⟨_, rfl, ?_⟩
 replace h := h.grow OX
 replace xE := xE.grow OX
 refine aA (aT xE ?_)
 obtain ⟨Xg, hs⟩ := bG hs
 refine dN 14 xE rfl (by kernel_rfl) (fun w hk => qC rfl rfl Xg) (bE 15 (by kernel_rfl) rfl aj (xL (R := sO) (vs := [(aV ((((([102, 117, 110, 32] ++ um) ++ [32]) ++ wD) ++ [32]) ++ xq))]) (xs := [((((([102, 117, 110, 32] ++ um) ++ [32]) ++ wD) ++ [32]) ++ xq)]) h 189 OW rfl rfl rfl ⟨rfl, trivial⟩ rfl fun w Xh h Uk Ul => ?_))
 have uq27x15_1q : ∀ b, ob Xh b → ws28.heap.size ≤ b := fun b hb => Nat.le_trans xE.size (Ul b hb)
 replace xE := xE.grow Uk
 refine aA (aT xE (bE 16 (by kernel_rfl) rfl aj ?_))
 obtain ⟨OY, hs⟩ := bG hs
 have uq27x16_2z := xE.size
 refine ng (R := sO) (m := [((((([102, 117, 110, 32] ++ um) ++ [32]) ++ wD) ++ [32]) ++ xq)]) h 5 rfl (h.eT 189 rfl) OW rfl rfl rfl OY.1 OY.2 fun w JO h Um Un => ?_
 have uq27x16_2q : ∀ b, ob JO b → b < ws28.heap.size → ob v7 b := fun b hb hl => Un b hb (Nat.lt_of_lt_of_le hl (xE).size)
 replace xE := xE.same Um
 refine aA (aT xE (dN 17 xE rfl (by kernel_rfl) (fun w hk => ae (v := JO) rfl) (gG (by kernel_rfl) (ax (ak (aD (aa (dQ rfl rfl Qz) (aa (ah (v := (I6 ((i10 + 1)))) rfl) (aA (au ?_))))))))))
 subst I5
 exact jM ⟨k9 + 1, i10 + 1, JO, (x8 ++ [((((([102, 117, 110, 32] ++ um) ++ [32]) ++ wD) ++ [32]) ++ xq)])⟩ ⟨h.cn _, by omega, hs⟩ (by have := oD e14; dsimp only; omega)
 rw [fH (hik ▸ e14), fO] at hs
 refine nE (aa (ah (v := v7) rfl) ?_)
 obtain ⟨zB, e31, hs⟩ := aL hs
 refine aW fnOk131 rfl rfl (MP _ _ h.lt v7 x8 (h.eT 5 rfl) [32] _ e31) ?_
 rintro _ w ⟨k32, rfl⟩
 refine ⟨_, rfl, ?_⟩
 replace h := h.grow k32
 refine aa (ae (v := (aV zB)) rfl) (nR (bR (v := (aV zB)) Tryz.results113 rfl ?_))
 obtain rfl := fM hs
 exact ⟨h.grown, rfl⟩
def stringslite_HasPrefix (a : Str) (b : Str) : Option Bool :=
  bif decide (((b.length : Int) : Int) ≤ (a.length : Int)) then (subs? a 0 (b.length : Int)).bind fun x2 => some (decide ((x2 : Str) = b)) else some false
theorem Df (w0 : World) (M : BS) (hM : ∀ b, M b → b < w0.heap.size) (a : Str) (b : Str) (r : Bool) (hs : stringslite_HasPrefix a b = some r) :
    Calls Tryz.prog 141 #[(aV a), (aV b)] w0 (fun e w' => Grow w0 w' ∧ e = .returned (.bool r)) := by
 refine aQ (args := [(aV a), (aV b)]) Tryz.func141 rfl Tryz.ntmps141 (bD rfl) ?_
 have h := SH.init hM
 refine nG (aa (ae (v := (.bool (false))) rfl) (nJ (aa (ah (v := (aV a)) rfl) (aa (PW Tryz.underlying9 rfl) (aa (ah (v := (aV b)) rfl) (aa (PW Tryz.underlying9 rfl) (aa (rH rfl rfl) (aa (ah (v := (.bool (decide (((b.length : Int) : Int) ≤ (a.length : Int))))) rfl) (gT (b := decide (((b.length : Int) : Int) ≤ (a.length : Int))) hs (fun c1 hs => ?_) (fun c1 hs => ?_))))))))))
 refine cz rfl (cB c1) (aa (ah (v := (aV a)) rfl) (cz rfl (cB c1) (aa (ah (v := (aV b)) rfl) (cz rfl (cB c1) (aa (PW Tryz.underlying9 rfl) (cz rfl (cB c1) ?_))))))
 obtain ⟨x2, e3, hs⟩ := aL hs
 obtain ⟨e4a, e4b, e4c, e4⟩ := TS e3
 refine aa (TR e4 Tryz.underlying9 rfl (.inl ⟨rfl, rfl⟩) (.inr (congrArg some rfl)) e4a e4b e4c) (cz rfl (cB c1) (aa (ah (v := (aV b)) rfl) (cz rfl (cB c1) (aa (JG rfl rfl) (aa (bY (b := true) (v := (.bool (decide ((x2 : Str) = b)))) (cB c1) rfl) (aa (ae (v := (.bool (decide ((x2 : Str) = b)))) rfl) (nR (bR (v := (.bool (decide ((x2 : Str) = b)))) Tryz.results141 rfl ?_))))))))
 obtain rfl := fM hs
 exact ⟨h.grown, rfl⟩
 refine mO rfl (cB c1) rfl (mO rfl (cB c1) rfl (mO rfl (cB c1) rfl (mO rfl (cB c1) rfl (mO rfl (cB c1) rfl (mO rfl (cB c1) rfl (aa (bY (b := false) (v := (.bool (false))) (cB c1) rfl) (aa (ae (v := (.bool (false))) rfl) (nR (bR (v := (.bool (false))) Tryz.results141 rfl ?_)))))))))
 obtain rfl := fM hs
 exact ⟨h.grown, rfl⟩
def stringslite_TrimPrefix (a : Str) (b : Str) : Option Str :=
  (stringslite_HasPrefix a b).bind fun y1 => bif y1 then (subs? a (b.length : Int) (a.length : Int)).bind fun x5 => some x5 else some a
theorem Ct (w0 : World) (M : BS) (hM : ∀ b, M b → b < w0.heap.size) (a : Str) (b : Str) (r : Str) (hs : stringslite_TrimPrefix a b = some r) :
    Calls Tryz.prog 124 #[(aV a), (aV b)] w0 (fun e w' => Grow w0 w' ∧ e = .returned (aV r)) := by
 refine aQ (args := [(aV a), (aV b)]) Tryz.func124 rfl Tryz.ntmps124 (bD rfl) ?_
 have h := SH.init hM
 refine nG (aa (ae (v := (aV [])) rfl) (nK (aa (ah (v := (aV a)) rfl) (aa (ah (v := (aV b)) rfl) ?_))))
 obtain ⟨y1, e2, hs⟩ := aL hs
 refine aW fnOk141 rfl rfl (Df _ _ h.lt a b _ e2) ?_
 rintro _ w ⟨k3, rfl⟩
 refine ⟨_, rfl, ?_⟩
 replace h := h.grow k3
 refine nN (aI hs rfl (fun c4 hs => ?_) (fun c4 hs => ?_))
 refine nG (aa (ah (v := (aV a)) rfl) (aa (ah (v := (aV b)) rfl) (aa (PW Tryz.underlying9 rfl) ?_)))
 obtain ⟨x5, e6, hs⟩ := aL hs
 obtain ⟨e7a, e7b, e7c, e7⟩ := TS e6
 refine aa (TR e7 Tryz.underlying9 rfl (.inr (congrArg some rfl)) (.inl ⟨rfl, rfl⟩) e7a e7b e7c) (aa (ae (v := (aV x5)) rfl) (nR (ay (bR (v := (aV x5)) Tryz.results124 rfl ?_))))
 obtain rfl := fM hs
 exact ⟨h.grown, rfl⟩
 refine nS (aa (ah (v := (aV a)) rfl) (aa (ae (v := (aV a)) rfl) (nR (bR (v := (aV a)) Tryz.results124 rfl ?_))))
 obtain rfl := fM hs
 exact ⟨h.grown, rfl⟩
def strings_TrimPrefix (a : Str) (b : Str) : Option Str :=
  (stringslite_TrimPrefix a b).bind fun y1 => some y1
theorem Fe (w0 : World) (M : BS) (hM : ∀ b, M b → b < w0.heap.size) (a : Str) (b : Str) (r : Str) (hs : strings_TrimPrefix a b = some r) :
    Calls Tryz.prog 105 #[(aV a), (aV b)] w0 (fun e w' => Grow w0 w' ∧ e = .returned (aV r)) := by
 refine aQ (args := [(aV a), (aV b)]) Tryz.func105 rfl Tryz.ntmps105 (bD rfl) ?_
 have h := SH.init hM
 refine nG (aa (ae (v := (aV [])) rfl) (nJ (aa (ah (v := (aV a)) rfl) (aa (ah (v := (aV b)) rfl) ?_))))
 obtain ⟨y1, e2, hs⟩ := aL hs
 refine aW fnOk124 rfl rfl (Ct _ _ h.lt a b _ e2) ?_
 rintro _ w ⟨k3, rfl⟩
 refine ⟨_, rfl, ?_⟩
 replace h := h.grow k3
 refine aa (ae (v := (aV y1)) rfl) (nR (bR (v := (aV y1)) Tryz.results105 rfl ?_))
 obtain rfl := fM hs
 exact ⟨h.grown, rfl⟩
def tN (a : List Str) (b : Str) (i2 : Int) (s : Unit) (K9 : Unit → Option Int) : Option Int :=
  (idx a i2).bind fun x8 => bif decide ((b : Str) = x8) then some i2 else K9 ()
def tO (s : Unit) : Option Int :=
  some (-1)
def slices_Index_string (a : List Str) (b : Str) : Option Int :=
  upto (tN a b) tO 0 ((a.length : Int)).toNat ()
theorem EK (w0 : World) (M : BS) (hM : ∀ b, M b → b < w0.heap.size) (va : Value) (a : List Str) (ha : gB sO w0 BE M va a) (b : Str) (r : Int) (hs : slices_Index_string a b = some r) :
    Calls Tryz.prog 110 #[va, (aV b)] w0 (fun e w' => Grow w0 w' ∧ e = .returned (.int .i64 r)) := by
 refine aQ (args := [va, (aV b)]) Tryz.func110 rfl Tryz.ntmps110 (bD rfl) ?_
 have h := SH.init hM
 replace h := h.fE 1 ha bA
 have uU := ha.bT
 refine nG (aa (ae (v := (I6 0)) rfl) (nK (aa (ah (v := va) rfl) (aa (bM il rfl (h.gV 1 rfl)) (aa (ah (v := (I6 0)) rfl) (nN (aN ?_)))))))
 have hli2 := (h.gV 1 rfl).bT
 refine gD (σ := Nat × Int) (inl ([4, 5] ++ rg 8 11)) (fun ⟨k1, i2⟩ => [(8, (I6 i2))]) (fun ⟨k1, i2⟩ w => SH w0 M BE w (hset [(1, .sr sO va a)]) ∧ i2 = (k1 : Int) ∧ upto (tN a b) tO i2 (((a.length : Int)).toNat - k1) () = some r) (fun ⟨k1, i2⟩ => ((a.length : Int)).toNat - k1) ⟨0, 0⟩ ⟨rfl, trivial⟩ ?_ ?_
 exact ⟨h.cn _, rfl, hs⟩
 rintro ⟨k1, i2⟩ w dR ⟨h, hik, hs⟩
 refine nG ?_
 refine aa (eO rfl rfl) (nN ?_)
 refine aM (gQ rfl (fun e6 => ?_) (fun e6 => ?_))
 refine aH (ak ?_)
 rw [sW (by have := oD e6; omega)] at hs
 generalize hnx5 : upto (tN a b) tO (i2 + 1) (((a.length : Int)).toNat - (k1 + 1)) = K9 at hs
 have e7r : kJ (i2 + 1) := (by have := oD e6; have := hli2; exact kJ.mk (by omega) (by omega))
 refine aM (aN (nG (aa (ah (v := (I6 i2)) rfl) (aa (ae (v := (I6 i2)) rfl) (nJ (aa (ah (v := (aV b)) rfl) (aa (ah (v := va) rfl) (aa (ah (v := (I6 i2)) rfl) ?_))))))))
 obtain ⟨x8, e9, hs⟩ := aL hs
 obtain ⟨b11, o12, cs13, h, r14, i10⟩ := h.xI 1 2 rfl il rfl (aC e9).1 (aC e9).2
 obtain rfl := r14
 refine aa (i10 _ _ _ _ _ _ _ _ _ rfl rfl) (aa (fo (k := 0) h 2 rfl CZ rfl rfl) (aa (JG rfl rfl) (nN (aI hs rfl (fun c15 hs => ?_) (fun c15 hs => ?_)))))
 refine nG (aa (ah (v := (I6 i2)) rfl) (aa (ae (v := (I6 i2)) rfl) (nR (aB (ay (ay (aB (ay (bR (v := (I6 i2)) Tryz.results110 rfl ?_)))))))))
 obtain rfl := fM hs
 exact ⟨h.grown, rfl⟩
 refine aH (ax (ak (aD (aa (dQ rfl rfl e7r) (aa (ah (v := (I6 ((i2 + 1)))) rfl) (aA (au ?_)))))))
 subst hnx5
 exact jM ⟨k1 + 1, i2 + 1⟩ ⟨h.cn _, by omega, hs⟩ (by have := oD e6; dsimp only; omega)
 rw [sZ (by have := of_decide_eq_false e6; omega)] at hs
 refine nE (aa (ae (v := (I6 (-1))) rfl) (nR (bR (v := (I6 (-1))) Tryz.results110 rfl ?_)))
 obtain rfl := fM hs
 exact ⟨h.grown, rfl⟩
def Ee (Ef : Int) (QA : (Int × Int × Int) → Option (List Tok × gF)) (Gf : Int) (BP : Int) : Option (List Tok × gF) :=
  iK (kJ (Ef + 1)) (QA ((Ef + 1), Gf, BP))
def Eg (x29 : Str) (rJ : List Tok) (F : List iO) (y31 : Int) (AU : Int) (Db : (List Tok × Int × Bool × Int) → Option (List Tok × gF)) (zB : Bool) (s : Int × Int × Int) (QA : Int × Int × Int → Option (List Tok × gF)) : Option (List Tok × gF) :=
  match s with | (Ef, LZ, yD) => bif decide ((Ef : Int) ≤ 5) then (ma (⟨3, Ef⟩ : Tok)).bind fun L6 => bif decide ((L6 : Str) = x29) then Ee Ef QA 3 Ef else Ee Ef QA LZ yD else iK (Room 16 rJ [(⟨LZ, yD⟩ : Tok)]) (bif (decide (((ic (⟨LZ, yD⟩ : Tok) F 6) : Int) ≠ 0) || decide ((24 : Int) < ((rJ ++ [(⟨LZ, yD⟩ : Tok)]).length : Int))) then some ((rJ ++ [(⟨LZ, yD⟩ : Tok)]), (⟨y31, false⟩ : gF)) else (vL (⟨LZ, yD⟩ : Tok) F).bind fun y81 => iK (kJ (AU + y81)) (iK (kJ ((AU + y81) - 1)) (Db ((rJ ++ [(⟨LZ, yD⟩ : Tok)]), ((AU + y81) - 1), zB, y31))))
def xV (zY : (Int × Str)) (vZ : Int × Bool) (TF : Int) (Bf : Int) (Xi : Bool) : Option (Int × Int) :=
  bif Xi then some (zY.1, vZ.1) else some (TF, Bf)
def tQ (x29 : Str) (zY : (Int × Str)) (s : Int × Int) : Option (Int × Int) :=
  match s with | (TF, Bf) => (strings_TrimPrefix x29 zY.2).bind fun Lv => (EY Lv).bind fun vZ => bif (!vZ.2) then (ma (⟨zY.1, vZ.1⟩ : Tok)).bind fun uZ => xV zY vZ TF Bf (decide ((uZ : Str) = x29)) else xV zY vZ TF Bf false
def I7 (N : Nat) (x29 : Str) (rJ : List Tok) (F : List iO) (y31 : Int) (AU : Int) (Db : (List Tok × Int × Bool × Int) → Option (List Tok × gF)) (zB : Bool) (s : Int × Int) : Option (List Tok × gF) :=
  match s with | (TF, Bf) => again (Eg x29 rJ F y31 AU Db zB) N (1, TF, Bf)
def xW (N : Nat) (rJ : List Tok) (F : List iO) (AU : Int) (Db : (List Tok × Int × Bool × Int) → Option (List Tok × gF)) (x29 : Str) (zB : Bool) (y31 : Int) : Option (List Tok × gF) :=
  (Ca (tQ x29) ([(2, [118]), (4, [46]), (5, [110, 101, 119]), (6, [102]), (1, [])] : List (Int × Str)) (0, 0)).bind fun RO => (I7 N x29 rJ F y31 AU Db zB) RO
def xX (N : Nat) (W : List Str) (F : List iO) (s : List Tok × Int × Bool × Int) (Db : List Tok × Int × Bool × Int → Option (List Tok × gF)) : Option (List Tok × gF) :=
  match s with | (rJ, AU, Uo, y20) => bif (decide ((0 : Int) < AU) && Uo) then bif decide (((W.length : Int) : Int) ≤ y20) then xW N rJ F AU Db [] false y20 else iK (kJ (y20 + 1)) (iK (kJ ((y20 + 1) - 1)) ((idx W ((y20 + 1) - 1)).bind fun x103 => xW N rJ F AU Db x103 Uo (y20 + 1))) else some (rJ, (⟨y20, Uo⟩ : gF))
def I8 (N : Nat) (sx : gF) (W : List Str) (F : List iO) : Option (List Tok × gF) :=
  again (xX N W F) N ([], 1, sx.ok, sx.at_)
theorem OZ (N : Nat) (w0 : World) (M : BS) (hM : ∀ b, M b → b < w0.heap.size) (hT : zo Tryz.prog 4 w0) (ba bo bw bwd bf : Nat) (sx : gF) (hC : Chunk.holds w0 M (Chunk.own' (.two (.blk ba [(I6 sx.at_)]) (.blk bo [(.bool (sx.ok))]) : Chunk)) (.two (.blk ba [(I6 sx.at_)]) (.blk bo [(.bool (sx.ok))]) : Chunk)) (hap : ∀ b, Chunk.own' (.two (.blk ba [(I6 sx.at_)]) (.blk bo [(.bool (sx.ok))]) : Chunk) b → ¬ M b) (vW : Value) (W : List Str) (hvW : iL sO w0 (fun b => M b ∨ Chunk.own' (.two (.blk ba [(I6 sx.at_)]) (.blk bo [(.bool (sx.ok))]) : Chunk) b) vW W) (vF : Value) (F : List iO) (hvF : gB kY w0 (Chunk.own' (.two (.blk ba [(I6 sx.at_)]) (.blk bo [(.bool (sx.ok))]) : Chunk)) (fun b => M b ∨ Chunk.own' (.two (.blk ba [(I6 sx.at_)]) (.blk bo [(.bool (sx.ok))]) : Chunk) b) vF F) (hbw : ∃ E, w0.heap[bw]? = some (.cells #[vW] E (0, 0))) (nbw : ¬ Chunk.own' (.two (.blk ba [(I6 sx.at_)]) (.blk bo [(.bool (sx.ok))]) : Chunk) bw) (QB : ∃ E, w0.heap[bwd]? = some (.cells #[(.func (.func 103) #[] #[(.pointer (some ⟨ba, 0, none⟩)), (.pointer (some ⟨bw, 0, none⟩)), (.pointer (some ⟨bo, 0, none⟩))])] E (0, 0))) (MQ : ¬ Chunk.own' (.two (.blk ba [(I6 sx.at_)]) (.blk bo [(.bool (sx.ok))]) : Chunk) bwd) (hbf : ∃ E, w0.heap[bf]? = some (.cells #[vF] E (0, 0))) (nbf : ¬ Chunk.own' (.two (.blk ba [(I6 sx.at_)]) (.blk bo [(.bool (sx.ok))]) : Chunk) bf) (hG : ∀ b, Chunk.own' (.two (.blk ba [(I6 sx.at_)]) (.blk bo [(.bool (sx.ok))]) : Chunk) b → Tryz.prog.globals.size ≤ b) (r : List Tok × gF) (hs : I8 N sx W F = some r) :
    Calls Tryz.prog 104 #[(.pointer (some ⟨bo, 0, none⟩)), (.pointer (some ⟨bwd, 0, none⟩)), (.pointer (some ⟨bf, 0, none⟩))] w0 (fun e w' => aP (Chunk.own' (.two (.blk ba [(I6 sx.at_)]) (.blk bo [(.bool (sx.ok))]) : Chunk)) w0 w' ∧ ∃ u0, e = .returned (u0) ∧ Chunk.holds w' M (Chunk.own' (.two (.blk ba [.int .i64 r.2.at_]) (.blk bo [.bool r.2.ok]) : Chunk)) (.two (.blk ba [.int .i64 r.2.at_]) (.blk bo [.bool r.2.ok]) : Chunk) ∧ (∀ b, Chunk.own' (.two (.blk ba [.int .i64 r.2.at_]) (.blk bo [.bool r.2.ok]) : Chunk) b → b < w0.heap.size → Chunk.own' (.two (.blk ba [(I6 sx.at_)]) (.blk bo [(.bool (sx.ok))]) : Chunk) b) ∧ iL oz w' (fun b => M b ∨ Chunk.own' (.two (.blk ba [.int .i64 r.2.at_]) (.blk bo [.bool r.2.ok]) : Chunk) b) u0 r.1) := by
 refine aQ (args := [(.pointer (some ⟨bo, 0, none⟩)), (.pointer (some ⟨bwd, 0, none⟩)), (.pointer (some ⟨bf, 0, none⟩))]) Tryz.func104 rfl Tryz.ntmps104 (bD rfl) ?_
 have h := SH.IQ hM hC hap
 replace h := h.E5 3 hvW D6
 replace h := h.Zw 4 hvF (xN D6)
 replace h := h.D7 5 (cs := [vW]) hbw nbw (Cb (xN D6))
 replace h := h.D7 6 (cs := [(.func (.func 103) #[] #[(.pointer (some ⟨ba, 0, none⟩)), (.pointer (some ⟨bw, 0, none⟩)), (.pointer (some ⟨bo, 0, none⟩))])]) QB MQ (vI (Cb (xN D6)))
 replace h := h.D7 7 (cs := [vF]) hbf nbf (vI (vI (Cb (xN D6))))
 have Uq := nbw
 have MR := MQ
 have Ur := nbf
 generalize wE : (.two (.blk ba [(I6 sx.at_)]) (.blk bo [(.bool (sx.ok))]) : Chunk).own' = K0 at h Uq MR Ur hG
 replace h := h.cK 1 2 (by decide) rfl rfl
 refine nG (aa (ae (v := (.slice none 0 0)) rfl) (nJ (aa (ae (v := (.slice none 0 0)) rfl) (nK (aa (ae (v := (I6 1)) rfl) (nN (aN ?_)))))))
 replace h := h.yH (R := oz) (E := 160) 11
 refine gD (σ := Nat × Value × List Tok × Int × Bool × Int) (inl (rg 4 76)) (fun ⟨m24, v16, rJ, AU, Uo, y20⟩ => [(4, v16), (5, (I6 AU))]) (fun ⟨m24, v16, rJ, AU, Uo, y20⟩ w => SH w0 M K0 w (hset [(1, .blk ba [(I6 y20)]), (2, .blk bo [(.bool (Uo))]), (3, .rd sO vW W), (4, .sr kY vF F), (5, .pt bw 0 [vW]), (6, .pt bwd 0 [(.func (.func 103) #[] #[(.pointer (some ⟨ba, 0, none⟩)), (.pointer (some ⟨bw, 0, none⟩)), (.pointer (some ⟨bo, 0, none⟩))])]), (7, .pt bf 0 [vF]), (11, .own oz 160 v16 rJ)]) ∧ again (xX N W F) m24 (rJ, AU, Uo, y20) = some r) (fun ⟨m24, v16, rJ, AU, Uo, y20⟩ => m24) ⟨N, (.slice none 0 0), [], 1, sx.ok, sx.at_⟩ ⟨rfl, rfl, trivial⟩ ?_ ?_
 exact ⟨h.cn _, hs⟩
 rintro ⟨m24, v16, rJ, AU, Uo, y20⟩ w dR ⟨h, hs⟩
 obtain ⟨m241, m24e, m24h⟩ := uq hs
 subst m24e
 replace hs := m24h
 generalize hnx25 : again (xX N W F) m241 = Db at hs
 refine aM (nG (aa (ah (v := (I6 AU)) rfl) (aa (mV rfl rfl) (aa (ah (v := (.bool (decide ((0 : Int) < AU)))) rfl) (aF rfl rfl (fun q => az h 2 rfl BQ rfl rfl) (aa (fZ rfl rfl mY) (nN (aI hs rfl (fun c28 hs => ?_) (fun c28 hs => ?_)))))))))
 refine aH (ak (aM (aN (cu (σ := Str × Bool × Int) (inl [6, 20, 21]) (fun ⟨x29, zB, y31⟩ => [(6, (aV x29))]) (fun ⟨x29, zB, y31⟩ w => SH w0 M K0 w (hset [(1, .blk ba [(I6 y31)]), (2, .blk bo [(.bool (zB))]), (3, .rd sO vW W), (4, .sr kY vF F), (5, .pt bw 0 [vW]), (6, .pt bwd 0 [(.func (.func 103) #[] #[(.pointer (some ⟨ba, 0, none⟩)), (.pointer (some ⟨bw, 0, none⟩)), (.pointer (some ⟨bo, 0, none⟩))])]), (7, .pt bf 0 [vF]), (11, .own oz 160 v16 rJ)]) ∧ xW N rJ F AU Db x29 zB y31 = some r) ?_ ?_))))
 rintro ⟨x29, zB, y31⟩ w dR ⟨h, hs⟩
 refine nG (aa (fe (pv := []) (out := [(I6 0), (I6 0)]) C8 rfl rfl) (bI h 12 nQ fun w b32 h => dK (vs := [(I6 0), (I6 0)]) h 12 [(I6 0), (I6 0)] rfl nQ rfl rfl rfl rfl rfl (ai rfl (ai rfl aS)) fun w h => nK (CQ h 13 fun w b33 h => jq (kT := [(2, (aV [118]))]) h 13 rfl iP rfl rfl rfl rfl fun w h => jq (kT := [(2, (aV [118])), (4, (aV [46]))]) h 13 rfl iP rfl rfl rfl rfl fun w h => jq (kT := [(2, (aV [118])), (4, (aV [46])), (5, (aV [110, 101, 119]))]) h 13 rfl iP rfl rfl rfl rfl fun w h => jq (kT := [(2, (aV [118])), (4, (aV [46])), (5, (aV [110, 101, 119])), (6, (aV [102]))]) h 13 rfl iP rfl rfl rfl rfl fun w h => jq (kT := [(2, (aV [118])), (4, (aV [46])), (5, (aV [110, 101, 119])), (6, (aV [102])), (1, (aV []))]) h 13 rfl iP rfl rfl rfl rfl fun w h => aa (ah (v := (.map (some b33))) rfl) (w_range (f := aV) ([(2, [118]), (4, [46]), (5, [110, 101, 119]), (6, [102]), (1, [])] : List (Int × Str)) h 13 rfl iP rfl rfl fun w G9 h => nN (aN ?_)))))
 obtain ⟨RO, Us, hs⟩ := aL hs
 replace Us := o_fold Us
 refine gD (σ := List (Int × Str) × Int × Int) (inl ([8, 9, 10, 11] ++ rg 26 25)) (fun ⟨lf43, TF, Bf⟩ => []) (fun ⟨lf43, TF, Bf⟩ w => SH w0 M K0 w (hset [(1, .blk ba [(I6 y31)]), (2, .blk bo [(.bool (zB))]), (3, .rd sO vW W), (4, .sr kY vF F), (5, .pt bw 0 [vW]), (6, .pt bwd 0 [(.func (.func 103) #[] #[(.pointer (some ⟨ba, 0, none⟩)), (.pointer (some ⟨bw, 0, none⟩)), (.pointer (some ⟨bo, 0, none⟩))])]), (7, .pt bf 0 [vF]), (11, .own oz 160 v16 rJ), (12, .blk b32 [(I6 TF), (I6 Bf)]), (13, .iJ (Ob aV b33 G9 none lf43))]) ∧ wK (tQ x29) lf43 (TF, Bf) RO) (fun ⟨lf43, TF, Bf⟩ => lf43.length) ⟨([(2, [118]), (4, [46]), (5, [110, 101, 119]), (6, [102]), (1, [])] : List (Int × Str)), 0, 0⟩ trivial ?_ ?_
 exact ⟨h.cn _, Us⟩
 rintro ⟨lf43, TF, Bf⟩ w dR ⟨h, hf⟩
 refine nG ?_
 refine w_next h 13 rfl rfl (fun e48 => ?_) (fun zY lr46 w e48 h => ?_)
 obtain rfl := wK.nil (e48 ▸ hf)
 refine aa (bg rfl rfl) (nN ?_)
 refine aM (wc_iff rfl (jl (bQ (bQ (fq (ak (aM (nG (aa (ae (v := (I6 1)) rfl) (nN (aN (gD (σ := Nat × Int × Int × Int) (inl ([12] ++ rg 51 11)) (fun ⟨m64, Ef, LZ, yD⟩ => [(12, (I6 Ef))]) (fun ⟨m64, Ef, LZ, yD⟩ w => SH w0 M K0 w (hset [(1, .blk ba [(I6 y31)]), (2, .blk bo [(.bool (zB))]), (3, .rd sO vW W), (4, .sr kY vF F), (5, .pt bw 0 [vW]), (6, .pt bwd 0 [(.func (.func 103) #[] #[(.pointer (some ⟨ba, 0, none⟩)), (.pointer (some ⟨bw, 0, none⟩)), (.pointer (some ⟨bo, 0, none⟩))])]), (7, .pt bf 0 [vF]), (11, .own oz 160 v16 rJ), (12, .blk b32 [(I6 LZ), (I6 yD)])]) ∧ again (Eg x29 rJ F y31 AU Db zB) m64 (Ef, LZ, yD) = some r) (fun ⟨m64, Ef, LZ, yD⟩ => m64) ⟨N, 1, TF, Bf⟩ ⟨rfl, trivial⟩ ?_ ?_))))))))))))
 exact ⟨h.cn _, hs⟩
 rintro ⟨m64, Ef, LZ, yD⟩ w dR ⟨h, hs⟩
 obtain ⟨m641, m64e, m64h⟩ := uq hs
 subst m64e
 replace hs := m64h
 generalize hnx65 : again (Eg x29 rJ F y31 AU Db zB) m641 = QA at hs
 refine aM (nG (aa (ah (v := (I6 Ef)) rfl) (aa (II rfl rfl) (nN (aI hs rfl (fun QC hs => ?_) (fun QC hs => ?_))))))
 refine aH (ak (cu (σ := Int × Int) (inl (rg 55 7)) (fun ⟨Gf, BP⟩ => []) (fun ⟨Gf, BP⟩ w => SH w0 M K0 w (hset [(1, .blk ba [(I6 y31)]), (2, .blk bo [(.bool (zB))]), (3, .rd sO vW W), (4, .sr kY vF F), (5, .pt bw 0 [vW]), (6, .pt bwd 0 [(.func (.func 103) #[] #[(.pointer (some ⟨ba, 0, none⟩)), (.pointer (some ⟨bw, 0, none⟩)), (.pointer (some ⟨bo, 0, none⟩))])]), (7, .pt bf 0 [vF]), (11, .own oz 160 v16 rJ), (12, .blk b32 [(I6 Gf), (I6 BP)])]) ∧ Ee Ef QA Gf BP = some r) ?_ ?_))
 rintro ⟨Gf, BP⟩ w dR ⟨h, hs⟩
 refine aD (aa (ah (v := (I6 Ef)) rfl) ?_)
 obtain ⟨a71, hs⟩ := bG hs
 refine aa (dQ rfl rfl a71) (aa (ae (v := (I6 ((Ef + 1)))) rfl) (aA (au ?_)))
 subst hnx65
 exact jM ⟨m641, (Ef + 1), Gf, BP⟩ ⟨h.cn _, hs⟩
 refine aN (nG (aa (ah (v := (I6 Ef)) rfl) (aa (fe (pv := [(0, (I6 3)), (1, (I6 Ef))]) (out := [(I6 3), (I6 Ef)]) C8 rfl ⟨0, 1, [(I6 3)], rfl, rfl, rfl, bD rfl, ⟨1, 1, [(I6 Ef)], rfl, rfl, rfl, bD rfl, rfl⟩⟩) ?_)))
 obtain ⟨L6, e73, hs⟩ := aL hs
 refine aW Qj rfl rfl (uB _ _ h.lt (hT.Zn h.keep hG) (⟨3, Ef⟩ : Tok) _ e73) ?_
 rintro _ w ⟨k74, rfl⟩
 refine ⟨_, rfl, ?_⟩
 replace h := h.grow k74
 refine aa (ah (v := (aV x29)) rfl) (aa (JG rfl rfl) (nN (aI hs rfl (fun c75 hs => ?_) (fun c75 hs => ?_))))
 refine aD (aa (ah (v := (I6 Ef)) rfl) (aa (fe (pv := [(0, (I6 3)), (1, (I6 Ef))]) (out := [(I6 3), (I6 Ef)]) C8 rfl ⟨0, 1, [(I6 3)], rfl, rfl, rfl, bD rfl, ⟨1, 1, [(I6 Ef)], rfl, rfl, rfl, bD rfl, rfl⟩⟩) (dK (vs := [(I6 3), (I6 Ef)]) h 12 [(I6 3), (I6 Ef)] rfl nQ rfl rfl rfl rfl rfl (ai rfl (ai rfl aS)) fun w h => aA (ax (au ?_)))))
 exact bS (3, Ef) ⟨h.cn _, hs⟩
 refine aH (ax (au ?_))
 exact bS (LZ, yD) ⟨h.cn _, hs⟩
 refine jl (bQ (bQ (fq (ak (aM (nG (aa (ah (v := v16) rfl) (aa (bU (vs := [(I6 LZ), (I6 yD)]) h 12 rfl nQ rfl rfl rfl) (sV (R := oz) (vs := [(.agg #[(I6 LZ), (I6 yD)])]) (xs := [(⟨LZ, yD⟩ : Tok)]) h 14 OV rfl rfl rfl ⟨rfl, trivial⟩ rfl fun w u76 h => ?_)))))))))
 obtain ⟨a77, hs⟩ := bG hs
 refine mW (R := oz) (m := [(⟨LZ, yD⟩ : Tok)]) h 11 rfl (h.eT 14 rfl) OV rfl rfl rfl a77.1 a77.2 fun w L8 h => aa (ae (v := L8) rfl) (nJ (aa (bU (vs := [(I6 LZ), (I6 yD)]) h 12 rfl nQ rfl rfl rfl) (aa (fo (k := 0) h 7 rfl CY rfl rfl) (aW VU rfl rfl (xO _ _ h.lt (⟨LZ, yD⟩ : Tok) vF F (h.gV 4 rfl) 6 _ rfl) ?_))))
 rintro _ w ⟨k79, rfl⟩
 refine ⟨_, rfl, ?_⟩
 replace h := h.grow k79
 refine aa (gM rfl rfl) (aa (ah (v := (.bool (decide (((ic (⟨LZ, yD⟩ : Tok) F 6) : Int) ≠ 0)))) rfl) (aF rfl rfl (fun q => ah (v := L8) rfl) (aF rfl rfl (fun q => bM nZ (eu q) (h.eT 11 rfl)) (aF rfl rfl (fun q => mV (eu q) rfl) (aa (jD rfl rfl mY) (nN (aI hs rfl (fun c80 hs => ?_) (fun c80 hs => ?_))))))))
 refine nG (gP h 2 [(.bool (false))] rfl BQ rfl rfl rfl rfl rfl fun w h => nN (jl (bQ (Bb (by decide) (bQ (bQ (fq (ak (nG (aa (ah (v := L8) rfl) (aa (ae (v := L8) rfl) (nR (bR (v := L8) Tryz.results104 rfl ?_)))))))))))))
 replace h := h.freeze 11 rfl
 replace h := h.pair 1 2 (by decide)
 obtain rfl := fM hs
 subst wE
 obtain ⟨o1, o2, o3⟩ := h.lu 1 (C := (.two (.blk ba [(I6 y31)]) (.blk bo [(.bool (false))]) : Chunk)) rfl ⟨trivial, trivial⟩
 exact ⟨o2, L8, rfl, o1, o3, h.Qc 1 11 rfl rfl⟩
 refine aH (ak (aD (aa (ah (v := (I6 AU)) rfl) (aa (bU (vs := [(I6 LZ), (I6 yD)]) h 12 rfl nQ rfl rfl rfl) (aa (fo (k := 0) h 7 rfl CY rfl rfl) ?_)))))
 obtain ⟨y81, e82, hs⟩ := aL hs
 refine aW Qk rfl rfl (wO _ _ h.lt (⟨LZ, yD⟩ : Tok) vF F (h.gV 4 rfl) _ e82) ?_
 rintro _ w ⟨k83, rfl⟩
 refine ⟨_, rfl, ?_⟩
 replace h := h.grow k83
 obtain ⟨a84, hs⟩ := bG hs
 refine aa (dQ rfl rfl a84) (aa (ae (v := (I6 ((AU + y81)))) rfl) (aA (ax (ak (aD (aa (ah (v := (I6 ((AU + y81)))) rfl) ?_))))))
 obtain ⟨a85, hs⟩ := bG hs
 refine aa (oh rfl rfl a85) (aa (ae (v := (I6 (((AU + y81) - 1)))) rfl) (aA (au ?_)))
 subst hnx25
 exact jM ⟨m241, L8, (rJ ++ [(⟨LZ, yD⟩ : Tok)]), ((AU + y81) - 1), zB, y31⟩ ⟨h.cn _, hs⟩
 obtain ⟨sr47, hs1, hf1⟩ := hf.cons e48
 replace hs := hs1
 refine aa (bg rfl rfl) (nN ?_)
 refine aM (TK rfl (aH (ak ?_)))
 refine aN (nG (aa (r_entry (f := aV) h 13 rfl rfl) (aa (bg rfl rfl) (aa (bg rfl rfl) (aa (ae (v := (I6 zY.1)) rfl) (aa (ae (v := (aV zY.2)) rfl) (nJ (aa (ah (v := (aV x29)) rfl) (aa (ah (v := (aV zY.2)) rfl) ?_)))))))))
 obtain ⟨Lv, e87, hs⟩ := aL hs
 refine aW fnOk105 rfl rfl (Fe _ _ h.lt x29 zY.2 _ e87) ?_
 rintro _ w ⟨k88, rfl⟩
 refine ⟨_, rfl, ?_⟩
 replace h := h.grow k88
 obtain ⟨vZ, e90, hs⟩ := aL hs
 refine aW I1 rfl rfl (uT _ _ h.lt (hT.Zn h.keep hG) Lv _ e90) ?_
 rintro _ w ⟨k93, u91, rfl, g92⟩
 refine ⟨_, rfl, ?_⟩
 replace h := h.grow k93
 refine aa (ah (v := (.tuple #[(I6 vZ.1), u91])) rfl) (aa (bg rfl rfl) (aa (bg rfl rfl) (aa (ae (v := (I6 vZ.1)) rfl) (aa (ae (v := u91) rfl) (nN (cu (σ := Bool) (inl (rg 38 10)) (fun Xi => [(47, (.bool (Xi)))]) (fun Xi w => SH w0 M K0 w (hset [(1, .blk ba [(I6 y31)]), (2, .blk bo [(.bool (zB))]), (3, .rd sO vW W), (4, .sr kY vF F), (5, .pt bw 0 [vW]), (6, .pt bwd 0 [(.func (.func 103) #[] #[(.pointer (some ⟨ba, 0, none⟩)), (.pointer (some ⟨bw, 0, none⟩)), (.pointer (some ⟨bo, 0, none⟩))])]), (7, .pt bf 0 [vF]), (11, .own oz 160 v16 rJ), (12, .blk b32 [(I6 TF), (I6 Bf)]), (13, .iJ (Ob aV b33 G9 (some zY) lr46))]) ∧ xV zY vZ TF Bf Xi = some sr47) ?_ ?_))))))
 rintro Xi w dR ⟨h, hs⟩
 refine aI hs rfl (fun c95 hs => ?_) (fun c95 hs => ?_)
 refine aD (aa (ah (v := (I6 zY.1)) rfl) (aa (ah (v := (I6 vZ.1)) rfl) (aa (fe (pv := [(0, (I6 zY.1)), (1, (I6 vZ.1))]) (out := [(I6 zY.1), (I6 vZ.1)]) C8 rfl ⟨0, 1, [(I6 zY.1)], rfl, rfl, rfl, bD rfl, ⟨1, 1, [(I6 vZ.1)], rfl, rfl, rfl, bD rfl, rfl⟩⟩) (dK (vs := [(I6 zY.1), (I6 vZ.1)]) h 12 [(I6 zY.1), (I6 vZ.1)] rfl nQ rfl rfl rfl rfl rfl (ai rfl (ai rfl aS)) fun w h => aA (ax (au ?_))))))
 replace h := h.OM 13 rfl
 obtain rfl := fM hs
 exact jM ⟨lr46, zY.1, vZ.1⟩ ⟨h.cn _, hf1⟩ (by have := e48.length_eq; simp only [List.length_cons] at this; dsimp only; omega)
 refine aH (ax (au ?_))
 replace h := h.OM 13 rfl
 obtain rfl := fM hs
 exact jM ⟨lr46, TF, Bf⟩ ⟨h.cn _, hf1⟩ (by have := e48.length_eq; simp only [List.length_cons] at this; dsimp only; omega)
 refine aD (aa (ah (v := u91) rfl) (aa (WM WV rfl g92 rfl) (aa (ah (v := (.bool ((!vZ.2)))) rfl) (gT (b := (!vZ.2)) hs (fun JQ hs => ?_) (fun JQ hs => ?_)))))
 refine cz rfl (cB JQ) (aa (ah (v := (I6 zY.1)) rfl) (cz rfl (cB JQ) (aa (ah (v := (I6 vZ.1)) rfl) (cz rfl (cB JQ) (aa (fe (pv := [(0, (I6 zY.1)), (1, (I6 vZ.1))]) (out := [(I6 zY.1), (I6 vZ.1)]) C8 rfl ⟨0, 1, [(I6 zY.1)], rfl, rfl, rfl, bD rfl, ⟨1, 1, [(I6 vZ.1)], rfl, rfl, rfl, bD rfl, rfl⟩⟩) (cz rfl (cB JQ) ?_))))))
 obtain ⟨uZ, e98, hs⟩ := aL hs
 refine aW Qj rfl rfl (uB _ _ h.lt (hT.Zn h.keep hG) (⟨zY.1, vZ.1⟩ : Tok) _ e98) ?_
 rintro _ w ⟨k99, rfl⟩
 refine ⟨_, rfl, ?_⟩
 replace h := h.grow k99
 refine cz rfl (cB JQ) (aa (ah (v := (aV x29)) rfl) (cz rfl (cB JQ) (aa (JG rfl rfl) (aa (bY (b := true) (v := (.bool (decide ((uZ : Str) = x29)))) (cB JQ) rfl) (aA (au ?_))))))
 exact bS (decide ((uZ : Str) = x29)) ⟨h.cn _, hs⟩
 refine mO rfl (cB JQ) rfl (mO rfl (cB JQ) rfl (mO rfl (cB JQ) rfl (mO rfl (cB JQ) rfl (mO rfl (cB JQ) rfl (mO rfl (cB JQ) rfl (aa (bY (b := false) (v := (.bool (false))) (cB JQ) rfl) (aA (au ?_))))))))
 exact bS false ⟨h.cn _, hs⟩
 refine aD (aa (fo (k := 0) h 6 rfl Eb rfl rfl) (jY (args := [(.pointer (some ⟨ba, 0, none⟩)), (.pointer (some ⟨bw, 0, none⟩)), (.pointer (some ⟨bo, 0, none⟩))]) D9 rfl rfl (aQ (args := [(.pointer (some ⟨ba, 0, none⟩)), (.pointer (some ⟨bw, 0, none⟩)), (.pointer (some ⟨bo, 0, none⟩))]) Tryz.func103 rfl Tryz.ntmps103 (bD rfl) (nG (aa (ae (v := (aV [])) rfl) (nK (aa (az h 1 rfl aR rfl rfl) (aa (fo (k := 0) h 5 rfl rD rfl rfl) (aa (bM il rfl (h.kL 3 rfl)) (aa (rH rfl rfl) (nN (aI hs rfl (fun c100 hs => ?_) (fun c100 hs => ?_)))))))))))))
 refine nG (gP h 2 [(.bool (false))] rfl BQ rfl rfl rfl rfl rfl fun w h => nJ (aa (ae (v := (aV [])) rfl) (nR (ay (bR (v := (aV [])) Tryz.results103 rfl (⟨_, rfl, ?_⟩))))))
 refine aa (ae (v := (aV [])) rfl) (aA (au ?_))
 exact bS ([], false, y20) ⟨h.cn _, hs⟩
 refine nS (aa (az h 1 rfl aR rfl rfl) ?_)
 obtain ⟨Xa, hs⟩ := bG hs
 refine aa (dQ rfl rfl Xa) (gP h 1 [(I6 ((y20 + 1)))] rfl aR rfl rfl rfl rfl rfl fun w h => nJ (aa (fo (k := 0) h 5 rfl rD rfl rfl) (aa (az h 1 rfl aR rfl rfl) ?_)))
 obtain ⟨Xj, hs⟩ := bG hs
 refine aa (oh rfl rfl Xj) ?_
 obtain ⟨x103, Xb, hs⟩ := aL hs
 obtain ⟨b106, o107, cs108, h, r109, i105⟩ := h.Cn 3 15 rfl il rfl (aC Xb).1 (aC Xb).2
 obtain rfl := r109
 refine aa (i105 _ _ _ _ _ _ _ _ _ rfl rfl) (aa (fo (k := 0) h 15 rfl CZ rfl rfl) (aa (ae (v := (aV x103)) rfl) (nR (bR (v := (aV x103)) Tryz.results103 rfl (⟨_, rfl, ?_⟩)))))
 refine aa (ae (v := (aV x103)) rfl) (aA (au ?_))
 exact bS (x103, Uo, (y20 + 1)) ⟨h.cn _, hs⟩
 refine nE (aa (ah (v := v16) rfl) (aa (ae (v := v16) rfl) (nR (bR (v := v16) Tryz.results104 rfl ?_))))
 replace h := h.freeze 11 rfl
 replace h := h.pair 1 2 (by decide)
 obtain rfl := fM hs
 subst wE
 obtain ⟨o1, o2, o3⟩ := h.lu 1 (C := (.two (.blk ba [(I6 y20)]) (.blk bo [(.bool (Uo))]) : Chunk)) rfl ⟨trivial, trivial⟩
 exact ⟨o2, v16, rfl, o1, o3, h.Qc 1 11 rfl rfl⟩
def Eh (rR : List cO) (ql : Int) (CG : Int) (qj : List Tok) (DY : List Tok) (Ut : List cO) (p9 : (List cO × Int × Bool) → Option (List cO × gF)) (y57 : Int) (y58 : Bool) (yD : List cO) : Option (List cO × gF) :=
  iK (Room 112 rR [(⟨(ql + 1), CG, qj, DY, Ut, yD⟩ : cO)]) (p9 ((rR ++ [(⟨(ql + 1), CG, qj, DY, Ut, yD⟩ : cO)]), y57, y58))
def Ei (F0 : gF → List Str → List iO → Int → Option (List cO × gF)) (ql : Int) (a : Int) (W : List Str) (F : List iO) (rR : List cO) (CG : Int) (qj : List Tok) (DY : List Tok) (p9 : (List cO × Int × Bool) → Option (List cO × gF)) (AR : Int) (Dh : Bool) (Ut : List cO) : Option (List cO × gF) :=
  bif decide (((ql + 1) : Int) = 6) then iK (kJ (a + 1)) ((F0 (⟨AR, Dh⟩ : gF) W F (a + 1)).bind fun wu => Eh rR ql CG qj DY Ut p9 wu.2.at_ wu.2.ok wu.1) else Eh rR ql CG qj DY Ut p9 AR Dh []
def xY (F0 : gF → List Str → List iO → Int → Option (List cO × gF)) (ql : Int) (a : Int) (W : List Str) (F : List iO) (rR : List cO) (CG : Int) (qj : List Tok) (p9 : (List cO × Int × Bool) → Option (List cO × gF)) (Oc : Int) (wo : Bool) (DY : List Tok) : Option (List cO × gF) :=
  bif (decide (((ql + 1) : Int) = 6) || decide (((ql + 1) : Int) = 7)) then iK (kJ (a + 1)) ((F0 (⟨Oc, wo⟩ : gF) W F (a + 1)).bind fun y77 => Ei F0 ql a W F rR CG qj DY p9 y77.2.at_ y77.2.ok y77.1) else Ei F0 ql a W F rR CG qj DY p9 Oc wo []
def xZ (N : Nat) (F0 : gF → List Str → List iO → Int → Option (List cO × gF)) (ql : Int) (W : List Str) (F : List iO) (a : Int) (rR : List cO) (CG : Int) (p9 : (List cO × Int × Bool) → Option (List cO × gF)) (Uu : Int) (Uv : Bool) (qj : List Tok) : Option (List cO × gF) :=
  bif decide (((ql + 1) : Int) = 2) then (I8 N (⟨Uu, Uv⟩ : gF) W F).bind fun Lv => xY F0 ql a W F rR CG qj p9 Lv.2.at_ Lv.2.ok Lv.1 else xY F0 ql a W F rR CG qj p9 Uu Uv []
def vM (N : Nat) (F0 : gF → List Str → List iO → Int → Option (List cO × gF)) (ql : Int) (W : List Str) (F : List iO) (a : Int) (rR : List cO) (p9 : (List cO × Int × Bool) → Option (List cO × gF)) (Bf : Int) (Ed : Bool) (CG : Int) : Option (List cO × gF) :=
  bif decide (((ql + 1) : Int) ≠ 4) then (I8 N (⟨Bf, Ed⟩ : gF) W F).bind fun y95 => xZ N F0 ql W F a rR CG p9 y95.2.at_ y95.2.ok y95.1 else xZ N F0 ql W F a rR CG p9 Bf Ed []
def yc (N : Nat) (F0 : gF → List Str → List iO → Int → Option (List cO × gF)) (rR : List cO) (W : List Str) (F : List iO) (a : Int) (p9 : (List cO × Int × Bool) → Option (List cO × gF)) (x27 : Str) (y28 : Int) (y29 : Bool) : Option (List cO × gF) :=
  bif decide ((x27 : Str) = [125]) then some (rR, (⟨y28, y29⟩ : gF)) else (IU [115, 101, 116, 32, 112, 117, 116, 32, 115, 97, 121, 32, 112, 97, 117, 115, 101, 32, 103, 111, 32, 105, 102, 32, 119, 104, 105, 108, 101, 32, 114, 101, 116, 117, 114, 110]).bind fun y31 => (slices_Index_string y31 x27).bind fun ql => iK (kJ (ql + 1)) (bif (!(y29 && decide ((0 : Int) < (ql + 1)))) then some ([], (⟨y28, (y29 && decide ((0 : Int) < (ql + 1)))⟩ : gF)) else bif decide (((ql + 1) : Int) ≤ 2) then bif decide (((W.length : Int) : Int) ≤ y28) then (EY []).bind fun y104 => vM N F0 ql W F a rR p9 y28 false y104.1 else iK (kJ (y28 + 1)) (iK (kJ ((y28 + 1) - 1)) ((idx W ((y28 + 1) - 1)).bind fun Lx => (EY Lx).bind fun Uw => vM N F0 ql W F a rR p9 (y28 + 1) (y29 && decide ((0 : Int) < (ql + 1))) Uw.1)) else vM N F0 ql W F a rR p9 y28 (y29 && decide ((0 : Int) < (ql + 1))) 0)
def yf (N : Nat) (F0 : gF → List Str → List iO → Int → Option (List cO × gF)) (W : List Str) (F : List iO) (a : Int) (s : List cO × Int × Bool) (p9 : List cO × Int × Bool → Option (List cO × gF)) : Option (List cO × gF) :=
  match s with | (rR, LA, N7) => bif N7 then bif decide (((W.length : Int) : Int) ≤ LA) then yc N F0 rR W F a p9 [] LA false else iK (kJ (LA + 1)) (iK (kJ ((LA + 1) - 1)) ((idx W ((LA + 1) - 1)).bind fun MS => yc N F0 rR W F a p9 MS (LA + 1) N7)) else some ([], (⟨LA, N7⟩ : gF))
def zC (N : Nat) (F0 : gF → List Str → List iO → Int → Option (List cO × gF)) (W : List Str) (F : List iO) (a : Int) (y1 : Int) (y2 : Bool) : Option (List cO × gF) :=
  again (yf N F0 W F a) N ([], y1, y2)
def yg (N : Nat) (F0 : gF → List Str → List iO → Int → Option (List cO × gF)) (W : List Str) (F : List iO) (a : Int) (Ha : Bool) (LB : Int) (QD : Bool) : Option (List cO × gF) :=
  bif Ha then zC N F0 W F a LB false else zC N F0 W F a LB QD
def Bg (N : Nat) (F0 : gF → List Str → List iO → Int → Option (List cO × gF)) (sx : gF) (W : List Str) (F : List iO) (a : Int) : Option (List cO × gF) :=
  bif decide (((W.length : Int) : Int) ≤ sx.at_) then yg N F0 W F a true sx.at_ false else iK (kJ (sx.at_ + 1)) (iK (kJ ((sx.at_ + 1) - 1)) ((idx W ((sx.at_ + 1) - 1)).bind fun RP => yg N F0 W F a (decide ((RP : Str) ≠ [123]) || decide ((6 : Int) < a)) (sx.at_ + 1) sx.ok))
def zD : Nat → gF → List Str → List iO → Int → Option (List cO × gF)
  | 0 => fun _ _ _ _ => none
  | N + 1 => Bg N (zD N)
theorem Ux : ∀ (N : Nat) (w0 : World) (M : BS) (hM : ∀ b, M b → b < w0.heap.size) (hT : zo Tryz.prog 4 w0) (ba bo bw bwd bf be bb : Nat) (sx : gF) (hC : Chunk.holds w0 M (Chunk.own' (.two (.blk ba [(I6 sx.at_)]) (.blk bo [(.bool (sx.ok))]) : Chunk)) (.two (.blk ba [(I6 sx.at_)]) (.blk bo [(.bool (sx.ok))]) : Chunk)) (hap : ∀ b, Chunk.own' (.two (.blk ba [(I6 sx.at_)]) (.blk bo [(.bool (sx.ok))]) : Chunk) b → ¬ M b) (vW : Value) (W : List Str) (hvW : iL sO w0 (fun b => M b ∨ Chunk.own' (.two (.blk ba [(I6 sx.at_)]) (.blk bo [(.bool (sx.ok))]) : Chunk) b) vW W) (vF : Value) (F : List iO) (hvF : gB kY w0 (Chunk.own' (.two (.blk ba [(I6 sx.at_)]) (.blk bo [(.bool (sx.ok))]) : Chunk)) (fun b => M b ∨ Chunk.own' (.two (.blk ba [(I6 sx.at_)]) (.blk bo [(.bool (sx.ok))]) : Chunk) b) vF F) (hbw : ∃ E, w0.heap[bw]? = some (.cells #[vW] E (0, 0))) (nbw : ¬ Chunk.own' (.two (.blk ba [(I6 sx.at_)]) (.blk bo [(.bool (sx.ok))]) : Chunk) bw) (QB : ∃ E, w0.heap[bwd]? = some (.cells #[(.func (.func 103) #[] #[(.pointer (some ⟨ba, 0, none⟩)), (.pointer (some ⟨bw, 0, none⟩)), (.pointer (some ⟨bo, 0, none⟩))])] E (0, 0))) (MQ : ¬ Chunk.own' (.two (.blk ba [(I6 sx.at_)]) (.blk bo [(.bool (sx.ok))]) : Chunk) bwd) (hbf : ∃ E, w0.heap[bf]? = some (.cells #[vF] E (0, 0))) (nbf : ¬ Chunk.own' (.two (.blk ba [(I6 sx.at_)]) (.blk bo [(.bool (sx.ok))]) : Chunk) bf) (hbe : ∃ E, w0.heap[be]? = some (.cells #[(.func (.func 104) #[] #[(.pointer (some ⟨bo, 0, none⟩)), (.pointer (some ⟨bwd, 0, none⟩)), (.pointer (some ⟨bf, 0, none⟩))])] E (0, 0))) (nbe : ¬ Chunk.own' (.two (.blk ba [(I6 sx.at_)]) (.blk bo [(.bool (sx.ok))]) : Chunk) be) (hbb : ∃ E, w0.heap[bb]? = some (.cells #[(.func (.func 109) #[] #[(.pointer (some ⟨bwd, 0, none⟩)), (.pointer (some ⟨bo, 0, none⟩)), (.pointer (some ⟨be, 0, none⟩)), (.pointer (some ⟨bb, 0, none⟩))])] E (0, 0))) (nbb : ¬ Chunk.own' (.two (.blk ba [(I6 sx.at_)]) (.blk bo [(.bool (sx.ok))]) : Chunk) bb) (a : Int) (hG : ∀ b, Chunk.own' (.two (.blk ba [(I6 sx.at_)]) (.blk bo [(.bool (sx.ok))]) : Chunk) b → Tryz.prog.globals.size ≤ b) (r : List cO × gF) (hs : zD N sx W F a = some r),
    Calls Tryz.prog 109 #[(I6 a), (.pointer (some ⟨bwd, 0, none⟩)), (.pointer (some ⟨bo, 0, none⟩)), (.pointer (some ⟨be, 0, none⟩)), (.pointer (some ⟨bb, 0, none⟩))] w0 (fun e w' => aP (Chunk.own' (.two (.blk ba [(I6 sx.at_)]) (.blk bo [(.bool (sx.ok))]) : Chunk)) w0 w' ∧ ∃ u0, e = .returned (u0) ∧ Chunk.holds w' M (Chunk.own' (.two (.blk ba [.int .i64 r.2.at_]) (.blk bo [.bool r.2.ok]) : Chunk)) (.two (.blk ba [.int .i64 r.2.at_]) (.blk bo [.bool r.2.ok]) : Chunk) ∧ (∀ b, Chunk.own' (.two (.blk ba [.int .i64 r.2.at_]) (.blk bo [.bool r.2.ok]) : Chunk) b → b < w0.heap.size → Chunk.own' (.two (.blk ba [(I6 sx.at_)]) (.blk bo [(.bool (sx.ok))]) : Chunk) b) ∧ iL ik w' (fun b => M b ∨ Chunk.own' (.two (.blk ba [.int .i64 r.2.at_]) (.blk bo [.bool r.2.ok]) : Chunk) b) u0 r.1) := by
 intro N
 induction N with
 | zero => intro w0 M hM hT ba bo bw bwd bf be bb sx hC hap vW W hvW vF F hvF hbw nbw QB MQ hbf nbf hbe nbe hbb nbb a hG r hs; cases hs
 | succ N ih =>
 intro w0 M hM hT ba bo bw bwd bf be bb sx hC hap vW W hvW vF F hvF hbw nbw QB MQ hbf nbf hbe nbe hbb nbb a hG r hs
 replace hs : Bg N (zD N) sx W F a = some r := hs
 generalize zD N = F0 at hs ih
 refine aQ (args := [(I6 a), (.pointer (some ⟨bwd, 0, none⟩)), (.pointer (some ⟨bo, 0, none⟩)), (.pointer (some ⟨be, 0, none⟩)), (.pointer (some ⟨bb, 0, none⟩))]) Tryz.func109 rfl Tryz.ntmps109 (bD rfl) ?_
 have h := SH.IQ hM hC hap
 replace h := h.E5 3 hvW D6
 replace h := h.Zw 4 hvF (xN D6)
 replace h := h.D7 5 (cs := [vW]) hbw nbw (Cb (xN D6))
 replace h := h.D7 6 (cs := [(.func (.func 103) #[] #[(.pointer (some ⟨ba, 0, none⟩)), (.pointer (some ⟨bw, 0, none⟩)), (.pointer (some ⟨bo, 0, none⟩))])]) QB MQ (vI (Cb (xN D6)))
 replace h := h.D7 7 (cs := [vF]) hbf nbf (vI (vI (Cb (xN D6))))
 replace h := h.D7 8 (cs := [(.func (.func 104) #[] #[(.pointer (some ⟨bo, 0, none⟩)), (.pointer (some ⟨bwd, 0, none⟩)), (.pointer (some ⟨bf, 0, none⟩))])]) hbe nbe (vI (vI (vI (Cb (xN D6)))))
 replace h := h.D7 9 (cs := [(.func (.func 109) #[] #[(.pointer (some ⟨bwd, 0, none⟩)), (.pointer (some ⟨bo, 0, none⟩)), (.pointer (some ⟨be, 0, none⟩)), (.pointer (some ⟨bb, 0, none⟩))])]) hbb nbb (vI (vI (vI (vI (Cb (xN D6))))))
 have Uq := nbw
 have MR := MQ
 have Ur := nbf
 have nbeK := nbe
 have nbbK := nbb
 generalize wE : (.two (.blk ba [(I6 sx.at_)]) (.blk bo [(.bool (sx.ok))]) : Chunk).own' = K0 at h Uq MR Ur nbeK nbbK hG
 replace h := h.cK 1 2 (by decide) rfl rfl
 refine nG (aa (ae (v := (.slice none 0 0)) rfl) (nN (cu (σ := Int × Bool) (inl (rg 10 7)) (fun ⟨y1, y2⟩ => []) (fun ⟨y1, y2⟩ w => SH w0 M K0 w (hset [(1, .blk ba [(I6 y1)]), (2, .blk bo [(.bool (y2))]), (3, .rd sO vW W), (4, .sr kY vF F), (5, .pt bw 0 [vW]), (6, .pt bwd 0 [(.func (.func 103) #[] #[(.pointer (some ⟨ba, 0, none⟩)), (.pointer (some ⟨bw, 0, none⟩)), (.pointer (some ⟨bo, 0, none⟩))])]), (7, .pt bf 0 [vF]), (8, .pt be 0 [(.func (.func 104) #[] #[(.pointer (some ⟨bo, 0, none⟩)), (.pointer (some ⟨bwd, 0, none⟩)), (.pointer (some ⟨bf, 0, none⟩))])]), (9, .pt bb 0 [(.func (.func 109) #[] #[(.pointer (some ⟨bwd, 0, none⟩)), (.pointer (some ⟨bo, 0, none⟩)), (.pointer (some ⟨be, 0, none⟩)), (.pointer (some ⟨bb, 0, none⟩))])])]) ∧ zC N F0 W F a y1 y2 = some r) ?_ ?_)))
 rintro ⟨y1, y2⟩ w dR ⟨h, hs⟩
 refine nG (aa (ae (v := (.slice none 0 0)) rfl) (nN (aM (aN ?_))))
 replace h := h.yH (R := ik) (E := 147) 13
 refine gD (σ := Nat × Value × List cO × Int × Bool) (inl ([6, 7, 8, 9] ++ rg 17 66)) (fun ⟨m22, v15, rR, LA, N7⟩ => [(7, v15)]) (fun ⟨m22, v15, rR, LA, N7⟩ w => SH w0 M K0 w (hset [(1, .blk ba [(I6 LA)]), (2, .blk bo [(.bool (N7))]), (3, .rd sO vW W), (4, .sr kY vF F), (5, .pt bw 0 [vW]), (6, .pt bwd 0 [(.func (.func 103) #[] #[(.pointer (some ⟨ba, 0, none⟩)), (.pointer (some ⟨bw, 0, none⟩)), (.pointer (some ⟨bo, 0, none⟩))])]), (7, .pt bf 0 [vF]), (8, .pt be 0 [(.func (.func 104) #[] #[(.pointer (some ⟨bo, 0, none⟩)), (.pointer (some ⟨bwd, 0, none⟩)), (.pointer (some ⟨bf, 0, none⟩))])]), (9, .pt bb 0 [(.func (.func 109) #[] #[(.pointer (some ⟨bwd, 0, none⟩)), (.pointer (some ⟨bo, 0, none⟩)), (.pointer (some ⟨be, 0, none⟩)), (.pointer (some ⟨bb, 0, none⟩))])]), (13, .own ik 147 v15 rR)]) ∧ again (yf N F0 W F a) m22 (rR, LA, N7) = some r) (fun ⟨m22, v15, rR, LA, N7⟩ => m22) ⟨N, (.slice none 0 0), [], y1, y2⟩ ⟨rfl, trivial⟩ ?_ ?_
 exact ⟨h.cn _, hs⟩
 rintro ⟨m22, v15, rR, LA, N7⟩ w dR ⟨h, hs⟩
 obtain ⟨m221, m22e, m22h⟩ := uq hs
 subst m22e
 replace hs := m22h
 generalize hnx23 : again (yf N F0 W F a) m221 = p9 at hs
 refine aM (nG (aa (az h 2 rfl BQ rfl rfl) (nN (aI hs rfl (fun c26 hs => ?_) (fun c26 hs => ?_)))))
 refine aH (ak (aN (cu (σ := Str × Int × Bool) (inl [8, 18, 19]) (fun ⟨x27, y28, y29⟩ => [(8, (aV x27))]) (fun ⟨x27, y28, y29⟩ w => SH w0 M K0 w (hset [(1, .blk ba [(I6 y28)]), (2, .blk bo [(.bool (y29))]), (3, .rd sO vW W), (4, .sr kY vF F), (5, .pt bw 0 [vW]), (6, .pt bwd 0 [(.func (.func 103) #[] #[(.pointer (some ⟨ba, 0, none⟩)), (.pointer (some ⟨bw, 0, none⟩)), (.pointer (some ⟨bo, 0, none⟩))])]), (7, .pt bf 0 [vF]), (8, .pt be 0 [(.func (.func 104) #[] #[(.pointer (some ⟨bo, 0, none⟩)), (.pointer (some ⟨bwd, 0, none⟩)), (.pointer (some ⟨bf, 0, none⟩))])]), (9, .pt bb 0 [(.func (.func 109) #[] #[(.pointer (some ⟨bwd, 0, none⟩)), (.pointer (some ⟨bo, 0, none⟩)), (.pointer (some ⟨be, 0, none⟩)), (.pointer (some ⟨bb, 0, none⟩))])]), (13, .own ik 147 v15 rR)]) ∧ yc N F0 rR W F a p9 x27 y28 y29 = some r) ?_ ?_)))
 rintro ⟨x27, y28, y29⟩ w dR ⟨h, hs⟩
 refine aM (nG (aa (ah (v := (aV x27)) rfl) (aa (JG rfl rfl) (nN (aI hs rfl (fun c30 hs => ?_) (fun c30 hs => ?_))))))
 refine nG (aa (ah (v := v15) rfl) (aa (ae (v := v15) rfl) (nR (ay (aB (ay (aB (ay (bR (v := v15) Tryz.results109 rfl ?_)))))))))
 replace h := h.freeze 13 rfl
 replace h := h.pair 1 2 (by decide)
 obtain rfl := fM hs
 subst wE
 obtain ⟨o1, o2, o3⟩ := h.lu 1 (C := (.two (.blk ba [(I6 y28)]) (.blk bo [(.bool (y29))]) : Chunk)) rfl ⟨trivial, trivial⟩
 exact ⟨o2, v15, rfl, o1, o3, h.Qc 1 13 rfl rfl⟩
 refine nS ?_
 obtain ⟨y31, e32, hs⟩ := aL hs
 refine aW VV rfl rfl (Dc _ _ h.lt (hT.Zn h.keep hG) [115, 101, 116, 32, 112, 117, 116, 32, 115, 97, 121, 32, 112, 97, 117, 115, 101, 32, 103, 111, 32, 105, 102, 32, 119, 104, 105, 108, 101, 32, 114, 101, 116, 117, 114, 110] _ e32) ?_
 rintro _ w ⟨k35, u33, rfl, g34⟩
 refine ⟨_, rfl, ?_⟩
 replace h := h.KX 14 k35 g34
 refine aa (ah (v := (aV x27)) rfl) ?_
 obtain ⟨ql, e37, hs⟩ := aL hs
 refine aW fnOk110 rfl rfl (EK _ _ h.lt u33 y31 (h.kL 14 rfl) x27 _ e37) ?_
 rintro _ w ⟨V6, rfl⟩
 refine ⟨_, rfl, ?_⟩
 replace h := h.grow V6
 obtain ⟨a39, hs⟩ := bG hs
 refine aa (dQ rfl rfl a39) (aa (fe (pv := [(0, (I6 ((ql + 1))))]) (out := [(I6 ((ql + 1))), (I6 0), (.slice none 0 0), (.slice none 0 0), (.slice none 0 0), (.slice none 0 0)]) WY rfl ⟨0, 1, [(I6 ((ql + 1)))], rfl, rfl, rfl, bD rfl, rfl⟩) (bI h 15 tu fun w b40 h => dK (vs := [(I6 ((ql + 1))), (I6 0), (.slice none 0 0), (.slice none 0 0), (.slice none 0 0), (.slice none 0 0)]) h 15 [(I6 ((ql + 1))), (I6 0), (.slice none 0 0), (.slice none 0 0), (.slice none 0 0), (.slice none 0 0)] rfl tu rfl rfl rfl rfl rfl (ai rfl (ai rfl (ai rfl (ai rfl (ai rfl (ai rfl aS)))))) fun w h => nK (aa (az h 2 rfl BQ rfl rfl) (aa (ah (v := (.bool (y29))) rfl) (aF rfl rfl (fun q => ag nC rfl) (aF rfl rfl (fun q => az h 15 rfl aR (eu q) rfl) (aF rfl rfl (fun q => mV (eu q) rfl) (aa (fZ rfl rfl mY) (gP h 2 [(.bool ((y29 && decide ((0 : Int) < (ql + 1)))))] rfl BQ rfl rfl rfl rfl rfl fun w h => nJ (aa (az h 2 rfl BQ rfl rfl) (aa (fw rfl) (nN ?_))))))))))))
 refine aI hs rfl (fun c41 hs => ?_) (fun c41 hs => ?_)
 refine jl (bQ (Bb (by decide) (bQ (fq (ak (nG (aa (ae (v := (.slice none 0 0)) rfl) (nR (bR (v := (.slice none 0 0)) Tryz.results109 rfl ?_)))))))))
 replace h := h.pair 1 2 (by decide)
 obtain rfl := fM hs
 subst wE
 obtain ⟨o1, o2, o3⟩ := h.lu 1 (C := (.two (.blk ba [(I6 y28)]) (.blk bo [(.bool ((y29 && decide ((0 : Int) < (ql + 1)))))]) : Chunk)) rfl ⟨trivial, trivial⟩
 exact ⟨o2, .slice none 0 0, rfl, o1, o3, gB.nil⟩
 refine aH (ak (cu (σ := Int × Bool × Int) (inl (rg 36 10)) (fun ⟨Bf, Ed, CG⟩ => []) (fun ⟨Bf, Ed, CG⟩ w => SH w0 M K0 w (hset [(1, .blk ba [(I6 Bf)]), (2, .blk bo [(.bool (Ed))]), (3, .rd sO vW W), (4, .sr kY vF F), (5, .pt bw 0 [vW]), (6, .pt bwd 0 [(.func (.func 103) #[] #[(.pointer (some ⟨ba, 0, none⟩)), (.pointer (some ⟨bw, 0, none⟩)), (.pointer (some ⟨bo, 0, none⟩))])]), (7, .pt bf 0 [vF]), (8, .pt be 0 [(.func (.func 104) #[] #[(.pointer (some ⟨bo, 0, none⟩)), (.pointer (some ⟨bwd, 0, none⟩)), (.pointer (some ⟨bf, 0, none⟩))])]), (9, .pt bb 0 [(.func (.func 109) #[] #[(.pointer (some ⟨bwd, 0, none⟩)), (.pointer (some ⟨bo, 0, none⟩)), (.pointer (some ⟨be, 0, none⟩)), (.pointer (some ⟨bb, 0, none⟩))])]), (13, .own ik 147 v15 rR), (15, .blk b40 [(I6 ((ql + 1))), (I6 CG), (.slice none 0 0), (.slice none 0 0), (.slice none 0 0), (.slice none 0 0)])]) ∧ vM N F0 ql W F a rR p9 Bf Ed CG = some r) ?_ ?_))
 rintro ⟨Bf, Ed, CG⟩ w dR ⟨h, hs⟩
 refine cu (σ := Int × Bool × Value × List Tok) (inl (rg 46 6)) (fun ⟨Uu, Uv, v47, qj⟩ => []) (fun ⟨Uu, Uv, v47, qj⟩ w => SH w0 M K0 w (hset [(1, .blk ba [(I6 Uu)]), (2, .blk bo [(.bool (Uv))]), (3, .rd sO vW W), (4, .sr kY vF F), (5, .pt bw 0 [vW]), (6, .pt bwd 0 [(.func (.func 103) #[] #[(.pointer (some ⟨ba, 0, none⟩)), (.pointer (some ⟨bw, 0, none⟩)), (.pointer (some ⟨bo, 0, none⟩))])]), (7, .pt bf 0 [vF]), (8, .pt be 0 [(.func (.func 104) #[] #[(.pointer (some ⟨bo, 0, none⟩)), (.pointer (some ⟨bwd, 0, none⟩)), (.pointer (some ⟨bf, 0, none⟩))])]), (9, .pt bb 0 [(.func (.func 109) #[] #[(.pointer (some ⟨bwd, 0, none⟩)), (.pointer (some ⟨bo, 0, none⟩)), (.pointer (some ⟨be, 0, none⟩)), (.pointer (some ⟨bb, 0, none⟩))])]), (13, .own ik 147 v15 rR), (15, .blk b40 [(I6 ((ql + 1))), (I6 CG), v47, (.slice none 0 0), (.slice none 0 0), (.slice none 0 0)]), (16, .rd oz v47 qj)]) ∧ xZ N F0 ql W F a rR CG p9 Uu Uv qj = some r) ?_ ?_
 rintro ⟨Uu, Uv, v47, qj⟩ w dR ⟨h, hs⟩
 refine cu (σ := Int × Bool × Value × List Tok) (inl (rg 52 6)) (fun ⟨Oc, wo, v51, DY⟩ => []) (fun ⟨Oc, wo, v51, DY⟩ w => SH w0 M K0 w (hset [(1, .blk ba [(I6 Oc)]), (2, .blk bo [(.bool (wo))]), (3, .rd sO vW W), (4, .sr kY vF F), (5, .pt bw 0 [vW]), (6, .pt bwd 0 [(.func (.func 103) #[] #[(.pointer (some ⟨ba, 0, none⟩)), (.pointer (some ⟨bw, 0, none⟩)), (.pointer (some ⟨bo, 0, none⟩))])]), (7, .pt bf 0 [vF]), (8, .pt be 0 [(.func (.func 104) #[] #[(.pointer (some ⟨bo, 0, none⟩)), (.pointer (some ⟨bwd, 0, none⟩)), (.pointer (some ⟨bf, 0, none⟩))])]), (9, .pt bb 0 [(.func (.func 109) #[] #[(.pointer (some ⟨bwd, 0, none⟩)), (.pointer (some ⟨bo, 0, none⟩)), (.pointer (some ⟨be, 0, none⟩)), (.pointer (some ⟨bb, 0, none⟩))])]), (13, .own ik 147 v15 rR), (15, .blk b40 [(I6 ((ql + 1))), (I6 CG), v47, v51, (.slice none 0 0), (.slice none 0 0)]), (16, .rd oz v47 qj), (17, .rd oz v51 DY)]) ∧ xY F0 ql a W F rR CG qj p9 Oc wo DY = some r) ?_ ?_
 rintro ⟨Oc, wo, v51, DY⟩ w dR ⟨h, hs⟩
 refine cu (σ := Int × Bool × Value × List cO) (inl (rg 58 13)) (fun ⟨AR, Dh, v55, Ut⟩ => []) (fun ⟨AR, Dh, v55, Ut⟩ w => SH w0 M K0 w (hset [(1, .blk ba [(I6 AR)]), (2, .blk bo [(.bool (Dh))]), (3, .rd sO vW W), (4, .sr kY vF F), (5, .pt bw 0 [vW]), (6, .pt bwd 0 [(.func (.func 103) #[] #[(.pointer (some ⟨ba, 0, none⟩)), (.pointer (some ⟨bw, 0, none⟩)), (.pointer (some ⟨bo, 0, none⟩))])]), (7, .pt bf 0 [vF]), (8, .pt be 0 [(.func (.func 104) #[] #[(.pointer (some ⟨bo, 0, none⟩)), (.pointer (some ⟨bwd, 0, none⟩)), (.pointer (some ⟨bf, 0, none⟩))])]), (9, .pt bb 0 [(.func (.func 109) #[] #[(.pointer (some ⟨bwd, 0, none⟩)), (.pointer (some ⟨bo, 0, none⟩)), (.pointer (some ⟨be, 0, none⟩)), (.pointer (some ⟨bb, 0, none⟩))])]), (13, .own ik 147 v15 rR), (15, .blk b40 [(I6 ((ql + 1))), (I6 CG), v47, v51, v55, (.slice none 0 0)]), (16, .rd oz v47 qj), (17, .rd oz v51 DY), (18, .rd ik v55 Ut)]) ∧ Ei F0 ql a W F rR CG qj DY p9 AR Dh Ut = some r) ?_ ?_
 rintro ⟨AR, Dh, v55, Ut⟩ w dR ⟨h, hs⟩
 refine cu (σ := Int × Bool × Value × List cO) (inl (rg 71 8)) (fun ⟨y57, y58, v59, yD⟩ => []) (fun ⟨y57, y58, v59, yD⟩ w => SH w0 M K0 w (hset [(1, .blk ba [(I6 y57)]), (2, .blk bo [(.bool (y58))]), (3, .rd sO vW W), (4, .sr kY vF F), (5, .pt bw 0 [vW]), (6, .pt bwd 0 [(.func (.func 103) #[] #[(.pointer (some ⟨ba, 0, none⟩)), (.pointer (some ⟨bw, 0, none⟩)), (.pointer (some ⟨bo, 0, none⟩))])]), (7, .pt bf 0 [vF]), (8, .pt be 0 [(.func (.func 104) #[] #[(.pointer (some ⟨bo, 0, none⟩)), (.pointer (some ⟨bwd, 0, none⟩)), (.pointer (some ⟨bf, 0, none⟩))])]), (9, .pt bb 0 [(.func (.func 109) #[] #[(.pointer (some ⟨bwd, 0, none⟩)), (.pointer (some ⟨bo, 0, none⟩)), (.pointer (some ⟨be, 0, none⟩)), (.pointer (some ⟨bb, 0, none⟩))])]), (13, .own ik 147 v15 rR), (15, .blk b40 [(I6 ((ql + 1))), (I6 CG), v47, v51, v55, v59]), (16, .rd oz v47 qj), (17, .rd oz v51 DY), (18, .rd ik v55 Ut), (19, .rd ik v59 yD)]) ∧ Eh rR ql CG qj DY Ut p9 y57 y58 yD = some r) ?_ ?_
 rintro ⟨y57, y58, v59, yD⟩ w dR ⟨h, hs⟩
 refine aD (aa (ah (v := v15) rfl) (aa (bU (vs := [(I6 ((ql + 1))), (I6 CG), v47, v51, v55, v59]) h 15 rfl tu rfl rfl rfl) (sV (R := ik) (vs := [(.agg #[(I6 ((ql + 1))), (I6 CG), v47, v51, v55, v59])]) (xs := [(⟨(ql + 1), CG, qj, DY, Ut, yD⟩ : cO)]) h 20 OU rfl rfl rfl ⟨(Zl ⟨_, _, _, _, rfl, (h.iN 16 rfl), (h.iN 17 rfl), (h.iN 18 rfl), (h.iN 19 rfl)⟩), trivial⟩ rfl fun w u61 h => ?_)))
 obtain ⟨a62, hs⟩ := bG hs
 refine mW (R := ik) (m := [(⟨(ql + 1), CG, qj, DY, Ut, yD⟩ : cO)]) h 13 rfl (h.eT 20 rfl) OU rfl rfl rfl a62.1 a62.2 fun w u63 h => aa (ae (v := u63) rfl) (aA (ax (au ?_)))
 subst hnx23
 exact jM ⟨m221, u63, (rR ++ [(⟨(ql + 1), CG, qj, DY, Ut, yD⟩ : cO)]), y57, y58⟩ ⟨h.cn _, hs⟩
 refine nG (aa (ag nC rfl) (aa (az h 15 rfl aR rfl rfl) (aa (bu rfl rfl) (nN (aI hs rfl (fun c64 hs => ?_) (fun c64 hs => ?_))))))
 refine aD (aa (fo (k := 0) h 9 rfl MJ rfl rfl) (aa (ah (v := (I6 a)) rfl) ?_))
 obtain ⟨a65, hs⟩ := bG hs
 refine aa (dQ rfl rfl a65) ?_
 replace h := h.pair 1 2 (by decide)
 obtain ⟨l66a, l66b, l66c⟩ := h.Aj 1 (C := (.two (.blk ba [(I6 AR)]) (.blk bo [(.bool (Dh))]) : Chunk)) rfl ⟨trivial, trivial⟩
 obtain ⟨wu, e68, hs⟩ := aL hs
 refine aW Ql rfl rfl (ih _ _ l66c (hT.Zn h.keep hG) ba bo bw bwd bf be bb (⟨AR, Dh⟩ : gF) l66a l66b vW W (h.TU 1 3 rfl rfl) vF F (h.srSr 1 4 rfl rfl) (by obtain ⟨E, hE⟩ := hbw; exact ⟨E, h.keep.blk hE Uq⟩) nbw (by obtain ⟨E, hE⟩ := QB; exact ⟨E, h.keep.blk hE MR⟩) MQ (by obtain ⟨E, hE⟩ := hbf; exact ⟨E, h.keep.blk hE Ur⟩) nbf (by obtain ⟨E, hE⟩ := hbe; exact ⟨E, h.keep.blk hE nbeK⟩) nbe (by obtain ⟨E, hE⟩ := hbb; exact ⟨E, h.keep.blk hE nbbK⟩) nbb (a + 1) (h.Mt hT hG 1 (C := (.two (.blk ba [(I6 AR)]) (.blk bo [(.bool (Dh))]) : Chunk)) rfl) _ e68) ?_
 rintro _ w ⟨k71, u69, rfl, h72, h73, g70⟩
 refine ⟨_, rfl, ?_⟩
 replace h := h.back 1 (C := (.two (.blk ba [(I6 AR)]) (.blk bo [(.bool (Dh))]) : Chunk)) (C' := (.two (.blk ba [(I6 wu.2.at_)]) (.blk bo [(.bool (wu.2.ok))]) : Chunk)) rfl ⟨trivial, trivial⟩ h72 k71 h73
 replace h := h.dh 21 (JH g70)
 replace h := h.cK 1 2 (by decide) rfl rfl
 refine aa (ag CX rfl) (gP h 15 [(I6 ((ql + 1))), (I6 CG), v47, v51, v55, u69] rfl uz rfl rfl rfl rfl (h.iN 21 rfl).one fun w h => aA (au ?_))
 replace h := h.VI 21 19 rfl
 exact bS (wu.2.at_, wu.2.ok, u69, wu.1) ⟨h.cn _, hs⟩
 refine aH (au ?_)
 replace h := h.dh 19 (gB.nil (R := ik))
 exact bS (AR, Dh, (.slice none 0 0), []) ⟨h.cn _, hs⟩
 refine nG (aa (ag nC rfl) (aa (az h 15 rfl aR rfl rfl) (aa (bu rfl rfl) (aa (ah (v := (.bool (decide (((ql + 1) : Int) = 6)))) rfl) (aF rfl rfl (fun q => ag nC rfl) (aF rfl rfl (fun q => az h 15 rfl aR (eu q) rfl) (aF rfl rfl (fun q => bu (eu q) rfl) (aa (jD rfl rfl mY) (nN (aI hs rfl (fun c74 hs => ?_) (fun c74 hs => ?_)))))))))))
 refine aD (aa (fo (k := 0) h 9 rfl MJ rfl rfl) (aa (ah (v := (I6 a)) rfl) ?_))
 obtain ⟨a75, hs⟩ := bG hs
 refine aa (dQ rfl rfl a75) ?_
 replace h := h.pair 1 2 (by decide)
 obtain ⟨l76a, l76b, l76c⟩ := h.Aj 1 (C := (.two (.blk ba [(I6 Oc)]) (.blk bo [(.bool (wo))]) : Chunk)) rfl ⟨trivial, trivial⟩
 obtain ⟨y77, e78, hs⟩ := aL hs
 refine aW Ql rfl rfl (ih _ _ l76c (hT.Zn h.keep hG) ba bo bw bwd bf be bb (⟨Oc, wo⟩ : gF) l76a l76b vW W (h.TU 1 3 rfl rfl) vF F (h.srSr 1 4 rfl rfl) (by obtain ⟨E, hE⟩ := hbw; exact ⟨E, h.keep.blk hE Uq⟩) nbw (by obtain ⟨E, hE⟩ := QB; exact ⟨E, h.keep.blk hE MR⟩) MQ (by obtain ⟨E, hE⟩ := hbf; exact ⟨E, h.keep.blk hE Ur⟩) nbf (by obtain ⟨E, hE⟩ := hbe; exact ⟨E, h.keep.blk hE nbeK⟩) nbe (by obtain ⟨E, hE⟩ := hbb; exact ⟨E, h.keep.blk hE nbbK⟩) nbb (a + 1) (h.Mt hT hG 1 (C := (.two (.blk ba [(I6 Oc)]) (.blk bo [(.bool (wo))]) : Chunk)) rfl) _ e78) ?_
 rintro _ w ⟨k81, u79, rfl, h82, h83, g80⟩
 refine ⟨_, rfl, ?_⟩
 replace h := h.back 1 (C := (.two (.blk ba [(I6 Oc)]) (.blk bo [(.bool (wo))]) : Chunk)) (C' := (.two (.blk ba [(I6 y77.2.at_)]) (.blk bo [(.bool (y77.2.ok))]) : Chunk)) rfl ⟨trivial, trivial⟩ h82 k81 h83
 replace h := h.dh 22 (JH g80)
 replace h := h.cK 1 2 (by decide) rfl rfl
 refine aa (ag CW rfl) (gP h 15 [(I6 ((ql + 1))), (I6 CG), v47, v51, u79, (.slice none 0 0)] rfl uz rfl rfl rfl rfl (h.iN 22 rfl).one fun w h => aA (au ?_))
 replace h := h.VI 22 18 rfl
 exact bS (y77.2.at_, y77.2.ok, u79, y77.1) ⟨h.cn _, hs⟩
 refine aH (au ?_)
 replace h := h.dh 18 (gB.nil (R := ik))
 exact bS (Oc, wo, (.slice none 0 0), []) ⟨h.cn _, hs⟩
 refine nG (aa (ag nC rfl) (aa (az h 15 rfl aR rfl rfl) (aa (bu rfl rfl) (nN (aI hs rfl (fun c84 hs => ?_) (fun c84 hs => ?_))))))
 refine aD (aa (fo (k := 0) h 8 rfl Qt rfl rfl) ?_)
 replace h := h.pair 1 2 (by decide)
 obtain ⟨l85a, l85b, l85c⟩ := h.Aj 1 (C := (.two (.blk ba [(I6 Uu)]) (.blk bo [(.bool (Uv))]) : Chunk)) rfl ⟨trivial, trivial⟩
 obtain ⟨Lv, e87, hs⟩ := aL hs
 refine aW VT rfl rfl (OZ N _ _ l85c (hT.Zn h.keep hG) ba bo bw bwd bf (⟨Uu, Uv⟩ : gF) l85a l85b vW W (h.TU 1 3 rfl rfl) vF F (h.srSr 1 4 rfl rfl) (by obtain ⟨E, hE⟩ := hbw; exact ⟨E, h.keep.blk hE Uq⟩) nbw (by obtain ⟨E, hE⟩ := QB; exact ⟨E, h.keep.blk hE MR⟩) MQ (by obtain ⟨E, hE⟩ := hbf; exact ⟨E, h.keep.blk hE Ur⟩) nbf (h.Mt hT hG 1 (C := (.two (.blk ba [(I6 Uu)]) (.blk bo [(.bool (Uv))]) : Chunk)) rfl) _ e87) ?_
 rintro _ w ⟨k90, u88, rfl, h91, h92, g89⟩
 refine ⟨_, rfl, ?_⟩
 replace h := h.back 1 (C := (.two (.blk ba [(I6 Uu)]) (.blk bo [(.bool (Uv))]) : Chunk)) (C' := (.two (.blk ba [(I6 Lv.2.at_)]) (.blk bo [(.bool (Lv.2.ok))]) : Chunk)) rfl ⟨trivial, trivial⟩ h91 k90 h92
 replace h := h.dh 23 (JH g89)
 replace h := h.cK 1 2 (by decide) rfl rfl
 refine aa (ag Fb rfl) (gP h 15 [(I6 ((ql + 1))), (I6 CG), v47, u88, (.slice none 0 0), (.slice none 0 0)] rfl Be rfl rfl rfl rfl (h.iN 23 rfl).one fun w h => aA (au ?_))
 replace h := h.VI 23 17 rfl
 exact bS (Lv.2.at_, Lv.2.ok, u88, Lv.1) ⟨h.cn _, hs⟩
 refine aH (au ?_)
 replace h := h.dh 17 (gB.nil (R := oz))
 exact bS (Uu, Uv, (.slice none 0 0), []) ⟨h.cn _, hs⟩
 refine nG (aa (ag nC rfl) (aa (az h 15 rfl aR rfl rfl) (aa (gM rfl rfl) (nN (aI hs rfl (fun c93 hs => ?_) (fun c93 hs => ?_))))))
 refine aD (aa (fo (k := 0) h 8 rfl Qt rfl rfl) ?_)
 replace h := h.pair 1 2 (by decide)
 obtain ⟨l94a, l94b, l94c⟩ := h.Aj 1 (C := (.two (.blk ba [(I6 Bf)]) (.blk bo [(.bool (Ed))]) : Chunk)) rfl ⟨trivial, trivial⟩
 obtain ⟨y95, e96, hs⟩ := aL hs
 refine aW VT rfl rfl (OZ N _ _ l94c (hT.Zn h.keep hG) ba bo bw bwd bf (⟨Bf, Ed⟩ : gF) l94a l94b vW W (h.TU 1 3 rfl rfl) vF F (h.srSr 1 4 rfl rfl) (by obtain ⟨E, hE⟩ := hbw; exact ⟨E, h.keep.blk hE Uq⟩) nbw (by obtain ⟨E, hE⟩ := QB; exact ⟨E, h.keep.blk hE MR⟩) MQ (by obtain ⟨E, hE⟩ := hbf; exact ⟨E, h.keep.blk hE Ur⟩) nbf (h.Mt hT hG 1 (C := (.two (.blk ba [(I6 Bf)]) (.blk bo [(.bool (Ed))]) : Chunk)) rfl) _ e96) ?_
 rintro _ w ⟨k99, Uy, rfl, h100, h101, g98⟩
 refine ⟨_, rfl, ?_⟩
 replace h := h.back 1 (C := (.two (.blk ba [(I6 Bf)]) (.blk bo [(.bool (Ed))]) : Chunk)) (C' := (.two (.blk ba [(I6 y95.2.at_)]) (.blk bo [(.bool (y95.2.ok))]) : Chunk)) rfl ⟨trivial, trivial⟩ h100 k99 h101
 replace h := h.dh 24 (JH g98)
 replace h := h.cK 1 2 (by decide) rfl rfl
 refine aa (ag CV rfl) (gP h 15 [(I6 ((ql + 1))), (I6 CG), Uy, (.slice none 0 0), (.slice none 0 0), (.slice none 0 0)] rfl Be rfl rfl rfl rfl (h.iN 24 rfl).one fun w h => aA (au ?_))
 replace h := h.VI 24 16 rfl
 exact bS (y95.2.at_, y95.2.ok, Uy, y95.1) ⟨h.cn _, hs⟩
 refine aH (au ?_)
 replace h := h.dh 16 (gB.nil (R := oz))
 exact bS (Bf, Ed, (.slice none 0 0), []) ⟨h.cn _, hs⟩
 refine nG (aa (ag nC rfl) (aa (az h 15 rfl aR rfl rfl) (aa (II rfl rfl) (nN (aI hs rfl (fun Ff hs => ?_) (fun Ff hs => ?_))))))
 refine aD (aa (fo (k := 0) h 6 rfl Eb rfl rfl) (jY (args := [(.pointer (some ⟨ba, 0, none⟩)), (.pointer (some ⟨bw, 0, none⟩)), (.pointer (some ⟨bo, 0, none⟩))]) D9 rfl rfl (aQ (args := [(.pointer (some ⟨ba, 0, none⟩)), (.pointer (some ⟨bw, 0, none⟩)), (.pointer (some ⟨bo, 0, none⟩))]) Tryz.func103 rfl Tryz.ntmps103 (bD rfl) (nG (aa (ae (v := (aV [])) rfl) (nK (aa (az h 1 rfl aR rfl rfl) (aa (fo (k := 0) h 5 rfl rD rfl rfl) (aa (bM il rfl (h.kL 3 rfl)) (aa (rH rfl rfl) (nN (aI hs rfl (fun Xk hs => ?_) (fun Xk hs => ?_)))))))))))))
 refine nG (gP h 2 [(.bool (false))] rfl BQ rfl rfl rfl rfl rfl fun w h => nJ (aa (ae (v := (aV [])) rfl) (nR (ay (bR (v := (aV [])) Tryz.results103 rfl (⟨_, rfl, ?_⟩))))))
 obtain ⟨y104, JR, hs⟩ := aL hs
 refine aW I1 rfl rfl (uT _ _ h.lt (hT.Zn h.keep hG) [] _ JR) ?_
 rintro _ w ⟨Od, u106, rfl, g107⟩
 refine ⟨_, rfl, ?_⟩
 replace h := h.grow Od
 refine aa (ah (v := (.tuple #[(I6 y104.1), u106])) rfl) (aa (bg rfl rfl) (aa (bg rfl rfl) (aa (ag zt rfl) (gP h 15 [(I6 ((ql + 1))), (I6 y104.1), (.slice none 0 0), (.slice none 0 0), (.slice none 0 0), (.slice none 0 0)] rfl aR rfl rfl rfl rfl rfl fun w h => aA (au ?_)))))
 exact bS (y28, false, y104.1) ⟨h.cn _, hs⟩
 refine nS (aa (az h 1 rfl aR rfl rfl) ?_)
 obtain ⟨a109, hs⟩ := bG hs
 refine aa (dQ rfl rfl a109) (gP h 1 [(I6 ((y28 + 1)))] rfl aR rfl rfl rfl rfl rfl fun w h => nJ (aa (fo (k := 0) h 5 rfl rD rfl rfl) (aa (az h 1 rfl aR rfl rfl) ?_)))
 obtain ⟨a110, hs⟩ := bG hs
 refine aa (oh rfl rfl a110) ?_
 obtain ⟨Lx, Xl, hs⟩ := aL hs
 obtain ⟨b114, o115, cs116, h, r117, i113⟩ := h.Cn 3 25 rfl il rfl (aC Xl).1 (aC Xl).2
 obtain rfl := r117
 refine aa (i113 _ _ _ _ _ _ _ _ _ rfl rfl) (aa (fo (k := 0) h 25 rfl CZ rfl rfl) (aa (ae (v := (aV Lx)) rfl) (nR (bR (v := (aV Lx)) Tryz.results103 rfl (⟨_, rfl, ?_⟩)))))
 obtain ⟨Uw, e119, hs⟩ := aL hs
 refine aW I1 rfl rfl (uT _ _ h.lt (hT.Zn h.keep hG) Lx _ e119) ?_
 rintro _ w ⟨k122, u120, rfl, g121⟩
 refine ⟨_, rfl, ?_⟩
 replace h := h.grow k122
 refine aa (ah (v := (.tuple #[(I6 Uw.1), u120])) rfl) (aa (bg rfl rfl) (aa (bg rfl rfl) (aa (ag zt rfl) (gP h 15 [(I6 ((ql + 1))), (I6 Uw.1), (.slice none 0 0), (.slice none 0 0), (.slice none 0 0), (.slice none 0 0)] rfl aR rfl rfl rfl rfl rfl fun w h => aA (au ?_)))))
 exact bS ((y28 + 1), (y29 && decide ((0 : Int) < (ql + 1))), Uw.1) ⟨h.cn _, hs⟩
 refine aH (au ?_)
 exact bS (y28, (y29 && decide ((0 : Int) < (ql + 1))), 0) ⟨h.cn _, hs⟩
 refine aD (aa (fo (k := 0) h 6 rfl Eb rfl rfl) (jY (args := [(.pointer (some ⟨ba, 0, none⟩)), (.pointer (some ⟨bw, 0, none⟩)), (.pointer (some ⟨bo, 0, none⟩))]) D9 rfl rfl (aQ (args := [(.pointer (some ⟨ba, 0, none⟩)), (.pointer (some ⟨bw, 0, none⟩)), (.pointer (some ⟨bo, 0, none⟩))]) Tryz.func103 rfl Tryz.ntmps103 (bD rfl) (nG (aa (ae (v := (aV [])) rfl) (nK (aa (az h 1 rfl aR rfl rfl) (aa (fo (k := 0) h 5 rfl rD rfl rfl) (aa (bM il rfl (h.kL 3 rfl)) (aa (rH rfl rfl) (nN (aI hs rfl (fun c123 hs => ?_) (fun c123 hs => ?_)))))))))))))
 refine nG (gP h 2 [(.bool (false))] rfl BQ rfl rfl rfl rfl rfl fun w h => nJ (aa (ae (v := (aV [])) rfl) (nR (ay (bR (v := (aV [])) Tryz.results103 rfl (⟨_, rfl, ?_⟩))))))
 refine aa (ae (v := (aV [])) rfl) (aA (au ?_))
 exact bS ([], LA, false) ⟨h.cn _, hs⟩
 refine nS (aa (az h 1 rfl aR rfl rfl) ?_)
 obtain ⟨a124, hs⟩ := bG hs
 refine aa (dQ rfl rfl a124) (gP h 1 [(I6 ((LA + 1)))] rfl aR rfl rfl rfl rfl rfl fun w h => nJ (aa (fo (k := 0) h 5 rfl rD rfl rfl) (aa (az h 1 rfl aR rfl rfl) ?_)))
 obtain ⟨a125, hs⟩ := bG hs
 refine aa (oh rfl rfl a125) ?_
 obtain ⟨MS, e127, hs⟩ := aL hs
 obtain ⟨b129, o130, cs131, h, r132, i128⟩ := h.Cn 3 26 rfl il rfl (aC e127).1 (aC e127).2
 obtain rfl := r132
 refine aa (i128 _ _ _ _ _ _ _ _ _ rfl rfl) (aa (fo (k := 0) h 26 rfl CZ rfl rfl) (aa (ae (v := (aV MS)) rfl) (nR (bR (v := (aV MS)) Tryz.results103 rfl (⟨_, rfl, ?_⟩)))))
 refine aa (ae (v := (aV MS)) rfl) (aA (au ?_))
 exact bS (MS, (LA + 1), N7) ⟨h.cn _, hs⟩
 refine nE (aa (ae (v := (.slice none 0 0)) rfl) (nR (bR (v := (.slice none 0 0)) Tryz.results109 rfl ?_)))
 replace h := h.pair 1 2 (by decide)
 obtain rfl := fM hs
 subst wE
 obtain ⟨o1, o2, o3⟩ := h.lu 1 (C := (.two (.blk ba [(I6 LA)]) (.blk bo [(.bool (N7))]) : Chunk)) rfl ⟨trivial, trivial⟩
 exact ⟨o2, .slice none 0 0, rfl, o1, o3, gB.nil⟩
 refine cu (σ := Bool × Int × Bool) (inl (rg 10 7)) (fun ⟨Ha, LB, QD⟩ => [(16, (.bool (Ha)))]) (fun ⟨Ha, LB, QD⟩ w => SH w0 M K0 w (hset [(1, .blk ba [(I6 LB)]), (2, .blk bo [(.bool (QD))]), (3, .rd sO vW W), (4, .sr kY vF F), (5, .pt bw 0 [vW]), (6, .pt bwd 0 [(.func (.func 103) #[] #[(.pointer (some ⟨ba, 0, none⟩)), (.pointer (some ⟨bw, 0, none⟩)), (.pointer (some ⟨bo, 0, none⟩))])]), (7, .pt bf 0 [vF]), (8, .pt be 0 [(.func (.func 104) #[] #[(.pointer (some ⟨bo, 0, none⟩)), (.pointer (some ⟨bwd, 0, none⟩)), (.pointer (some ⟨bf, 0, none⟩))])]), (9, .pt bb 0 [(.func (.func 109) #[] #[(.pointer (some ⟨bwd, 0, none⟩)), (.pointer (some ⟨bo, 0, none⟩)), (.pointer (some ⟨be, 0, none⟩)), (.pointer (some ⟨bb, 0, none⟩))])])]) ∧ yg N F0 W F a Ha LB QD = some r) ?_ ?_
 rintro ⟨Ha, LB, QD⟩ w dR ⟨h, hs⟩
 refine aI hs rfl (fun c136 hs => ?_) (fun c136 hs => ?_)
 refine aD (gP h 2 [(.bool (false))] rfl BQ rfl rfl rfl rfl rfl fun w h => aA (au ?_))
 exact bS (LB, false) ⟨h.cn _, hs⟩
 refine aH (au ?_)
 exact bS (LB, QD) ⟨h.cn _, hs⟩
 refine aD (aa (fo (k := 0) h 6 rfl Eb rfl rfl) (jY (args := [(.pointer (some ⟨ba, 0, none⟩)), (.pointer (some ⟨bw, 0, none⟩)), (.pointer (some ⟨bo, 0, none⟩))]) D9 rfl rfl (aQ (args := [(.pointer (some ⟨ba, 0, none⟩)), (.pointer (some ⟨bw, 0, none⟩)), (.pointer (some ⟨bo, 0, none⟩))]) Tryz.func103 rfl Tryz.ntmps103 (bD rfl) (nG (aa (ae (v := (aV [])) rfl) (nK (aa (az h 1 rfl aR rfl rfl) (aa (fo (k := 0) h 5 rfl rD rfl rfl) (aa (bM il rfl (h.kL 3 rfl)) (aa (rH rfl rfl) (nN (aI hs rfl (fun c137 hs => ?_) (fun c137 hs => ?_)))))))))))))
 refine nG (gP h 2 [(.bool (false))] rfl BQ rfl rfl rfl rfl rfl fun w h => nJ (aa (ae (v := (aV [])) rfl) (nR (ay (bR (v := (aV [])) Tryz.results103 rfl (⟨_, rfl, ?_⟩))))))
 refine aa (Mr rfl rfl) (aa (ah (v := (.bool (true))) rfl) (fK (b' := true) rfl rfl rfl (fK (b' := true) rfl rfl rfl (aa (bY (b := true) (v := (.bool (true))) rfl rfl) (aA (au ?_))))))
 exact bS (true, sx.at_, false) ⟨h.cn _, hs⟩
 refine nS (aa (az h 1 rfl aR rfl rfl) ?_)
 obtain ⟨a138, hs⟩ := bG hs
 refine aa (dQ rfl rfl a138) (gP h 1 [(I6 ((sx.at_ + 1)))] rfl aR rfl rfl rfl rfl rfl fun w h => nJ (aa (fo (k := 0) h 5 rfl rD rfl rfl) (aa (az h 1 rfl aR rfl rfl) ?_)))
 obtain ⟨a139, hs⟩ := bG hs
 refine aa (oh rfl rfl a139) ?_
 obtain ⟨RP, RQ, hs⟩ := aL hs
 obtain ⟨b143, o144, cs145, h, r146, i142⟩ := h.Cn 3 27 rfl il rfl (aC RQ).1 (aC RQ).2
 obtain rfl := r146
 refine aa (i142 _ _ _ _ _ _ _ _ _ rfl rfl) (aa (fo (k := 0) h 27 rfl CZ rfl rfl) (aa (ae (v := (aV RP)) rfl) (nR (bR (v := (aV RP)) Tryz.results103 rfl (⟨_, rfl, ?_⟩)))))
 refine aa (Mr rfl rfl) (aa (ah (v := (.bool (decide ((RP : Str) ≠ [123])))) rfl) (aF rfl rfl (fun q => ah (v := (I6 a)) rfl) (aF rfl rfl (fun q => mV (eu q) rfl) (aa (jD rfl rfl mY) (aA (au ?_))))))
 exact bS ((decide ((RP : Str) ≠ [123]) || decide ((6 : Int) < a)), (sx.at_ + 1), sx.ok) ⟨h.cn _, hs⟩
def qa (Oe : List iO → Option (List iO × Int)) (y24 : List iO) : Option (List iO × Int) :=
  Oe y24
def qb (y1 : List Str) (i17 : Int) (Ay : List iO) (Oe : List iO → Option (List iO × Int)) (x30 : Bool) : Option (List iO × Int) :=
  bif x30 then (idx y1 (i17 + 1)).bind fun x32 => (EY x32).bind fun y39 => iK (kJ (i17 + 2)) ((idx y1 (i17 + 2)).bind fun x45 => (EY x45).bind fun DY => iK (Room 40 Ay [(⟨y39.1, DY.1, []⟩ : iO)]) (qa Oe (Ay ++ [(⟨y39.1, DY.1, []⟩ : iO)]))) else qa Oe Ay
def jZ (N : Nat) (y1 : List Str) (uZ : List iO) (i101 : Int) (oU : (List iO × Int × Bool) → Option (List iO × Int)) (LC : Int) (y112 : Bool) : Option (List iO × Int) :=
  (zD N (⟨LC, y112⟩ : gF) y1 uZ 1).bind fun nT => (idx uZ i101).bind fun AV => oU ((uZ.set (i101).toNat { AV with body := nT.1 }), nT.2.at_, nT.2.ok)
def j3 (N : Nat) (y1 : List Str) (uZ : List iO) (i101 : Int) (oU : (List iO × Int × Bool) → Option (List iO × Int)) (Cu : Int) (QE : Bool) : Option (List iO × Int) :=
  bif decide (((y1.length : Int) : Int) ≤ Cu) then jZ N y1 uZ i101 oU Cu false else iK (kJ (Cu + 1)) (iK (kJ ((Cu + 1) - 1)) ((idx y1 ((Cu + 1) - 1)).bind fun x128 => jZ N y1 uZ i101 oU (Cu + 1) QE))
def j4 (N : Nat) (y1 : List Str) (uZ : List iO) (i101 : Int) (oU : (List iO × Int × Bool) → Option (List iO × Int)) (rE : Int) (QF : Bool) : Option (List iO × Int) :=
  bif decide (((y1.length : Int) : Int) ≤ rE) then j3 N y1 uZ i101 oU rE false else iK (kJ (rE + 1)) (iK (kJ ((rE + 1) - 1)) ((idx y1 ((rE + 1) - 1)).bind fun sj => j3 N y1 uZ i101 oU (rE + 1) QF))
def j5 (N : Nat) (y1 : List Str) (uZ : List iO) (i101 : Int) (oU : (List iO × Int × Bool) → Option (List iO × Int)) (RS : Bool) (LD : Int) (QG : Bool) : Option (List iO × Int) :=
  bif RS then j4 N y1 uZ i101 oU LD false else j4 N y1 uZ i101 oU LD QG
def lX (uZ : List iO) (x159 : Bool) : Option (List iO × Int) :=
  bif x159 then some ([], 1) else some (uZ, 0)
def j6 (N : Nat) (y1 : List Str) (i101 : Int) (s : List iO × Int × Bool) (oU : List iO × Int × Bool → Option (List iO × Int)) : Option (List iO × Int) :=
  match s with | (uZ, y98, y99) => bif decide (((y1.length : Int) : Int) ≤ y98) then j5 N y1 uZ i101 oU true y98 false else iK (kJ (y98 + 1)) (iK (kJ ((y98 + 1) - 1)) ((idx y1 ((y98 + 1) - 1)).bind fun x152 => j5 N y1 uZ i101 oU (decide ((x152 : Str) ≠ [102, 117, 110])) (y98 + 1) y99))
def lY (N : Nat) (y1 : List Str) (a : Str) (s : List iO × Int × Bool) : Option (List iO × Int) :=
  match s with | (uZ, y98, y99) => bif ((!y99) || decide ((y98 : Int) < (y1.length : Int))) then lX uZ true else (xm N uZ).bind fun y162 => bif decide ((y162 : Int) ≠ 0) then lX uZ true else (xU N uZ).bind fun y166 => lX uZ (decide ((y166 : Str) ≠ a))
def lZ (Ay : List iO) (i64 : Int) (s : Unit) (nx67 : Unit → Option (List iO × Int)) : Option (List iO × Int) :=
  (idx Ay i64).bind fun x70 => bif (!(aO x70.params 0 3)) then some ([], 1) else nx67 ()
def kg (N : Nat) (y1 : List Str) (a : Str) (Ay : List iO) (s : Unit) : Option (List iO × Int) :=
  upto (j6 N y1) (lY N y1 a) 0 ((Ay.length : Int)).toNat (Ay, 0, true)
def l5 (y1 : List Str) (i17 : Int) (AU : Str) (Ay : List iO) (Oe : List iO → Option (List iO × Int)) : Option (List iO × Int) :=
  bif decide ((AU : Str) = [102, 117, 110]) then iK (kJ (i17 + 2)) (qb y1 i17 Ay Oe (decide (((i17 + 2) : Int) < (y1.length : Int)))) else qb y1 i17 Ay Oe false
def ko (N : Nat) (y1 : List Str) (a : Str) (Ay : List iO) : Option (List iO × Int) :=
  bif (decide (((Ay.length : Int) : Int) = 0) || decide ((4 : Int) < (Ay.length : Int))) then some ([], 1) else upto (lZ Ay) (kg N y1 a Ay) 0 ((Ay.length : Int)).toNat ()
def oG (N : Nat) (a : Str) : Option (List iO × Int) :=
  (P7 a [32]).bind fun y1 => dZ (l5 y1) (ko N y1 a) 0 y1 []
end
end Go.Proofs.YtfclkapelkhlpaaGreatDoor
