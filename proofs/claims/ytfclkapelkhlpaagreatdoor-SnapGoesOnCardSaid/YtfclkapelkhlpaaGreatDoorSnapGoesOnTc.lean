/-
  What the law SnapGoesOn needs of our own library and of the walks, no more.
-/
import Derived.Test.YtfclkapelkhlpaaGreatDoorProg
import Derived.Test.YtfclkapelkhlpaaGreatDoorSnapGoesOnTb
set_option linter.unusedSimpArgs false
set_option linter.unusedVariables false
set_option maxRecDepth 10000
namespace Go.LX
open Go Go.Proofs
abbrev I6 (n : Int) : Value := .int .i64 n
def rg (a : Nat) : Nat → List Nat
  | 0 => []
  | n + 1 => a :: rg (a + 1) n
abbrev cT (p : Nat) (v0 v1 : Value) (st wh : Int) (f : List Frame) (w0 : List Value) (c : List (List Val)) (w1 : List Value) : Chunk := (.two (.two (.two (.two (.blk p [v0, v1, .int .i64 st, .int .i64 wh]) (.own bU.raw 49 v0 (List.zip f w0))) (.ib (dB bJ 51 hn w0 (List.map bU.sub f)))) (.own (eT Val).raw 47 v1 (List.zip c w1))) (.ib (dB bJ 51 hn w1 (List.map (eT Val).sub c))) : Chunk)
abbrev cU (v0 v1 : Value) (f : List Frame) (w0 : List Value) (c : List (List Val)) (w1 : List Value) : Chunk := (.two (.two (.two (.own bU.raw 49 v0 (List.zip f w0)) (.ib (dB bJ 51 hn w0 (List.map bU.sub f)))) (.own (eT Val).raw 47 v1 (List.zip c w1))) (.ib (dB bJ 51 hn w1 (List.map (eT Val).sub c))) : Chunk)
theorem fI {α : Type} {a b : α} (h : some a = some b) : a = b := Option.some.inj h
theorem cB {x y : Bool} (c : x = y) : Value.bool x = Value.bool y := congrArg Value.bool c
theorem qE {p : Prop} [Decidable p] (h : decide p = true) : p := of_decide_eq_true h
theorem Tt {a b c : Bool} (h : (a && (b && c)) = true) : a = true ∧ b = true ∧ c = true := by simpa using h
theorem bC {n m : Nat} (h : Nat.ble n m = true) : n ≤ m := Nat.le_of_ble_eq_true h
section
variable {P : Program} {ops : Array Oper} {Q : Exit → Act → World → Prop} {rest : List Oper} {n : Nat} {env : Nat → Value} {w : World} {d : Option Nat} {op : Op} {ty : TypeId} {pos : String} {af : Array Edge}
theorem P9 {j dj : Nat} {b : Bool} (hd : (ops[j]?).bind (·.dst) = some dj) (hv : ev n env (.tmp dj) = .bool true) (hb : (true == b) = false) (h : WL P ops Q rest n (jO env d undef) w) : WL P ops Q (⟨d, op, ty, pos, af, some (j, b)⟩ :: rest) n env w := nL hd hv hb h
theorem yx {j dj : Nat} {b : Bool} (hd : (ops[j]?).bind (·.dst) = some dj) (hv : ev n env (.tmp dj) = .bool false) (hb : (false == b) = false) (h : WL P ops Q rest n (jO env d undef) w) : WL P ops Q (⟨d, op, ty, pos, af, some (j, b)⟩ :: rest) n env w := nL hd hv hb h
end
section
variable {P : Program} {Q Q' : Exit → Act → World → Prop} {K1 K2 : Act → World → Prop} {n : Nat} {env : Nat → Value} {w : World} {x y : Code} {l : List Oper} {ops : Array Oper} {id i : Nat}
theorem nG (h : WL P l.toArray (Exit.then (y.wp P Q) Q) l n env w) : WC P (Code.seq (Code.region id l.toArray false) y) Q n env w := aO (aB h)
theorem nN (h : WC P y Q n env w) : WL P ops (Exit.then (y.wp P Q) Q') [] n env w := ay (ak h)
theorem nR (h : Q .ret (act n env) w) : WL P ops (Exit.then (Code.ret.wp P Q) Q') [] n env w := ay (ak (vM h))
theorem nJ (h : WL P l.toArray (Exit.then (y.wp P Q) Q) l n env w) : WL P ops (Exit.then ((Code.seq (Code.region id l.toArray false) y).wp P Q) Q') [] n env w := nN (nG h)
theorem nK (h : WL P l.toArray (Exit.then (x.wp P (Exit.then (y.wp P Q) Q)) (Exit.then (y.wp P Q) Q)) l n env w) : WL P ops (Exit.then ((Code.seq (Code.seq (Code.region id l.toArray false) x) y).wp P Q) Q') [] n env w := nN (aO (nG h))
theorem nS (h : WL P l.toArray (Exit.then (y.wp P Q) Q) l n env w) : WC P .skip (Exit.then ((Code.seq (Code.region id l.toArray false) y).wp P Q) Q') n env w := aI (ak (nG h))
theorem nE (h : WL P l.toArray (Exit.then (y.wp P Q) Q) l n env w) : WC P (.exit i) (Exit.then K1 (Exit.then K2 (Exit.inBlock i (Exit.then ((Code.seq (Code.region id l.toArray false) y).wp P Q) Q')))) n env w := iT (bK (bK (dU (ak (nG h)))))
end
section
variable {P : Program} {ops : Array Oper} {Q : Exit → Act → World → Prop} {n : Nat} {env : Nat → Value} {w ws : World} {d : Option Nat} {op : Op} {ty : TypeId} {pos : String} {af : Array Edge} {fuel : Nat} {listed : Array Bool} {v : Value} {L : BS}
theorem uK (i : Nat) (hS : Grow ws w) (hi : ops[i]? = some ⟨d, op, ty, pos, af, none⟩) (h3 : (Region.noSelect ops && (Region.free .any ops listed i && (Region.ready .any ops listed).contains i)) = true) (he : ∀ wq, Grow ws wq → (execOp (ev n env) ⟨d, op, ty, pos, af, none⟩).run P wq = .ok (.value v) wq) (h : WH P ops ws Q fuel (listed.setIfInBounds i true) n (jO env d v) w) : WH P ops ws Q (fuel + 1) listed n env w := dD i hS hi aj (Tt h3).1 (Tt h3).2.1 (Tt h3).2.2 he h
theorem cK (i : Nat) (hS : aD L ws w) (hi : ops[i]? = some ⟨d, op, ty, pos, af, none⟩) (h3 : (Region.noSelect ops && (Region.free .any ops listed i && (Region.ready .any ops listed).contains i)) = true) (he : ∀ wq, aD L ws wq → (execOp (ev n env) ⟨d, op, ty, pos, af, none⟩).run P wq = .ok (.value v) wq) (h : Ti P ops L ws Q fuel (listed.setIfInBounds i true) n (jO env d v) w) : Ti P ops L ws Q (fuel + 1) listed n env w := bA i hS hi aj (Tt h3).1 (Tt h3).2.1 (Tt h3).2.2 he h
end
end Go.LX
namespace Go.Proofs.YtfclkapelkhlpaaGreatDoor
open Go Go.Proofs Go.LX
noncomputable section
theorem Lx : oW Tryz.prog 111 147 6 112 := ⟨Tryz.underlying111, uI (z := (.agg #[(I6 0), (I6 0), (.slice none 0 0), (.slice none 0 0), (.slice none 0 0), (.slice none 0 0)])) (by kernel_rfl) rfl⟩
theorem LA : oW Tryz.prog 145 160 2 16 := ⟨Tryz.underlying145, uI (z := (.agg #[(I6 0), (I6 0)])) (by kernel_rfl) rfl⟩
theorem LB : oW Tryz.prog 153 9 1 16 := ⟨Tryz.underlying153, uI (z := (aV [])) (by kernel_rfl) rfl⟩
theorem Tu : oW Tryz.prog 204 111 1 24 := ⟨Tryz.underlying204, uI (z := (.slice none 0 0)) (by kernel_rfl) rfl⟩
theorem OA : oW Tryz.prog 22 57 3 40 := ⟨Tryz.underlying22, uI (z := (.agg #[(I6 0), (I6 0), (.slice none 0 0)])) (by kernel_rfl) rfl⟩
theorem oq : oW Tryz.prog 23 49 4 48 := ⟨Tryz.underlying23, uI (z := (.agg #[(I6 0), (I6 0), (.slice none 0 0), (I6 0)])) (by kernel_rfl) rfl⟩
theorem jS : oW Tryz.prog 24 47 1 24 := ⟨Tryz.underlying24, uI (z := (.slice none 0 0)) (by kernel_rfl) rfl⟩
theorem iR : oW Tryz.prog 27 3 1 8 := ⟨Tryz.underlying27, uI (z := (I6 0)) (by kernel_rfl) rfl⟩
theorem rZ : oW Tryz.prog 47 51 2 16 := ⟨Tryz.underlying47, uI (z := (.agg #[(I6 0), (I6 0)])) (by kernel_rfl) rfl⟩
theorem fA : oW Tryz.prog 55 93 5 56 := ⟨Tryz.underlying55, uI (z := (.agg #[(I6 0), (I6 0), (I6 0), (I6 0), (.slice none 0 0)])) (by kernel_rfl) rfl⟩
theorem OB : oW Tryz.prog 67 113 3 40 := ⟨Tryz.underlying67, uI (z := (.agg #[(I6 0), (I6 0), (.slice none 0 0)])) (by kernel_rfl) rfl⟩
theorem VY : fD Tryz.prog 101 0 0 := ⟨_, _, 0, Tryz.underlying101, rfl, rfl, by kernel_rfl⟩
theorem VZ : fD Tryz.prog 101 1 1 := ⟨_, _, 0, Tryz.underlying101, rfl, rfl, by kernel_rfl⟩
theorem JD : fD Tryz.prog 101 2 2 := ⟨_, _, 0, Tryz.underlying101, rfl, rfl, by kernel_rfl⟩
theorem wN : fD Tryz.prog 113 0 0 := ⟨_, _, 0, Tryz.underlying113, rfl, rfl, by kernel_rfl⟩
theorem Ac : fD Tryz.prog 113 1 1 := ⟨_, _, 0, Tryz.underlying113, rfl, rfl, by kernel_rfl⟩
theorem CK : fD Tryz.prog 113 2 2 := ⟨_, _, 0, Tryz.underlying113, rfl, rfl, by kernel_rfl⟩
theorem ko : fD Tryz.prog 147 0 0 := ⟨_, _, 0, Tryz.underlying147, rfl, rfl, by kernel_rfl⟩
theorem wO : fD Tryz.prog 147 1 1 := ⟨_, _, 0, Tryz.underlying147, rfl, rfl, by kernel_rfl⟩
theorem Ad : fD Tryz.prog 147 2 2 := ⟨_, _, 0, Tryz.underlying147, rfl, rfl, by kernel_rfl⟩
theorem CL : fD Tryz.prog 147 3 3 := ⟨_, _, 0, Tryz.underlying147, rfl, rfl, by kernel_rfl⟩
theorem Ae : fD Tryz.prog 147 4 4 := ⟨_, _, 0, Tryz.underlying147, rfl, rfl, by kernel_rfl⟩
theorem Af : fD Tryz.prog 147 5 5 := ⟨_, _, 0, Tryz.underlying147, rfl, rfl, by kernel_rfl⟩
theorem FI : fD Tryz.prog 160 0 0 := ⟨_, _, 0, Tryz.underlying160, rfl, rfl, by kernel_rfl⟩
theorem ou : fD Tryz.prog 160 1 1 := ⟨_, _, 0, Tryz.underlying160, rfl, rfl, by kernel_rfl⟩
theorem ed : fD Tryz.prog 26 0 0 := ⟨_, _, 0, Tryz.underlying26, rfl, rfl, by kernel_rfl⟩
theorem il : fD Tryz.prog 26 1 1 := ⟨_, _, 0, Tryz.underlying26, rfl, rfl, by kernel_rfl⟩
theorem nV : fD Tryz.prog 26 2 2 := ⟨_, _, 0, Tryz.underlying26, rfl, rfl, by kernel_rfl⟩
theorem wC : fD Tryz.prog 26 3 3 := ⟨_, _, 0, Tryz.underlying26, rfl, rfl, by kernel_rfl⟩
theorem wD : fD Tryz.prog 49 0 0 := ⟨_, _, 0, Tryz.underlying49, rfl, rfl, by kernel_rfl⟩
theorem sO : fD Tryz.prog 49 1 1 := ⟨_, _, 0, Tryz.underlying49, rfl, rfl, by kernel_rfl⟩
theorem kT : fD Tryz.prog 49 2 2 := ⟨_, _, 0, Tryz.underlying49, rfl, rfl, by kernel_rfl⟩
theorem zt : fD Tryz.prog 49 3 3 := ⟨_, _, 0, Tryz.underlying49, rfl, rfl, by kernel_rfl⟩
theorem sP : fD Tryz.prog 51 0 0 := ⟨_, _, 0, Tryz.underlying51, rfl, rfl, by kernel_rfl⟩
theorem iq : fD Tryz.prog 51 1 1 := ⟨_, _, 0, Tryz.underlying51, rfl, rfl, by kernel_rfl⟩
theorem FJ : fD Tryz.prog 57 0 0 := ⟨_, _, 0, Tryz.underlying57, rfl, rfl, by kernel_rfl⟩
theorem BG : fD Tryz.prog 57 1 1 := ⟨_, _, 0, Tryz.underlying57, rfl, rfl, by kernel_rfl⟩
theorem sQ : fD Tryz.prog 57 2 2 := ⟨_, _, 0, Tryz.underlying57, rfl, rfl, by kernel_rfl⟩
theorem qB : fD Tryz.prog 93 0 0 := ⟨_, _, 0, Tryz.underlying93, rfl, rfl, by kernel_rfl⟩
theorem kU : fD Tryz.prog 93 1 1 := ⟨_, _, 0, Tryz.underlying93, rfl, rfl, by kernel_rfl⟩
theorem iZ : fD Tryz.prog 93 2 2 := ⟨_, _, 0, Tryz.underlying93, rfl, rfl, by kernel_rfl⟩
theorem rz : fD Tryz.prog 93 3 3 := ⟨_, _, 0, Tryz.underlying93, rfl, rfl, by kernel_rfl⟩
theorem xS : fD Tryz.prog 93 4 4 := ⟨_, _, 0, Tryz.underlying93, rfl, rfl, by kernel_rfl⟩
theorem Na : gy Tryz.prog 100 := ⟨_, Tryz.func100, by kernel_rfl, rfl⟩
theorem YQ : gy Tryz.prog 101 := ⟨_, Tryz.func101, by kernel_rfl, rfl⟩
theorem FK : gy Tryz.prog 102 := ⟨_, Tryz.func102, by kernel_rfl, rfl⟩
theorem BH : gy Tryz.prog 103 := ⟨_, Tryz.func103, by kernel_rfl, rfl⟩
theorem R9 : gy Tryz.prog 104 := ⟨_, Tryz.func104, by kernel_rfl, rfl⟩
theorem YR : gy Tryz.prog 105 := ⟨_, Tryz.func105, by kernel_rfl, rfl⟩
theorem Nb : gy Tryz.prog 106 := ⟨_, Tryz.func106, by kernel_rfl, rfl⟩
theorem Sa : gy Tryz.prog 107 := ⟨_, Tryz.func107, by kernel_rfl, rfl⟩
theorem Nc : gy Tryz.prog 108 := ⟨_, Tryz.func108, by kernel_rfl, rfl⟩
theorem Nf : gy Tryz.prog 109 := ⟨_, Tryz.func109, by kernel_rfl, rfl⟩
theorem YS : gy Tryz.prog 110 := ⟨_, Tryz.func110, by kernel_rfl, rfl⟩
theorem Sb : gy Tryz.prog 111 := ⟨_, Tryz.func111, by kernel_rfl, rfl⟩
theorem YT : gy Tryz.prog 112 := ⟨_, Tryz.func112, by kernel_rfl, rfl⟩
theorem YU : gy Tryz.prog 113 := ⟨_, Tryz.func113, by kernel_rfl, rfl⟩
theorem YV : gy Tryz.prog 114 := ⟨_, Tryz.func114, by kernel_rfl, rfl⟩
theorem YW : gy Tryz.prog 115 := ⟨_, Tryz.func115, by kernel_rfl, rfl⟩
theorem Je : gy Tryz.prog 116 := ⟨_, Tryz.func116, by kernel_rfl, rfl⟩
theorem Sc : gy Tryz.prog 117 := ⟨_, Tryz.func117, by kernel_rfl, rfl⟩
theorem YX : gy Tryz.prog 124 := ⟨_, Tryz.func124, by kernel_rfl, rfl⟩
theorem Jf : gy Tryz.prog 125 := ⟨_, Tryz.func125, by kernel_rfl, rfl⟩
theorem Sd : gy Tryz.prog 128 := ⟨_, Tryz.func128, by kernel_rfl, rfl⟩
theorem Ng : gy Tryz.prog 129 := ⟨_, Tryz.func129, by kernel_rfl, rfl⟩
theorem Nh : gy Tryz.prog 130 := ⟨_, Tryz.func130, by kernel_rfl, rfl⟩
theorem YY : gy Tryz.prog 131 := ⟨_, Tryz.func131, by kernel_rfl, rfl⟩
theorem YZ : gy Tryz.prog 141 := ⟨_, Tryz.func141, by kernel_rfl, rfl⟩
theorem BI : gy Tryz.prog 144 := ⟨_, Tryz.func144, by kernel_rfl, rfl⟩
theorem DD : gy Tryz.prog 145 := ⟨_, Tryz.func145, by kernel_rfl, rfl⟩
theorem Sg : gy Tryz.prog 146 := ⟨_, Tryz.func146, by kernel_rfl, rfl⟩
theorem Si : gy Tryz.prog 147 := ⟨_, Tryz.func147, by kernel_rfl, rfl⟩
theorem fnOk16 : gy Tryz.prog 16 := ⟨_, Tryz.func16, by kernel_rfl, rfl⟩
theorem Y0 : gy Tryz.prog 164 := ⟨_, Tryz.func164, by kernel_rfl, rfl⟩
theorem V3 : gy Tryz.prog 18 := ⟨_, Tryz.func18, by kernel_rfl, rfl⟩
theorem Ni : gy Tryz.prog 19 := ⟨_, Tryz.func19, by kernel_rfl, rfl⟩
theorem GI : gy Tryz.prog 20 := ⟨_, Tryz.func20, by kernel_rfl, rfl⟩
theorem Qm : gy Tryz.prog 27 := ⟨_, Tryz.func27, by kernel_rfl, rfl⟩
theorem V4 : gy Tryz.prog 28 := ⟨_, Tryz.func28, by kernel_rfl, rfl⟩
theorem fnOk29 : gy Tryz.prog 29 := ⟨_, Tryz.func29, by kernel_rfl, rfl⟩
theorem fnOk39 : gy Tryz.prog 39 := ⟨_, Tryz.func39, by kernel_rfl, rfl⟩
theorem fnOk40 : gy Tryz.prog 40 := ⟨_, Tryz.func40, by kernel_rfl, rfl⟩
theorem fnOk44 : gy Tryz.prog 44 := ⟨_, Tryz.func44, by kernel_rfl, rfl⟩
theorem fnOk45 : gy Tryz.prog 45 := ⟨_, Tryz.func45, by kernel_rfl, rfl⟩
theorem fnOk46 : gy Tryz.prog 46 := ⟨_, Tryz.func46, by kernel_rfl, rfl⟩
theorem V5 : gy Tryz.prog 47 := ⟨_, Tryz.func47, by kernel_rfl, rfl⟩
theorem fnOk48 : gy Tryz.prog 48 := ⟨_, Tryz.func48, by kernel_rfl, rfl⟩
theorem Qn : gy Tryz.prog 49 := ⟨_, Tryz.func49, by kernel_rfl, rfl⟩
theorem V6 : gy Tryz.prog 50 := ⟨_, Tryz.func50, by kernel_rfl, rfl⟩
theorem zG : gy Tryz.prog 51 := ⟨_, Tryz.func51, by kernel_rfl, rfl⟩
theorem fnOk53 : gy Tryz.prog 53 := ⟨_, Tryz.func53, by kernel_rfl, rfl⟩
theorem Qo : gy Tryz.prog 55 := ⟨_, Tryz.func55, by kernel_rfl, rfl⟩
theorem V7 : gy Tryz.prog 63 := ⟨_, Tryz.func63, by kernel_rfl, rfl⟩
theorem fnOk64 : gy Tryz.prog 64 := ⟨_, Tryz.func64, by kernel_rfl, rfl⟩
theorem fnOk65 : gy Tryz.prog 65 := ⟨_, Tryz.func65, by kernel_rfl, rfl⟩
theorem Nj : gy Tryz.prog 76 := ⟨_, Tryz.func76, by kernel_rfl, rfl⟩
theorem fnOk77 : gy Tryz.prog 77 := ⟨_, Tryz.func77, by kernel_rfl, rfl⟩
theorem fnOk78 : gy Tryz.prog 78 := ⟨_, Tryz.func78, by kernel_rfl, rfl⟩
theorem fnOk79 : gy Tryz.prog 79 := ⟨_, Tryz.func79, by kernel_rfl, rfl⟩
theorem V8 : gy Tryz.prog 80 := ⟨_, Tryz.func80, by kernel_rfl, rfl⟩
theorem Qp : gy Tryz.prog 81 := ⟨_, Tryz.func81, by kernel_rfl, rfl⟩
theorem V9 : gy Tryz.prog 82 := ⟨_, Tryz.func82, by kernel_rfl, rfl⟩
theorem Qq : gy Tryz.prog 83 := ⟨_, Tryz.func83, by kernel_rfl, rfl⟩
theorem Qr : gy Tryz.prog 84 := ⟨_, Tryz.func84, by kernel_rfl, rfl⟩
theorem Wd : gy Tryz.prog 85 := ⟨_, Tryz.func85, by kernel_rfl, rfl⟩
theorem fnOk86 : gy Tryz.prog 86 := ⟨_, Tryz.func86, by kernel_rfl, rfl⟩
theorem We : gy Tryz.prog 87 := ⟨_, Tryz.func87, by kernel_rfl, rfl⟩
theorem Wh : gy Tryz.prog 88 := ⟨_, Tryz.func88, by kernel_rfl, rfl⟩
theorem Wi : gy Tryz.prog 89 := ⟨_, Tryz.func89, by kernel_rfl, rfl⟩
theorem Wj : gy Tryz.prog 90 := ⟨_, Tryz.func90, by kernel_rfl, rfl⟩
theorem fnOk91 : gy Tryz.prog 91 := ⟨_, Tryz.func91, by kernel_rfl, rfl⟩
theorem Tv : VD Tryz.prog 156 := ⟨by kernel_rfl⟩
theorem gz : xw Tryz.prog 101 [(.bool (false)), (I6 0), (.bool (false))] := ⟨⟨_, Tryz.underlying101, trivial⟩, by kernel_rfl⟩
theorem mI : xw Tryz.prog 113 [(I6 0), (I6 0), (.slice none 0 0)] := ⟨⟨_, Tryz.underlying113, trivial⟩, by kernel_rfl⟩
theorem pq : xw Tryz.prog 147 [(I6 0), (I6 0), (.slice none 0 0), (.slice none 0 0), (.slice none 0 0), (.slice none 0 0)] := ⟨⟨_, Tryz.underlying147, trivial⟩, by kernel_rfl⟩
theorem kD : xw Tryz.prog 160 [(I6 0), (I6 0)] := ⟨⟨_, Tryz.underlying160, trivial⟩, by kernel_rfl⟩
theorem bV : xw Tryz.prog 26 [(.slice none 0 0), (.slice none 0 0), (I6 0), (I6 0)] := ⟨⟨_, Tryz.underlying26, trivial⟩, by kernel_rfl⟩
theorem iA : xw Tryz.prog 49 [(I6 0), (I6 0), (.slice none 0 0), (I6 0)] := ⟨⟨_, Tryz.underlying49, trivial⟩, by kernel_rfl⟩
theorem bS : xw Tryz.prog 51 [(I6 0), (I6 0)] := ⟨⟨_, Tryz.underlying51, trivial⟩, by kernel_rfl⟩
theorem xy : xw Tryz.prog 57 [(I6 0), (I6 0), (.slice none 0 0)] := ⟨⟨_, Tryz.underlying57, trivial⟩, by kernel_rfl⟩
theorem qI : xw Tryz.prog 93 [(I6 0), (I6 0), (I6 0), (I6 0), (.slice none 0 0)] := ⟨⟨_, Tryz.underlying93, trivial⟩, by kernel_rfl⟩
theorem FL : MapOf Tryz.prog 125 (.bool (false)) := ⟨_, _, Tryz.underlying125, Tryz.underlying3, by kernel_rfl⟩
theorem lv : MapOf Tryz.prog 131 (aV []) := ⟨_, _, Tryz.underlying131, Tryz.underlying3, by kernel_rfl⟩
theorem Sj : MapOf Tryz.prog 89 (I6 0) := ⟨_, _, Tryz.underlying89, Tryz.underlying3, by kernel_rfl⟩
theorem qi : One Tryz.prog 111 (.slice none 0 0) := ⟨⟨_, Tryz.underlying111, trivial⟩, by kernel_rfl, rfl⟩
theorem GJ : One Tryz.prog 125 (.map none) := ⟨⟨_, Tryz.underlying125, trivial⟩, by kernel_rfl, rfl⟩
theorem yz : One Tryz.prog 145 (.slice none 0 0) := ⟨⟨_, Tryz.underlying145, trivial⟩, by kernel_rfl, rfl⟩
theorem nM : One Tryz.prog 153 (.slice none 0 0) := ⟨⟨_, Tryz.underlying153, trivial⟩, by kernel_rfl, rfl⟩
theorem BJ : One Tryz.prog 159 .nilFunc := ⟨⟨_, Tryz.underlying159, trivial⟩, by kernel_rfl, rfl⟩
theorem Nk : One Tryz.prog 165 .nilFunc := ⟨⟨_, Tryz.underlying165, trivial⟩, by kernel_rfl, rfl⟩
theorem JE : One Tryz.prog 166 .nilFunc := ⟨⟨_, Tryz.underlying166, trivial⟩, by kernel_rfl, rfl⟩
theorem iU : One Tryz.prog 23 (.slice none 0 0) := ⟨⟨_, Tryz.underlying23, trivial⟩, by kernel_rfl, rfl⟩
theorem kr : One Tryz.prog 24 (.slice none 0 0) := ⟨⟨_, Tryz.underlying24, trivial⟩, by kernel_rfl, rfl⟩
theorem rQ : One Tryz.prog 27 (.slice none 0 0) := ⟨⟨_, Tryz.underlying27, trivial⟩, by kernel_rfl, rfl⟩
theorem aU : One Tryz.prog 3 (I6 0) := ⟨⟨_, Tryz.underlying3, trivial⟩, by kernel_rfl, rfl⟩
theorem xz : One Tryz.prog 4 (.bool (false)) := ⟨⟨_, Tryz.underlying4, trivial⟩, by kernel_rfl, rfl⟩
theorem lC : One Tryz.prog 47 (.slice none 0 0) := ⟨⟨_, Tryz.underlying47, trivial⟩, by kernel_rfl, rfl⟩
theorem Cj : One Tryz.prog 55 (.slice none 0 0) := ⟨⟨_, Tryz.underlying55, trivial⟩, by kernel_rfl, rfl⟩
theorem Ag : One Tryz.prog 67 (.slice none 0 0) := ⟨⟨_, Tryz.underlying67, trivial⟩, by kernel_rfl, rfl⟩
theorem Sk : One Tryz.prog 89 (.map none) := ⟨⟨_, Tryz.underlying89, trivial⟩, by kernel_rfl, rfl⟩
theorem Ah : One Tryz.prog 9 (aV []) := ⟨⟨_, Tryz.underlying9, trivial⟩, by kernel_rfl, rfl⟩
theorem Sl : RY Tryz.prog 51 := ⟨⟨_, _, Tryz.underlying51, by decide, by decide, rfl, rfl, Tryz.underlying3, Tryz.underlying3, by kernel_rfl, by kernel_rfl⟩, by kernel_rfl, by kernel_rfl⟩
theorem lD : SliceOf Tryz.prog 111 147 6 := ⟨Tryz.underlying111, by kernel_rfl⟩
theorem kI : SliceOf Tryz.prog 145 160 2 := ⟨Tryz.underlying145, by kernel_rfl⟩
theorem fe : SliceOf Tryz.prog 153 9 1 := ⟨Tryz.underlying153, by kernel_rfl⟩
theorem JF : SliceOf Tryz.prog 204 111 1 := ⟨Tryz.underlying204, by kernel_rfl⟩
theorem jW : SliceOf Tryz.prog 22 57 3 := ⟨Tryz.underlying22, by kernel_rfl⟩
theorem df : SliceOf Tryz.prog 23 49 4 := ⟨Tryz.underlying23, by kernel_rfl⟩
theorem eB : SliceOf Tryz.prog 24 47 1 := ⟨Tryz.underlying24, by kernel_rfl⟩
theorem bZ : SliceOf Tryz.prog 27 3 1 := ⟨Tryz.underlying27, by kernel_rfl⟩
theorem bH : SliceOf Tryz.prog 47 51 2 := ⟨Tryz.underlying47, by kernel_rfl⟩
theorem jF : SliceOf Tryz.prog 55 93 5 := ⟨Tryz.underlying55, by kernel_rfl⟩
theorem iN : SliceOf Tryz.prog 67 113 3 := ⟨Tryz.underlying67, by kernel_rfl⟩
theorem Tw : Struct Tryz.prog 101 [(.bool (false)), (I6 0), (.bool (false))] [(0, 1), (1, 1), (2, 1)] := ⟨by kernel_rfl, _, Tryz.underlying101, by kernel_rfl⟩
theorem Tx : Struct Tryz.prog 113 [(I6 0), (I6 0), (.slice none 0 0)] [(0, 1), (1, 1), (2, 1)] := ⟨by kernel_rfl, _, Tryz.underlying113, by kernel_rfl⟩
theorem Ty : Struct Tryz.prog 147 [(I6 0), (I6 0), (.slice none 0 0), (.slice none 0 0), (.slice none 0 0), (.slice none 0 0)] [(0, 1), (1, 1), (2, 1), (3, 1), (4, 1), (5, 1)] := ⟨by kernel_rfl, _, Tryz.underlying147, by kernel_rfl⟩
theorem Ai : Struct Tryz.prog 160 [(I6 0), (I6 0)] [(0, 1), (1, 1)] := ⟨by kernel_rfl, _, Tryz.underlying160, by kernel_rfl⟩
theorem r9 : Struct Tryz.prog 26 [(.slice none 0 0), (.slice none 0 0), (I6 0), (I6 0)] [(0, 1), (1, 1), (2, 1), (3, 1)] := ⟨by kernel_rfl, _, Tryz.underlying26, by kernel_rfl⟩
theorem FM : Struct Tryz.prog 49 [(I6 0), (I6 0), (.slice none 0 0), (I6 0)] [(0, 1), (1, 1), (2, 1), (3, 1)] := ⟨by kernel_rfl, _, Tryz.underlying49, by kernel_rfl⟩
theorem uL : Struct Tryz.prog 51 [(I6 0), (I6 0)] [(0, 1), (1, 1)] := ⟨by kernel_rfl, _, Tryz.underlying51, by kernel_rfl⟩
theorem Wl : Struct Tryz.prog 57 [(I6 0), (I6 0), (.slice none 0 0)] [(0, 1), (1, 1), (2, 1)] := ⟨by kernel_rfl, _, Tryz.underlying57, by kernel_rfl⟩
theorem ny : Struct Tryz.prog 93 [(I6 0), (I6 0), (I6 0), (I6 0), (.slice none 0 0)] [(0, 1), (1, 1), (2, 1), (3, 1), (4, 1)] := ⟨by kernel_rfl, _, Tryz.underlying93, by kernel_rfl⟩
theorem mixed : Tryz.prog.follows .mixedOrders = true := by kernel_rfl
theorem I1 (w0 : World) (M : BS) (hM : ∀ b, M b → b < w0.heap.size) (hT : wL Tryz.prog 4 w0) (a : Str) (b : Str) (r : List Str) (hs : M0 a b = some r) :
    Calls Tryz.prog 101 #[aV a, aV b] w0 (fun e w' => Grow w0 w' ∧ ∃ u, e = .returned u ∧ eX oN w' M u r) :=
  YD Tryz.strings_Split hM hT hs
theorem qJ (w0 : World) (M : BS) (hM : ∀ b, M b → b < w0.heap.size) (hT : wL Tryz.prog 4 w0) (a : Str) (r : Int × Bool) (hs : CF a = some r) :
    Calls Tryz.prog 102 #[aV a] w0 (fun e w' => Grow w0 w' ∧ ∃ u, e = .returned (.tuple #[.int .i64 r.1, u]) ∧ Oq u r.2) :=
  atoi_w Tryz.strconv_Atoi_ok Tryz.strconv_Atoi_syntax_var Tryz.strconv_Atoi_range_var hT hs
def aW (a : Int) (b : Int) (c : Int) : Bool :=
  (decide ((b : Int) ≤ a) && decide ((a : Int) ≤ c))
theorem gU (w0 : World) (M : BS) (hM : ∀ b, M b → b < w0.heap.size) (a : Int) (b : Int) (c : Int) (r : Bool) (hs : aW a b c = r) :
    Calls Tryz.prog 51 #[(I6 a), (I6 b), (I6 c)] w0 (fun e w' => Grow w0 w' ∧ e = .returned (.bool r)) := by
 refine aL (args := [(I6 a), (I6 b), (I6 c)]) Tryz.func51 rfl Tryz.ntmps51 (bC rfl) ?_
 have h := SH.init hM
 refine nG (aa (ae (v := (.bool (false))) rfl) (nJ (aa (ah (v := (I6 b)) rfl) (aa (ah (v := (I6 a)) rfl) (aa (Fs rfl rfl) (aa (ah (v := (.bool (decide ((b : Int) ≤ a)))) rfl) (aC rfl rfl (fun q => ah (v := (I6 a)) rfl) (aC rfl rfl (fun q => ah (v := (I6 c)) rfl) (aC rfl rfl (fun q => Fs (dE q) (dE q)) (aa (gP rfl rfl nQ) (aa (ae (v := (.bool ((decide ((b : Int) ≤ a) && decide ((a : Int) ≤ c))))) rfl) (nR (bR (v := (.bool ((decide ((b : Int) ≤ a) && decide ((a : Int) ≤ c))))) Tryz.results51 rfl ?_)))))))))))))
 obtain rfl := hs
 exact ⟨h.grown, rfl⟩
def pz (Tz : Int → Option (Int × Bool)) (x40 : Int) : Option (Int × Bool) :=
  Tz x40
def pE (F0 : List bB → Int → Option (Int × Bool)) (b : Int) (zW : List bB) (x32 : Int) (Tz : Int → Option (Int × Bool)) : Option (Int × Bool) :=
  bif decide ((0 : Int) < (zW.length : Int)) then gJ (jI (b - 1)) ((F0 zW (b - 1)).bind fun tY => gJ (jI (x32 + tY.1)) (bif ((!tY.2) || decide ((30 : Int) < (x32 + tY.1))) then some (0, false) else pz Tz (x32 + tY.1))) else pz Tz x32
def pF (TA : Int → Option (Int × Bool)) (x32 : Int) : Option (Int × Bool) :=
  bif decide ((30 : Int) < x32) then some (0, false) else TA x32
def pG (F0 : List bB → Int → Option (Int × Bool)) (b : Int) (a : List bB) (x8 : bB) (x5 : Int) (TA : Int → Option (Int × Bool)) : Option (Int × Bool) :=
  gJ (jI (x5 + 1)) (each (pE F0 b) (pF TA) [x8.a, x8.b] (x5 + 1))
def pI (x5 : Int) : Option (Int × Bool) :=
  some (x5, true)
def xN (F0 : List bB → Int → Option (Int × Bool)) (a : List bB) (b : Int) : Option (Int × Bool) :=
  bif decide ((b : Int) < 1) then some (0, false) else each (pG F0 b a) pI a 0
def nz : Nat → List bB → Int → Option (Int × Bool)
  | 0 => fun _ _ => none
  | N + 1 => xN (nz N)
theorem Ea : ∀ (N : Nat) (w0 : World) (M : BS) (hM : ∀ b, M b → b < w0.heap.size) (va : Value) (a : List bB) (ha : fP eZ w0 BE M va a) (b : Int) (r : Int × Bool) (hs : nz N a b = some r),
    Calls Tryz.prog 128 #[va, (I6 b)] w0 (fun e w' => Grow w0 w' ∧ e = .returned (.tuple #[.int .i64 r.1, .bool r.2])) := by
 intro N
 induction N with
 | zero => intro w0 M hM va a ha b r hs; cases hs
 | succ N ih =>
 intro w0 M hM va a ha b r hs
 replace hs : xN (nz N) a b = some r := hs
 generalize nz N = F0 at hs ih
 refine aL (args := [va, (I6 b)]) Tryz.func128 rfl Tryz.ntmps128 (bC rfl) ?_
 have h := SH.init hM
 replace h := h.fG 1 ha bE
 have vE := ha.bW
 refine nG (aa (ae (v := (I6 0)) rfl) (aa (ae (v := (.bool (false))) rfl) (nK (aa (ah (v := (I6 b)) rfl) (aa (dL rfl rfl) (nN (aH hs rfl (fun c1 hs => ?_) (fun c1 hs => ?_))))))))
 refine nG (aa (ae (v := (I6 0)) rfl) (aa (ae (v := (.bool (false))) rfl) (nR (az (D9 (v1 := (I6 0)) (v2 := (.bool (false))) Tryz.results128 rfl rfl ?_)))))
 obtain rfl := fI hs
 exact ⟨h.grown, rfl⟩
 refine nS (aa (ae (v := (I6 0)) rfl) (nK (aa (ah (v := va) rfl) (aa (bT lD rfl (h.iM 1 rfl)) (aa (ah (v := (I6 0)) rfl) (nN (aP (fT (σ := Nat × Int × Int) (inl ([4, 5, 6, 8, 10, 11, 12] ++ rg 17 39)) (fun ⟨k6, i7, x5⟩ => [(6, (I6 x5)), (17, (I6 i7))]) (fun ⟨k6, i7, x5⟩ w => SH w0 M BE w (hset [(1, .sr eZ va a)]) ∧ i7 = (k6 : Int) ∧ each (pG F0 b a) pI (a.drop k6) x5 = some r) (fun ⟨k6, i7, x5⟩ => a.length - k6) ⟨0, 0, 0⟩ ⟨rfl, rfl, trivial⟩ ?_ ?_))))))))
 exact ⟨h.cn _, rfl, hs⟩
 rintro ⟨k6, i7, x5⟩ w dz ⟨h, hik, hs⟩
 refine nG ?_
 refine aa (dL rfl rfl) (nN ?_)
 refine aO (iw rfl (fun e11 => ?_) (fun e11 => ?_))
 refine aI (ak ?_)
 obtain ⟨x8, e12a, e12b⟩ := gK (hik ▸ e11)
 rw [e12b, dO] at hs
 generalize hnx10 : each (pG F0 b a) pI (a.drop (k6 + 1)) = TA at hs
 have e12r := gN ((h.iM 1 rfl)).bW hik e11
 refine aO (aP (nG ?_))
 obtain ⟨b14, o15, cs16, h, r17, i13⟩ := h.Br 1 2 rfl lD rfl (jb hik) (gM hik e12a)
 obtain ⟨Vi, u20, u22, u24, rfl, g19, g21, g23, g25⟩ := Bz r17
 replace h := h.bM 3 g19.up
 replace h := h.bM 4 g21.up.up
 replace h := h.bM 5 g23.up.up.up
 replace h := h.bM 6 g25.up.up.up.up
 refine aa (i13 _ _ _ _ _ _ _ _ _ rfl rfl) (aa (jm (k := 0) (vs := [(I6 x8.kind), (I6 x8.n), Vi, u20, u22, u24]) h 2 rfl pq rfl rfl rfl (bC rfl)) (bO h 7 pq fun w b26 h => dn (vs := [(I6 x8.kind), (I6 x8.n), Vi, u20, u22, u24]) h 7 [(I6 x8.kind), (I6 x8.n), Vi, u20, u22, u24] rfl pq rfl rfl rfl rfl rfl (ai rfl (ai rfl (ai (h.fM 3 rfl).one (ai (h.fM 4 rfl).one (ai (h.fM 5 rfl).one (ai (h.fM 6 rfl).one aT)))))) fun w h => nJ (aa (ah (v := (I6 x5)) rfl) ?_)))
 obtain ⟨a27, hs⟩ := bu hs
 refine aa (dm rfl rfl a27) (aa (ae (v := (I6 ((x5 + 1)))) rfl) (nK (aa (ag Ae rfl) (aa (aA h 7 rfl qi rfl rfl) (aa (ag Af rfl) (aa (aA h 7 rfl qi rfl rfl) (sV (R := (oV eZ)) (vs := [u22, u24]) (xs := [x8.a, x8.b]) h 8 Tu rfl rfl rfl ⟨(h.fM 5 rfl).rdc, ⟨(h.fM 6 rfl).rdc, trivial⟩⟩ rfl fun w u28 h => aa (bT JF rfl (h.dG 8 rfl)) (aa (ah (v := (I6 0)) rfl) (nN (aP ?_))))))))))
 replace h := h.freeze 8 rfl
 refine fT (σ := Nat × Int × Int) (inl ([4, 5, 6, 10, 11, 12] ++ rg 29 24)) (fun ⟨Vj, i34, x32⟩ => [(6, (I6 x32)), (29, (I6 i34))]) (fun ⟨Vj, i34, x32⟩ w => SH w0 M BE w (hset [(1, .sr eZ va a), (8, .rd (oV eZ) u28 [x8.a, x8.b])]) ∧ i34 = (Vj : Int) ∧ each (pE F0 b) (pF TA) ([x8.a, x8.b].drop Vj) x32 = some r) (fun ⟨Vj, i34, x32⟩ => [x8.a, x8.b].length - Vj) ⟨0, 0, (x5 + 1)⟩ ⟨rfl, rfl, trivial⟩ ?_ ?_
 exact ⟨h.cn _, rfl, hs⟩
 rintro ⟨Vj, i34, x32⟩ w dz ⟨h, hik, hs⟩
 refine nG ?_
 refine aa (dL rfl rfl) (nN ?_)
 refine aO (iw rfl (fun e38 => ?_) (fun e38 => ?_))
 refine aI (ak ?_)
 obtain ⟨zW, e39a, e39b⟩ := gK (hik ▸ e38)
 rw [e39b, dO] at hs
 generalize hnx37 : each (pE F0 b) (pF TA) ([x8.a, x8.b].drop (Vj + 1)) = Tz at hs
 have e39r := gN ((h.mM 8 rfl)).bW hik e38
 refine bX (σ := Int) (inl ([4, 5, 6, 10, 11, 12] ++ rg 31 21)) (fun x40 => [(6, (I6 x40))]) (fun x40 w => SH w0 M BE w (hset [(1, .sr eZ va a), (8, .rd (oV eZ) u28 [x8.a, x8.b])]) ∧ pz Tz x40 = some r) ?_ ?_
 rintro x40 w dz ⟨h, hs⟩
 refine aB (aa (dm rfl rfl e39r) (aa (ah (v := (I6 ((i34 + 1)))) rfl) (ay (au ?_))))
 subst hnx37
 exact jQ ⟨Vj + 1, i34 + 1, x40⟩ ⟨h.cn _, by omega, hs⟩ (by have := qE e38; dsimp only; omega)
 refine aP (nG ?_)
 obtain ⟨b42, o43, cs44, h, r45, i41⟩ := h.Fw 8 9 rfl JF rfl (jb hik) (gM hik e39a)
 obtain ⟨u46, rfl, g47⟩ := r45
 replace h := h.bM 10 g47.up
 refine aa (i41 _ _ _ _ _ _ _ _ _ rfl rfl) (aa (eU (k := 0) h 9 rfl qi rfl rfl) (aa (ae (v := u46) rfl) (nJ (aa (ah (v := u46) rfl) (aa (bT lD rfl (h.mM 10 rfl)) (aa (j5 rfl rfl) (nN (aH hs rfl (fun c48 hs => ?_) (fun c48 hs => ?_)))))))))
 refine nG (aa (ah (v := u46) rfl) (aa (ah (v := (I6 b)) rfl) ?_))
 obtain ⟨a49, hs⟩ := bu hs
 refine aa (oO rfl rfl a49) ?_
 obtain ⟨tY, e51, hs⟩ := aJ hs
 refine aR Sd rfl rfl (ih _ _ h.lt u46 zW (h.mM 10 rfl) (b - 1) _ e51) ?_
 rintro _ w ⟨k52, rfl⟩
 refine ⟨_, rfl, ?_⟩
 replace h := h.grow k52
 refine aa (ah (v := (.tuple #[(I6 tY.1), (.bool (tY.2))])) rfl) (aa (aY rfl rfl) (aa (aY rfl rfl) (aa (ae (v := (I6 tY.1)) rfl) (aa (ae (v := (.bool (tY.2))) rfl) (nJ (aa (ah (v := (I6 x32)) rfl) (aa (ah (v := (I6 tY.1)) rfl) ?_)))))))
 obtain ⟨a53, hs⟩ := bu hs
 refine aa (dm rfl rfl a53) (aa (ae (v := (I6 ((x32 + tY.1)))) rfl) (nJ (aa (ah (v := (.bool (tY.2))) rfl) (aa (gQ rfl) (aa (ah (v := (.bool ((!tY.2)))) rfl) (aC rfl rfl (fun q => ah (v := (I6 ((x32 + tY.1)))) rfl) (aC rfl rfl (fun q => j5 (dE q) rfl) (aa (iy rfl rfl nQ) (nN (aH hs rfl (fun c54 hs => ?_) (fun c54 hs => ?_)))))))))))
 refine nG (aa (ae (v := (I6 0)) rfl) (aa (ae (v := (.bool (false))) rfl) (nR (aF (az (az (aF (az (aF (az (az (aF (az (D9 (v1 := (I6 0)) (v2 := (.bool (false))) Tryz.results128 rfl rfl ?_))))))))))))))
 obtain rfl := fI hs
 exact ⟨h.grown, rfl⟩
 refine aI (ax (au ?_))
 exact bP (x32 + tY.1) ⟨h.cn _, hs⟩
 refine aI (ax (au ?_))
 exact bP x32 ⟨h.cn _, hs⟩
 rw [gL (hik ▸ e38), gT] at hs
 refine nE (aa (ah (v := (I6 x32)) rfl) (aa (j5 rfl rfl) (nN (aH hs rfl (fun c55 hs => ?_) (fun c55 hs => ?_)))))
 refine nG (aa (ae (v := (I6 0)) rfl) (aa (ae (v := (.bool (false))) rfl) (nR (aF (az (az (aF (az (D9 (v1 := (I6 0)) (v2 := (.bool (false))) Tryz.results128 rfl rfl ?_)))))))))
 obtain rfl := fI hs
 exact ⟨h.grown, rfl⟩
 refine aI (ax (ak (aB (aa (dm rfl rfl e12r) (aa (ah (v := (I6 ((i7 + 1)))) rfl) (ay (au ?_)))))))
 subst hnx10
 exact jQ ⟨k6 + 1, i7 + 1, x32⟩ ⟨h.cn _, by omega, hs⟩ (by have := qE e11; dsimp only; omega)
 rw [gL (hik ▸ e11), gT] at hs
 refine nE (aa (ah (v := (I6 x5)) rfl) (aa (ae (v := (I6 x5)) rfl) (aa (ae (v := (.bool (true))) rfl) (nR (D9 (v1 := (I6 x5)) (v2 := (.bool (true))) Tryz.results128 rfl rfl ?_)))))
 obtain rfl := fI hs
 exact ⟨h.grown, rfl⟩
theorem jX (w0 : World) (M : BS) (hM : ∀ b, M b → b < w0.heap.size) (a : Str) (b : UInt8) (r : Bool) (hs : hasB a b = r) :
    Calls Tryz.prog 145 #[(aV a), (aV [b])] w0 (fun e w' => Grow w0 w' ∧ e = .returned (.bool r)) := by
  refine (Tryz.strings_Contains_one ⟨a.toArray⟩ b w0).mono ?_
  rintro e w' ⟨rfl, rfl⟩
  subst hs
  exact ⟨aD.refl _ _, by simp [hasB]⟩
def aS (a : Int) (b : Int) : Bool :=
  (decide ((0 : Int) ≤ a) && decide ((a : Int) < b))
theorem rV (w0 : World) (M : BS) (hM : ∀ b, M b → b < w0.heap.size) (a : Int) (b : Int) (r : Bool) (hs : aS a b = r) :
    Calls Tryz.prog 55 #[(I6 a), (I6 b)] w0 (fun e w' => Grow w0 w' ∧ e = .returned (.bool r)) := by
 refine aL (args := [(I6 a), (I6 b)]) Tryz.func55 rfl Tryz.ntmps55 (bC rfl) ?_
 have h := SH.init hM
 refine nG (aa (ae (v := (.bool (false))) rfl) (nJ (aa (ah (v := (I6 a)) rfl) (aa (qy rfl rfl) (aa (ah (v := (.bool (decide ((0 : Int) ≤ a)))) rfl) (aC rfl rfl (fun q => ah (v := (I6 a)) rfl) (aC rfl rfl (fun q => ah (v := (I6 b)) rfl) (aC rfl rfl (fun q => dL (dE q) (dE q)) (aa (gP rfl rfl nQ) (aa (ae (v := (.bool ((decide ((0 : Int) ≤ a) && decide ((a : Int) < b))))) rfl) (nR (bR (v := (.bool ((decide ((0 : Int) ≤ a) && decide ((a : Int) < b))))) Tryz.results55 rfl ?_))))))))))))
 obtain rfl := hs
 exact ⟨h.grown, rfl⟩
def fC (a : Int) : Bool :=
  (aW a (-1000000000) 1000000000)
theorem Eu (w0 : World) (M : BS) (hM : ∀ b, M b → b < w0.heap.size) (a : Int) (r : Bool) (hs : fC a = r) :
    Calls Tryz.prog 53 #[(I6 a)] w0 (fun e w' => Grow w0 w' ∧ e = .returned (.bool r)) := by
 refine aL (args := [(I6 a)]) Tryz.func53 rfl Tryz.ntmps53 (bC rfl) ?_
 have h := SH.init hM
 refine nG (aa (ae (v := (.bool (false))) rfl) (nJ (aa (ah (v := (I6 a)) rfl) (aR zG rfl rfl (gU _ _ h.lt a (-1000000000) 1000000000 _ rfl) ?_))))
 rintro _ w ⟨k1, rfl⟩
 refine ⟨_, rfl, ?_⟩
 replace h := h.grow k1
 refine aa (ae (v := (.bool ((aW a (-1000000000) 1000000000)))) rfl) (nR (bR (v := (.bool ((aW a (-1000000000) 1000000000)))) Tryz.results53 rfl ?_))
 obtain rfl := hs
 exact ⟨h.grown, rfl⟩
def fU (x2 : Bool) : Int :=
  bif (!x2) then 3 else 0
def eO (a : Tok) (b : List fB) (c : Int) : Int :=
  bif decide ((a.kind : Int) = 1) then fU (fC a.n) else bif decide ((a.kind : Int) = 2) then fU (aS a.n c) else bif decide ((a.kind : Int) = 3) then fU (aW a.n 1 5) else bif decide ((a.kind : Int) = 4) then fU (aW a.n 0 3) else bif decide ((a.kind : Int) = 5) then fU (aW a.n 1 4) else bif decide ((a.kind : Int) = 6) then bif (!(aS a.n (b.length : Int))) then 5 else fU true else 4
theorem uM (w0 : World) (M : BS) (hM : ∀ b, M b → b < w0.heap.size) (a : Tok) (vb : Value) (b : List fB) (hb : fP jc w0 BE M vb b) (c : Int) (r : Int) (hs : eO a b c = r) :
    Calls Tryz.prog 107 #[(.agg #[(I6 a.kind), (I6 a.n)]), vb, (I6 c)] w0 (fun e w' => Grow w0 w' ∧ e = .returned (.int .i64 r)) := by
 refine aL (args := [(.agg #[(I6 a.kind), (I6 a.n)]), vb, (I6 c)]) Tryz.func107 rfl Tryz.ntmps107 (bC rfl) ?_
 have h := SH.init hM
 replace h := h.fG 1 hb bE
 have KZ := hb.bW
 refine nG (oP (cs := [(I6 a.kind), (I6 a.n)]) h 2 rfl rfl fun w b1 h => aa (ae (v := (I6 0)) rfl) (nJ (aa (ae (v := (.bool (false))) rfl) (nN (bX (σ := Bool) (inl (rg 6 38)) (fun x2 => [(7, (.bool (x2)))]) (fun x2 w => SH w0 M BE w (hset []) ∧ fU x2 = r) ?_ ?_)))))
 rintro x2 w dz ⟨h, hs⟩
 refine aO (nG (aa (ah (v := (.bool (x2))) rfl) (aa (gQ rfl) (nN (aH hs rfl (fun c3 hs => ?_) (fun c3 hs => ?_))))))
 refine nG (aa (ae (v := (I6 3)) rfl) (nR (az (bR (v := (I6 3)) Tryz.results107 rfl ?_))))
 obtain rfl := hs
 exact ⟨h.grown, rfl⟩
 refine nS (aa (ae (v := (I6 0)) rfl) (nR (bR (v := (I6 0)) Tryz.results107 rfl ?_)))
 obtain rfl := hs
 exact ⟨h.grown, rfl⟩
 refine nG (aa (ag FI rfl) (aa (aA h 2 rfl aU rfl rfl) (nN (aP (nG (aa (bD rfl rfl) (aa (ae (v := (.bool (decide ((a.kind : Int) = 1)))) rfl) (nN (aH hs rfl (fun c4 hs => ?_) (fun c4 hs => ?_))))))))))
 refine aB (aa (ag ou rfl) (aa (aA h 2 rfl aU rfl rfl) (aR fnOk53 rfl rfl (Eu _ _ h.lt a.n _ rfl) ?_)))
 rintro _ w ⟨k5, rfl⟩
 refine ⟨_, rfl, ?_⟩
 replace h := h.grow k5
 refine aa (ae (v := (.bool ((fC a.n)))) rfl) (ay (ax (au ?_)))
 exact bP (fC a.n) ⟨h.cn _, hs⟩
 refine nG (aa (bD rfl rfl) (aa (ae (v := (.bool (decide ((a.kind : Int) = 2)))) rfl) (nN (aH hs rfl (fun c6 hs => ?_) (fun c6 hs => ?_)))))
 refine aB (aa (ag ou rfl) (aa (aA h 2 rfl aU rfl rfl) (aa (ah (v := (I6 c)) rfl) (aR Qo rfl rfl (rV _ _ h.lt a.n c _ rfl) ?_))))
 rintro _ w ⟨k7, rfl⟩
 refine ⟨_, rfl, ?_⟩
 replace h := h.grow k7
 refine aa (ae (v := (.bool ((aS a.n c)))) rfl) (ay (ax (au ?_)))
 exact bP (aS a.n c) ⟨h.cn _, hs⟩
 refine nG (aa (bD rfl rfl) (aa (ae (v := (.bool (decide ((a.kind : Int) = 3)))) rfl) (nN (aH hs rfl (fun c8 hs => ?_) (fun c8 hs => ?_)))))
 refine aB (aa (ag ou rfl) (aa (aA h 2 rfl aU rfl rfl) (aR zG rfl rfl (gU _ _ h.lt a.n 1 5 _ rfl) ?_)))
 rintro _ w ⟨k9, rfl⟩
 refine ⟨_, rfl, ?_⟩
 replace h := h.grow k9
 refine aa (ae (v := (.bool ((aW a.n 1 5)))) rfl) (ay (ax (au ?_)))
 exact bP (aW a.n 1 5) ⟨h.cn _, hs⟩
 refine nG (aa (bD rfl rfl) (aa (ae (v := (.bool (decide ((a.kind : Int) = 4)))) rfl) (nN (aH hs rfl (fun c10 hs => ?_) (fun c10 hs => ?_)))))
 refine aB (aa (ag ou rfl) (aa (aA h 2 rfl aU rfl rfl) (aR zG rfl rfl (gU _ _ h.lt a.n 0 3 _ rfl) ?_)))
 rintro _ w ⟨k11, rfl⟩
 refine ⟨_, rfl, ?_⟩
 replace h := h.grow k11
 refine aa (ae (v := (.bool ((aW a.n 0 3)))) rfl) (ay (ax (au ?_)))
 exact bP (aW a.n 0 3) ⟨h.cn _, hs⟩
 refine nG (aa (bD rfl rfl) (aa (ae (v := (.bool (decide ((a.kind : Int) = 5)))) rfl) (nN (aH hs rfl (fun c12 hs => ?_) (fun c12 hs => ?_)))))
 refine aB (aa (ag ou rfl) (aa (aA h 2 rfl aU rfl rfl) (aR zG rfl rfl (gU _ _ h.lt a.n 1 4 _ rfl) ?_)))
 rintro _ w ⟨k13, rfl⟩
 refine ⟨_, rfl, ?_⟩
 replace h := h.grow k13
 refine aa (ae (v := (.bool ((aW a.n 1 4)))) rfl) (ay (ax (au ?_)))
 exact bP (aW a.n 1 4) ⟨h.cn _, hs⟩
 refine nG (aa (bD rfl rfl) (aa (ae (v := (.bool (decide ((a.kind : Int) = 6)))) rfl) (nN (aH hs rfl (fun c14 hs => ?_) (fun c14 hs => ?_)))))
 refine aO (nG (aa (ag ou rfl) (aa (aA h 2 rfl aU rfl rfl) (aa (ah (v := vb) rfl) (aa (bT iN rfl (h.iM 1 rfl)) (aR Qo rfl rfl (rV _ _ h.lt a.n (b.length : Int) _ rfl) ?_))))))
 rintro _ w ⟨k15, rfl⟩
 refine ⟨_, rfl, ?_⟩
 replace h := h.grow k15
 refine aa (gQ rfl) (nN (aH hs rfl (fun c16 hs => ?_) (fun c16 hs => ?_)))
 refine nG (aa (ae (v := (I6 5)) rfl) (nR (az (aF (az (bR (v := (I6 5)) Tryz.results107 rfl ?_))))))
 obtain rfl := hs
 exact ⟨h.grown, rfl⟩
 refine aI (ak (aB (aa (ae (v := (.bool (true))) rfl) (ay (ax (au ?_))))))
 exact bP true ⟨h.cn _, hs⟩
 refine nG (aa (ae (v := (I6 4)) rfl) (nR (aF (az (bR (v := (I6 4)) Tryz.results107 rfl ?_)))))
 obtain rfl := hs
 exact ⟨h.grown, rfl⟩
def rA (a : Tok) (b : List fB) : Option Int :=
  bif decide ((a.kind : Int) = 3) then some 2 else bif decide ((a.kind : Int) = 4) then some 1 else bif decide ((a.kind : Int) = 6) then (idx b a.n).bind fun x5 => some x5.params else some 0
theorem sW (w0 : World) (M : BS) (hM : ∀ b, M b → b < w0.heap.size) (a : Tok) (vb : Value) (b : List fB) (hb : fP jc w0 BE M vb b) (r : Int) (hs : rA a b = some r) :
    Calls Tryz.prog 108 #[(.agg #[(I6 a.kind), (I6 a.n)]), vb] w0 (fun e w' => Grow w0 w' ∧ e = .returned (.int .i64 r)) := by
 refine aL (args := [(.agg #[(I6 a.kind), (I6 a.n)]), vb]) Tryz.func108 rfl Tryz.ntmps108 (bC rfl) ?_
 have h := SH.init hM
 replace h := h.fG 1 hb bE
 have KZ := hb.bW
 refine nG (oP (cs := [(I6 a.kind), (I6 a.n)]) h 2 rfl rfl fun w b1 h => aa (ae (v := (I6 0)) rfl) (nK (aa (ag FI rfl) (aa (aA h 2 rfl aU rfl rfl) (nN (aP (nG (aa (bD rfl rfl) (aa (ae (v := (.bool (decide ((a.kind : Int) = 3)))) rfl) (nN (aH hs rfl (fun c2 hs => ?_) (fun c2 hs => ?_))))))))))))
 refine nG (aa (ae (v := (I6 2)) rfl) (nR (aF (az (bR (v := (I6 2)) Tryz.results108 rfl ?_)))))
 obtain rfl := fI hs
 exact ⟨h.grown, rfl⟩
 refine nG (aa (bD rfl rfl) (aa (ae (v := (.bool (decide ((a.kind : Int) = 4)))) rfl) (nN (aH hs rfl (fun c3 hs => ?_) (fun c3 hs => ?_)))))
 refine nG (aa (ae (v := (I6 1)) rfl) (nR (aF (az (bR (v := (I6 1)) Tryz.results108 rfl ?_)))))
 obtain rfl := fI hs
 exact ⟨h.grown, rfl⟩
 refine nG (aa (bD rfl rfl) (aa (ae (v := (.bool (decide ((a.kind : Int) = 6)))) rfl) (nN (aH hs rfl (fun c4 hs => ?_) (fun c4 hs => ?_)))))
 refine nG (aa (ah (v := vb) rfl) (aa (ag ou rfl) (aa (aA h 2 rfl aU rfl rfl) ?_)))
 obtain ⟨x5, e6, hs⟩ := aJ hs
 obtain ⟨b8, o9, cs10, h, r11, i7⟩ := h.Br 1 3 rfl iN rfl (aG e6).1 (aG e6).2
 obtain ⟨u12, rfl, g13⟩ := tV r11
 replace h := h.bM 4 g13.up
 refine aa (i7 _ _ _ _ _ _ _ _ _ rfl rfl) (aa (ag wN rfl) (aa (eU (k := 0) h 3 rfl aU rfl rfl) (aa (ae (v := (I6 x5.params)) rfl) (nR (aF (az (bR (v := (I6 x5.params)) Tryz.results108 rfl ?_)))))))
 obtain rfl := fI hs
 exact ⟨h.grown, rfl⟩
 refine aI (ax (ak (nG (aa (ae (v := (I6 0)) rfl) (nR (bR (v := (I6 0)) Tryz.results108 rfl ?_))))))
 obtain rfl := fI hs
 exact ⟨h.grown, rfl⟩
def uN (a : List Int) (s : Int × Int) (Wm : Int × Int → Option Int) : Option Int :=
  match s with | (Gt, nW) => bif decide ((nW : Int) < (a.length : Int)) then (idx a nW).bind fun x25 => gJ (jI (nW + 1)) (Wm ((max Gt x25), (nW + 1))) else some Gt
def slices_Max_int (N : Nat) (a : List Int) : Option Int :=
  bif decide (((a.length : Int) : Int) < 1) then none else (idx a 0).bind fun x2 => again (uN a) N (x2, 1)
theorem GK (N : Nat) (w0 : World) (M : BS) (hM : ∀ b, M b → b < w0.heap.size) (va : Value) (a : List Int) (ha : fP dA w0 BE M va a) (r : Int) (hs : slices_Max_int N a = some r) :
    Calls Tryz.prog 164 #[va] w0 (fun e w' => Grow w0 w' ∧ e = .returned (.int .i64 r)) := by
 refine aL (args := [va]) Tryz.func164 rfl Tryz.ntmps164 (bC rfl) ?_
 have h := SH.init hM
 replace h := h.fG 1 ha bE
 have vE := ha.bW
 refine nG (aa (ae (v := (I6 0)) rfl) (nK (aa (ah (v := va) rfl) (aa (bT bZ rfl (h.iM 1 rfl)) (aa (dL rfl rfl) (nN (aH hs rfl (fun c1 hs => ?_) (fun c1 hs => ?_))))))))
 cases hs
 refine nS (aa (ah (v := va) rfl) ?_)
 obtain ⟨x2, e3, hs⟩ := aJ hs
 obtain ⟨b5, o6, cs7, h, r8, i4⟩ := h.Br 1 2 rfl bZ rfl (aG e3).1 (aG e3).2
 obtain rfl := r8
 refine aa (i4 _ _ _ _ _ _ _ _ _ rfl rfl) (aa (eU (k := 0) h 2 rfl aU rfl rfl) (aa (ae (v := (I6 x2)) rfl) (nK (aa (ae (v := (I6 1)) rfl) (nN (aP (fT (σ := Nat × Int × Int) (inl ([3, 4] ++ rg 12 12)) (fun ⟨m20, Gt, nW⟩ => [(3, (I6 Gt)), (4, (I6 nW))]) (fun ⟨m20, Gt, nW⟩ w => SH w0 M BE w (hset [(1, .sr dA va a)]) ∧ again (uN a) m20 (Gt, nW) = some r) (fun ⟨m20, Gt, nW⟩ => m20) ⟨N, x2, 1⟩ ⟨rfl, rfl, trivial⟩ ?_ ?_)))))))
 exact ⟨h.cn _, hs⟩
 rintro ⟨m20, Gt, nW⟩ w dz ⟨h, hs⟩
 obtain ⟨m201, m20e, m20h⟩ := og hs
 subst m20e
 replace hs := m20h
 generalize Wn : again (uN a) m201 = Wm at hs
 refine aO (nG (aa (ah (v := (I6 nW)) rfl) (aa (ah (v := va) rfl) (aa (bT bZ rfl (h.iM 1 rfl)) (aa (dL rfl rfl) (nN (aH hs rfl (fun c24 hs => ?_) (fun c24 hs => ?_))))))))
 refine aI (ak (aO (aP (aB (aa (ah (v := (I6 Gt)) rfl) (aa (ah (v := va) rfl) (aa (ah (v := (I6 nW)) rfl) ?_)))))))
 obtain ⟨x25, e26, hs⟩ := aJ hs
 obtain ⟨b28, o29, cs30, h, r31, i27⟩ := h.Br 1 3 rfl bZ rfl (aG e26).1 (aG e26).2
 obtain rfl := r31
 refine aa (i27 _ _ _ _ _ _ _ _ _ rfl rfl) (aa (eU (k := 0) h 3 rfl aU rfl rfl) (aa (ZX rfl rfl) (aa (ae (v := (I6 ((max Gt x25)))) rfl) (ay (ax (ak (aB (aa (ah (v := (I6 nW)) rfl) ?_))))))))
 obtain ⟨a32, hs⟩ := bu hs
 refine aa (dm rfl rfl a32) (aa (ae (v := (I6 ((nW + 1)))) rfl) (ay (au ?_)))
 subst Wn
 exact jQ ⟨m201, (max Gt x25), (nW + 1)⟩ ⟨h.cn _, hs⟩
 refine nE (aa (ah (v := (I6 Gt)) rfl) (aa (ae (v := (I6 Gt)) rfl) (nR (bR (v := (I6 Gt)) Tryz.results164 rfl ?_))))
 obtain rfl := fI hs
 exact ⟨h.grown, rfl⟩
def lF (x29 : Tok) (b : List fB) (FN : List Int → Option Int) (x66 : List Int) : Option Int :=
  (rA x29 b).bind fun wE => gJ (Room 8 x66 [wE]) (FN (x66 ++ [wE]))
def lG (DF : List Int) (TB : List Int → Option Int) (i28 : Int) (x29 : Tok) (b : List fB) (FN : List Int → Option Int) (x57 : Bool) : Option Int :=
  bif x57 then gJ (jI ((DF.length : Int) - 1)) ((sub? DF 0 ((DF.length : Int) - 1)).bind fun x60 => TB (DF.take (((DF.length : Int) - 1)).toNat)) else bif (decide ((0 : Int) < i28) && decide (((DF.length : Int) : Int) = 0)) then some 4 else bif decide ((0 : Int) < i28) then gJ (jI ((DF.length : Int) - 1)) ((idx DF ((DF.length : Int) - 1)).bind fun x75 => gJ (jI (x75 - 1)) (lF x29 b FN (DF.set (((DF.length : Int) - 1)).toNat (x75 - 1)))) else lF x29 b FN DF
def lH (i28 : Int) (x29 : Tok) (b : List fB) (FN : List Int → Option Int) (DF : List Int) (TB : List Int → Option Int) : Option Int :=
  bif decide ((0 : Int) < (DF.length : Int)) then gJ (jI ((DF.length : Int) - 1)) ((idx DF ((DF.length : Int) - 1)).bind fun x89 => lG DF TB i28 x29 b FN (decide ((x89 : Int) = 0))) else lG DF TB i28 x29 b FN false
def lI (IK : Bool) : Option Int :=
  bif IK then some 4 else some 0
def lJ (N : Nat) (b : List fB) (c : Int) (i28 : Int) (x29 : Tok) (TC : List Int) (FN : List Int → Option Int) : Option Int :=
  bif decide (((eO x29 b c) : Int) ≠ 0) then some (eO x29 b c) else again (lH i28 x29 b FN) N TC
def lK (N : Nat) (a : List Tok) (TC : List Int) : Option Int :=
  bif decide (((a.length : Int) : Int) = 0) then lI true else gJ (Room 8 [0] TC) ((slices_Max_int N ([0] ++ TC)).bind fun Y1 => lI (decide ((0 : Int) < Y1)))
def lL (x4 : fB) (s : Unit) (I4 : Unit → Option Int) : Option Int :=
  bif (!(aW x4.params 0 3)) then some 3 else I4 ()
def lM (N : Nat) (b : List fB) (c : Int) (a : List Tok) (s : Unit) : Option Int :=
  fq (lJ N b c) (lK N a) 0 a []
def qj (N : Nat) (a : List Tok) (b : List fB) (c : Int) : Option Int :=
  bif decide ((24 : Int) < (a.length : Int)) then some 2 else each lL (lM N b c a) b ()
theorem tZ (N : Nat) (w0 : World) (M : BS) (hM : ∀ b, M b → b < w0.heap.size) (va : Value) (a : List Tok) (ha : fP kR w0 BE M va a) (vb : Value) (b : List fB) (hb : fP jc w0 BE M vb b) (c : Int) (r : Int) (hs : qj N a b c = some r) :
    Calls Tryz.prog 146 #[va, vb, (I6 c)] w0 (fun e w' => Grow w0 w' ∧ e = .returned (.int .i64 r)) := by
 refine aL (args := [va, vb, (I6 c)]) Tryz.func146 rfl Tryz.ntmps146 (bC rfl) ?_
 have h := SH.init hM
 replace h := h.fG 1 ha bE
 replace h := h.fG 2 hb (cO bE)
 have vE := ha.bW
 have KZ := hb.bW
 refine nG (aa (ae (v := (I6 0)) rfl) (nK (aa (ah (v := va) rfl) (aa (bT kI rfl (h.iM 1 rfl)) (aa (j5 rfl rfl) (nN (aH hs rfl (fun c1 hs => ?_) (fun c1 hs => ?_))))))))
 refine nG (aa (ae (v := (I6 2)) rfl) (nR (az (bR (v := (I6 2)) Tryz.results146 rfl ?_))))
 obtain rfl := fI hs
 exact ⟨h.grown, rfl⟩
 refine aI (ak (aO (nG (aa (ah (v := vb) rfl) (aa (bT iN rfl (h.iM 2 rfl)) (aa (ah (v := (I6 0)) rfl) (nN (aP (fT (σ := Nat × Int) (inl ([6, 8] ++ rg 18 9)) (fun ⟨k2, i3⟩ => [(18, (I6 i3))]) (fun ⟨k2, i3⟩ w => SH w0 M BE w (hset [(1, .sr kR va a), (2, .sr jc vb b)]) ∧ i3 = (k2 : Int) ∧ each lL (lM N b c a) (b.drop k2) () = some r) (fun ⟨k2, i3⟩ => b.length - k2) ⟨0, 0⟩ ⟨rfl, trivial⟩ ?_ ?_)))))))))
 exact ⟨h.cn _, rfl, hs⟩
 rintro ⟨k2, i3⟩ w dz ⟨h, hik, hs⟩
 refine nG ?_
 refine aa (dL rfl rfl) (nN ?_)
 refine aO (iw rfl (fun e7 => ?_) (fun e7 => ?_))
 refine aI (ak ?_)
 obtain ⟨x4, e8a, e8b⟩ := gK (hik ▸ e7)
 rw [e8b, dO] at hs
 generalize JG : each lL (lM N b c a) (b.drop (k2 + 1)) = I4 at hs
 have Wo := gN ((h.iM 2 rfl)).bW hik e7
 refine aO (aP (nG ?_))
 obtain ⟨b10, o11, cs12, h, r13, i9⟩ := h.Br 2 3 rfl iN rfl (jb hik) (gM hik e8a)
 obtain ⟨LC, rfl, g15⟩ := tV r13
 replace h := h.bM 4 g15.up
 refine aa (i9 _ _ _ _ _ _ _ _ _ rfl rfl) (aa (jm (k := 0) (vs := [(I6 x4.params), (I6 x4.locals), LC]) h 3 rfl mI rfl rfl rfl (bC rfl)) (bO h 5 mI fun w b16 h => dn (vs := [(I6 x4.params), (I6 x4.locals), LC]) h 5 [(I6 x4.params), (I6 x4.locals), LC] rfl mI rfl rfl rfl rfl rfl (ai rfl (ai rfl (ai (h.fM 4 rfl).one aT))) fun w h => nJ (aa (ag wN rfl) (aa (aA h 5 rfl aU rfl rfl) (aR zG rfl rfl (gU _ _ h.lt x4.params 0 3 _ rfl) ?_)))))
 rintro _ w ⟨k17, rfl⟩
 refine ⟨_, rfl, ?_⟩
 replace h := h.grow k17
 refine aa (gQ rfl) (nN (aH hs rfl (fun c18 hs => ?_) (fun c18 hs => ?_)))
 refine nG (aa (ae (v := (I6 3)) rfl) (nR (aF (az (az (aF (az (bR (v := (I6 3)) Tryz.results146 rfl ?_))))))))
 obtain rfl := fI hs
 exact ⟨h.grown, rfl⟩
 refine aI (ax (ak (aB (aa (dm rfl rfl Wo) (aa (ah (v := (I6 ((i3 + 1)))) rfl) (ay (au ?_)))))))
 subst JG
 exact jQ ⟨k2 + 1, i3 + 1⟩ ⟨h.cn _, by omega, hs⟩ (by have := qE e7; dsimp only; omega)
 rw [gL (hik ▸ e7), gT] at hs
 refine nE (aa (ae (v := (.slice none 0 0)) rfl) (nK (aa (ah (v := va) rfl) (aa (bT kI rfl (h.iM 1 rfl)) (aa (ah (v := (I6 0)) rfl) (nN (aP ?_)))))))
 replace h := h.zb (R := dA) (E := 3) 9
 refine fT (σ := Nat × Int × Value × List Int) (inl ([6, 9, 10, 11, 12] ++ rg 29 53)) (fun ⟨k27, i28, v25, TC⟩ => [(9, v25), (29, (I6 i28))]) (fun ⟨k27, i28, v25, TC⟩ w => SH w0 M BE w (hset [(1, .sr kR va a), (2, .sr jc vb b), (9, .own dA 3 v25 TC)]) ∧ i28 = (k27 : Int) ∧ fq (lJ N b c) (lK N a) i28 (a.drop k27) TC = some r) (fun ⟨k27, i28, v25, TC⟩ => a.length - k27) ⟨0, 0, (.slice none 0 0), []⟩ ⟨rfl, rfl, trivial⟩ ?_ ?_
 exact ⟨h.cn _, rfl, hs⟩
 rintro ⟨k27, i28, v25, TC⟩ w dz ⟨h, hik, hs⟩
 refine nG ?_
 refine aa (dL rfl rfl) (nN ?_)
 refine aO (iw rfl (fun e32 => ?_) (fun e32 => ?_))
 refine aI (ak ?_)
 obtain ⟨x29, e33a, e33b⟩ := gK (hik ▸ e32)
 rw [e33b, ja] at hs
 generalize hnx31 : fq (lJ N b c) (lK N a) (i28 + 1) (a.drop (k27 + 1)) = FN at hs
 have e33r := gN ((h.iM 1 rfl)).bW hik e32
 refine aO (aP (nG (aa (ah (v := (I6 i28)) rfl) ?_)))
 obtain ⟨b35, o36, cs37, h, r38, i34⟩ := h.Br 1 10 rfl kI rfl (jb hik) (gM hik e33a)
 obtain rfl := r38
 refine aa (i34 _ _ _ _ _ _ _ _ _ rfl rfl) (aa (jm (k := 0) (vs := [(I6 x29.kind), (I6 x29.n)]) h 10 rfl kD rfl rfl rfl (bC rfl)) (bO h 11 kD fun w b39 h => aa (ae (v := (I6 i28)) rfl) (dn (vs := [(I6 x29.kind), (I6 x29.n)]) h 11 [(I6 x29.kind), (I6 x29.n)] rfl kD rfl rfl rfl rfl rfl (ai rfl (ai rfl aT)) fun w h => nK (aa (dh (vs := [(I6 x29.kind), (I6 x29.n)]) h 11 rfl kD rfl rfl rfl) (aa (ah (v := vb) rfl) (aa (ah (v := (I6 c)) rfl) (aR Sa rfl rfl (uM _ _ h.lt x29 vb b (h.iM 2 rfl) c _ rfl) ?_)))))))
 rintro _ w ⟨k40, rfl⟩
 refine ⟨_, rfl, ?_⟩
 replace h := h.grow k40
 refine aa (ae (v := (I6 ((eO x29 b c)))) rfl) (nJ (aa (ah (v := (I6 ((eO x29 b c)))) rfl) (aa (iP rfl rfl) (nN (aH hs rfl (fun c41 hs => ?_) (fun c41 hs => ?_))))))
 refine nG (aa (ah (v := (I6 ((eO x29 b c)))) rfl) (aa (ae (v := (I6 ((eO x29 b c)))) rfl) (nR (az (aF (az (az (aF (az (bR (v := (I6 ((eO x29 b c)))) Tryz.results146 rfl ?_))))))))))
 obtain rfl := fI hs
 exact ⟨h.grown, rfl⟩
 refine aI (ak (aO (aP (fT (σ := Nat × Value × List Int) (inl ([9] ++ rg 41 17)) (fun ⟨m53, v48, DF⟩ => [(9, v48)]) (fun ⟨m53, v48, DF⟩ w => SH w0 M BE w (hset [(1, .sr kR va a), (2, .sr jc vb b), (9, .own dA 3 v48 DF), (11, .blk b39 [(I6 x29.kind), (I6 x29.n)])]) ∧ again (lH i28 x29 b FN) m53 DF = some r) (fun ⟨m53, v48, DF⟩ => m53) ⟨N, v25, TC⟩ ⟨rfl, trivial⟩ ?_ ?_))))
 exact ⟨h.cn _, hs⟩
 rintro ⟨m53, v48, DF⟩ w dz ⟨h, hs⟩
 obtain ⟨m531, m53e, m53h⟩ := og hs
 subst m53e
 replace hs := m53h
 generalize hnx54 : again (lH i28 x29 b FN) m531 = TB at hs
 refine aO (bX (σ := Bool) (inl (rg 41 12)) (fun x57 => [(52, (.bool (x57)))]) (fun x57 w => SH w0 M BE w (hset [(1, .sr kR va a), (2, .sr jc vb b), (9, .own dA 3 v48 DF), (11, .blk b39 [(I6 x29.kind), (I6 x29.n)])]) ∧ lG DF TB i28 x29 b FN x57 = some r) ?_ ?_)
 rintro x57 w dz ⟨h, hs⟩
 refine aH hs rfl (fun c58 hs => ?_) (fun c58 hs => ?_)
 refine aI (ak (aP (aB (aa (ah (v := v48) rfl) (aa (ah (v := v48) rfl) (aa (bT bZ rfl (h.dG 9 rfl)) ?_))))))
 obtain ⟨a59, hs⟩ := bu hs
 refine aa (oO rfl rfl a59) ?_
 obtain ⟨x60, e61, hs⟩ := aJ hs
 obtain ⟨e64, e64a, e64b, e64c⟩ := Oe e61
 obtain ⟨u62, h, i63⟩ := h.cutO 9 rfl bZ rfl e64b e64c
 refine aa (i63 _ _ _ _ _ _ _ _ _ _ rfl (.inl ⟨rfl, rfl⟩) (.inr (congrArg some rfl))) (aa (ae (v := u62) rfl) (ay (ax (au ?_))))
 subst hnx54
 exact jQ ⟨m531, u62, (DF.take (((DF.length : Int) - 1)).toNat)⟩ ⟨h.cn _, hs⟩
 refine iT (bK (bK (dU (ak (aO (nG (aa (ah (v := (I6 i28)) rfl) (aa (j5 rfl rfl) (aa (ah (v := (.bool (decide ((0 : Int) < i28)))) rfl) (aC rfl rfl (fun q => ah (v := v48) rfl) (aC rfl rfl (fun q => bT bZ (dE q) (h.dG 9 rfl)) (aC rfl rfl (fun q => bD (dE q) rfl) (aa (gP rfl rfl nQ) (nN (aH hs rfl (fun yA hs => ?_) (fun yA hs => ?_))))))))))))))))
 refine nG (aa (ae (v := (I6 4)) rfl) (nR (az (aF (az (az (aF (az (bR (v := (I6 4)) Tryz.results146 rfl ?_)))))))))
 obtain rfl := fI hs
 exact ⟨h.grown, rfl⟩
 refine aI (ak (bX (σ := List Int) (inl (rg 65 10)) (fun x66 => []) (fun x66 w => SH w0 M BE w (hset [(1, .sr kR va a), (2, .sr jc vb b), (9, .own dA 3 v48 x66), (11, .blk b39 [(I6 x29.kind), (I6 x29.n)])]) ∧ lF x29 b FN x66 = some r) ?_ ?_))
 rintro x66 w dz ⟨h, hs⟩
 refine aB (aa (ah (v := v48) rfl) (aa (dh (vs := [(I6 x29.kind), (I6 x29.n)]) h 11 rfl kD rfl rfl rfl) (aa (ah (v := vb) rfl) ?_)))
 obtain ⟨wE, Y2, hs⟩ := aJ hs
 refine aR Nc rfl rfl (sW _ _ h.lt x29 vb b (h.iM 2 rfl) _ Y2) ?_
 rintro _ w ⟨k69, rfl⟩
 refine ⟨_, rfl, ?_⟩
 replace h := h.grow k69
 refine sV (R := dA) (vs := [(I6 wE)]) (xs := [wE]) h 13 iR rfl rfl rfl ⟨rfl, trivial⟩ rfl fun w u70 h => ?_
 obtain ⟨a71, hs⟩ := bu hs
 refine lg (R := dA) (m := [wE]) h 9 rfl (h.dG 13 rfl) iR rfl rfl rfl a71.1 a71.2 fun w u72 h => aa (ae (v := u72) rfl) (ay (ax (ak (aB (aa (dm rfl rfl e33r) (aa (ah (v := (I6 ((i28 + 1)))) rfl) (ay (au ?_))))))))
 subst hnx31
 exact jQ ⟨k27 + 1, i28 + 1, u72, (x66 ++ [wE])⟩ ⟨h.cn _, by omega, hs⟩ (by have := qE e32; dsimp only; omega)
 refine nG (aa (ah (v := (I6 i28)) rfl) (aa (j5 rfl rfl) (nN (aH hs rfl (fun OC hs => ?_) (fun OC hs => ?_)))))
 refine aB (aa (ah (v := v48) rfl) (aa (ah (v := v48) rfl) (aa (bT bZ rfl (h.dG 9 rfl)) ?_)))
 obtain ⟨a74, hs⟩ := bu hs
 refine aa (oO rfl rfl a74) ?_
 obtain ⟨x75, e76, hs⟩ := aJ hs
 obtain ⟨b78, q79, i77⟩ := h.xL 9 rfl bZ rfl (aG e76).1 (aG e76).2
 refine aa (i77 _ _ _ _ _ _ _ _ _ rfl rfl) ?_
 obtain ⟨cs80, m81, r82⟩ := h.zV 9 rfl q79 (aG e76).2
 obtain rfl := r82
 refine aa (qa (k := 0) m81 aU rfl rfl) ?_
 obtain ⟨a83, hs⟩ := bu hs
 refine aa (oO rfl rfl a83) ?_
 obtain ⟨KS, q86, i84⟩ := h.xL 9 rfl bZ rfl (aG e76).1 (aG e76).2
 refine aa (i84 _ _ _ _ _ _ _ _ _ rfl rfl) (Li (off := 0) (a' := (x75 - 1)) h 9 rfl q86 rfl (aG e76).2 aU rfl rfl rfl rfl (fun cs hq => set1 rfl hq rfl rfl) fun w h => ay (au ?_))
 exact bP (DF.set (((DF.length : Int) - 1)).toNat (x75 - 1)) ⟨h.cn _, hs⟩
 refine aI (au ?_)
 exact bP DF ⟨h.cn _, hs⟩
 refine aB (aa (ah (v := v48) rfl) (aa (bT bZ rfl (h.dG 9 rfl)) (aa (j5 rfl rfl) (aa (ah (v := (.bool (decide ((0 : Int) < (DF.length : Int))))) rfl) (jL (b := decide ((0 : Int) < (DF.length : Int))) hs (fun c87 hs => ?_) (fun c87 hs => ?_))))))
 refine dX rfl (cB c87) (aa (ah (v := v48) rfl) (dX rfl (cB c87) (aa (ah (v := v48) rfl) (dX rfl (cB c87) (aa (bT bZ rfl (h.dG 9 rfl)) (dX rfl (cB c87) ?_))))))
 obtain ⟨a88, hs⟩ := bu hs
 refine aa (oO rfl rfl a88) (dX rfl (cB c87) ?_)
 obtain ⟨x89, e90, hs⟩ := aJ hs
 obtain ⟨b92, q93, i91⟩ := h.xL 9 rfl bZ rfl (aG e90).1 (aG e90).2
 refine aa (i91 _ _ _ _ _ _ _ _ _ rfl rfl) (dX rfl (cB c87) ?_)
 obtain ⟨cs94, m95, r96⟩ := h.zV 9 rfl q93 (aG e90).2
 obtain rfl := r96
 refine aa (qa (k := 0) m95 aU rfl rfl) (dX rfl (cB c87) (aa (bD rfl rfl) (aa (dJ (b := true) (v := (.bool (decide ((x89 : Int) = 0)))) (cB c87) rfl) (ay (au ?_)))))
 exact bP (decide ((x89 : Int) = 0)) ⟨h.cn _, hs⟩
 refine yx rfl (cB c87) rfl (yx rfl (cB c87) rfl (yx rfl (cB c87) rfl (yx rfl (cB c87) rfl (yx rfl (cB c87) rfl (yx rfl (cB c87) rfl (yx rfl (cB c87) rfl (aa (dJ (b := false) (v := (.bool (false))) (cB c87) rfl) (ay (au ?_)))))))))
 exact bP false ⟨h.cn _, hs⟩
 rw [gL (hik ▸ e32), nZ] at hs
 refine iT (bK (bK (dU (ak (aO (bX (σ := Bool) (inl (rg 82 10)) (fun IK => [(91, (.bool (IK)))]) (fun IK w => SH w0 M BE w (hset []) ∧ lI IK = some r) ?_ ?_))))))
 rintro IK w dz ⟨h, hs⟩
 refine aH hs rfl (fun c98 hs => ?_) (fun c98 hs => ?_)
 refine nG (aa (ae (v := (I6 4)) rfl) (nR (az (bR (v := (I6 4)) Tryz.results146 rfl ?_))))
 obtain rfl := fI hs
 exact ⟨h.grown, rfl⟩
 refine nS (aa (ae (v := (I6 0)) rfl) (nR (bR (v := (I6 0)) Tryz.results146 rfl ?_)))
 obtain rfl := fI hs
 exact ⟨h.grown, rfl⟩
 refine aB (aa (ah (v := va) rfl) (aa (bT kI rfl (h.iM 1 rfl)) (aa (bD rfl rfl) (aa (ah (v := (.bool (decide (((a.length : Int) : Int) = 0)))) rfl) (jL (b := decide (((a.length : Int) : Int) = 0)) hs (fun TD hs => ?_) (fun TD hs => ?_))))))
 refine P9 rfl (cB TD) rfl (P9 rfl (cB TD) rfl (P9 rfl (cB TD) rfl (P9 rfl (cB TD) rfl (P9 rfl (cB TD) rfl (aa (dJ (b := true) (v := (.bool (true))) (cB TD) rfl) (ay (au ?_)))))))
 exact bP true ⟨h.cn _, hs⟩
 refine dX rfl (cB TD) (sV (R := dA) (vs := [(I6 0)]) (xs := [0]) h 14 iR rfl rfl rfl ⟨rfl, trivial⟩ rfl fun w u100 h => dX rfl (cB TD) (aa (ah (v := v25) rfl) (dX rfl (cB TD) ?_)))
 obtain ⟨Y3, hs⟩ := bu hs
 refine lg (R := dA) (m := TC) h 14 rfl (h.dG 9 rfl) iR rfl rfl rfl Y3.1 Y3.2 fun w u102 h => dX rfl (cB TD) ?_
 obtain ⟨Y1, Y4, hs⟩ := aJ hs
 refine aR Y0 rfl rfl (GK N _ _ h.lt u102 ([0] ++ TC) (h.dG 14 rfl) _ Y4) ?_
 rintro _ w ⟨k105, rfl⟩
 refine ⟨_, rfl, ?_⟩
 replace h := h.grow k105
 refine dX rfl (cB TD) (aa (j5 rfl rfl) (aa (dJ (b := false) (v := (.bool (decide ((0 : Int) < Y1)))) (cB TD) rfl) (ay (au ?_))))
 exact bP (decide ((0 : Int) < Y1)) ⟨h.cn _, hs⟩
def aZ (ky : Str) : Bool :=
  (hasB ky 78)
theorem wP (w0 : World) (M : BS) (hM : ∀ b, M b → b < w0.heap.size) (ky : Str) (q0 : Nat) (hq0 : ∃ E, w0.heap[q0]? = some (.cells #[(aV ky)] E (0, 0))) (r : Bool) (hs : aZ ky = r) :
    Calls Tryz.prog 144 #[(aV [78]), (.pointer (some ⟨q0, 0, none⟩))] w0 (fun e w' => Grow w0 w' ∧ e = .returned (.bool r)) := by
 refine aL (args := [(aV [78]), (.pointer (some ⟨q0, 0, none⟩))]) Tryz.func144 rfl Tryz.ntmps144 (bC rfl) ?_
 have h := SH.init hM
 replace h := h.Ll 1 (cs := [(aV ky)]) hq0 bE
 refine nG (aa (ae (v := (.bool (false))) rfl) (nJ (aa (eU (k := 0) h 1 rfl Ah rfl rfl) (aa (ah (v := (aV [78])) rfl) (aR DD rfl rfl (jX _ _ h.lt ky 78 _ rfl) ?_)))))
 rintro _ w ⟨k1, rfl⟩
 refine ⟨_, rfl, ?_⟩
 replace h := h.grow k1
 refine aa (ae (v := (.bool ((hasB ky 78)))) rfl) (nR (bR (v := (.bool ((hasB ky 78)))) Tryz.results144 rfl ?_))
 obtain rfl := hs
 exact ⟨h.grown, rfl⟩
def bI (ky : Str) : Bool :=
  (hasB ky 69)
theorem wQ (w0 : World) (M : BS) (hM : ∀ b, M b → b < w0.heap.size) (ky : Str) (q0 : Nat) (hq0 : ∃ E, w0.heap[q0]? = some (.cells #[(aV ky)] E (0, 0))) (r : Bool) (hs : bI ky = r) :
    Calls Tryz.prog 144 #[(aV [69]), (.pointer (some ⟨q0, 0, none⟩))] w0 (fun e w' => Grow w0 w' ∧ e = .returned (.bool r)) := by
 refine aL (args := [(aV [69]), (.pointer (some ⟨q0, 0, none⟩))]) Tryz.func144 rfl Tryz.ntmps144 (bC rfl) ?_
 have h := SH.init hM
 replace h := h.Ll 1 (cs := [(aV ky)]) hq0 bE
 refine nG (aa (ae (v := (.bool (false))) rfl) (nJ (aa (eU (k := 0) h 1 rfl Ah rfl rfl) (aa (ah (v := (aV [69])) rfl) (aR DD rfl rfl (jX _ _ h.lt ky 69 _ rfl) ?_)))))
 rintro _ w ⟨k1, rfl⟩
 refine ⟨_, rfl, ?_⟩
 replace h := h.grow k1
 refine aa (ae (v := (.bool ((hasB ky 69)))) rfl) (nR (bR (v := (.bool ((hasB ky 69)))) Tryz.results144 rfl ?_))
 obtain rfl := hs
 exact ⟨h.grown, rfl⟩
def cu (ky : Str) : Bool :=
  (hasB ky 70)
theorem oU (w0 : World) (M : BS) (hM : ∀ b, M b → b < w0.heap.size) (ky : Str) (q0 : Nat) (hq0 : ∃ E, w0.heap[q0]? = some (.cells #[(aV ky)] E (0, 0))) (r : Bool) (hs : cu ky = r) :
    Calls Tryz.prog 144 #[(aV [70]), (.pointer (some ⟨q0, 0, none⟩))] w0 (fun e w' => Grow w0 w' ∧ e = .returned (.bool r)) := by
 refine aL (args := [(aV [70]), (.pointer (some ⟨q0, 0, none⟩))]) Tryz.func144 rfl Tryz.ntmps144 (bC rfl) ?_
 have h := SH.init hM
 replace h := h.Ll 1 (cs := [(aV ky)]) hq0 bE
 refine nG (aa (ae (v := (.bool (false))) rfl) (nJ (aa (eU (k := 0) h 1 rfl Ah rfl rfl) (aa (ah (v := (aV [70])) rfl) (aR DD rfl rfl (jX _ _ h.lt ky 70 _ rfl) ?_)))))
 rintro _ w ⟨k1, rfl⟩
 refine ⟨_, rfl, ?_⟩
 replace h := h.grow k1
 refine aa (ae (v := (.bool ((hasB ky 70)))) rfl) (nR (bR (v := (.bool ((hasB ky 70)))) Tryz.results144 rfl ?_))
 obtain rfl := hs
 exact ⟨h.grown, rfl⟩
def fF (ky : Str) : Bool :=
  (hasB ky 65)
theorem wR (w0 : World) (M : BS) (hM : ∀ b, M b → b < w0.heap.size) (ky : Str) (q0 : Nat) (hq0 : ∃ E, w0.heap[q0]? = some (.cells #[(aV ky)] E (0, 0))) (r : Bool) (hs : fF ky = r) :
    Calls Tryz.prog 144 #[(aV [65]), (.pointer (some ⟨q0, 0, none⟩))] w0 (fun e w' => Grow w0 w' ∧ e = .returned (.bool r)) := by
 refine aL (args := [(aV [65]), (.pointer (some ⟨q0, 0, none⟩))]) Tryz.func144 rfl Tryz.ntmps144 (bC rfl) ?_
 have h := SH.init hM
 replace h := h.Ll 1 (cs := [(aV ky)]) hq0 bE
 refine nG (aa (ae (v := (.bool (false))) rfl) (nJ (aa (eU (k := 0) h 1 rfl Ah rfl rfl) (aa (ah (v := (aV [65])) rfl) (aR DD rfl rfl (jX _ _ h.lt ky 65 _ rfl) ?_)))))
 rintro _ w ⟨k1, rfl⟩
 refine ⟨_, rfl, ?_⟩
 replace h := h.grow k1
 refine aa (ae (v := (.bool ((hasB ky 65)))) rfl) (nR (bR (v := (.bool ((hasB ky 65)))) Tryz.results144 rfl ?_))
 obtain rfl := hs
 exact ⟨h.grown, rfl⟩
def qC (ky : Str) : Bool :=
  (hasB ky 66)
theorem wS (w0 : World) (M : BS) (hM : ∀ b, M b → b < w0.heap.size) (ky : Str) (q0 : Nat) (hq0 : ∃ E, w0.heap[q0]? = some (.cells #[(aV ky)] E (0, 0))) (r : Bool) (hs : qC ky = r) :
    Calls Tryz.prog 144 #[(aV [66]), (.pointer (some ⟨q0, 0, none⟩))] w0 (fun e w' => Grow w0 w' ∧ e = .returned (.bool r)) := by
 refine aL (args := [(aV [66]), (.pointer (some ⟨q0, 0, none⟩))]) Tryz.func144 rfl Tryz.ntmps144 (bC rfl) ?_
 have h := SH.init hM
 replace h := h.Ll 1 (cs := [(aV ky)]) hq0 bE
 refine nG (aa (ae (v := (.bool (false))) rfl) (nJ (aa (eU (k := 0) h 1 rfl Ah rfl rfl) (aa (ah (v := (aV [66])) rfl) (aR DD rfl rfl (jX _ _ h.lt ky 66 _ rfl) ?_)))))
 rintro _ w ⟨k1, rfl⟩
 refine ⟨_, rfl, ?_⟩
 replace h := h.grow k1
 refine aa (ae (v := (.bool ((hasB ky 66)))) rfl) (nR (bR (v := (.bool ((hasB ky 66)))) Tryz.results144 rfl ?_))
 obtain rfl := hs
 exact ⟨h.grown, rfl⟩
def lN (K3 : Unit → Option Int) (sZ : Int) : Option Int :=
  bif decide ((sZ : Int) ≠ 0) then some sZ else K3 ()
def lQ (F0 : List bB → List fB → Int → Option Int) (x3 : bB) (b : List fB) (c : Int) (K3 : Unit → Option Int) (zW : Int) : Option Int :=
  bif decide ((zW : Int) = 0) then (F0 x3.b b c).bind fun y39 => lN K3 y39 else lN K3 zW
def lS (F0 : List bB → List fB → Int → Option Int) (x3 : bB) (a : List bB) (b : List fB) (c : Int) (K3 : Unit → Option Int) (x34 : Int) : Option Int :=
  bif decide ((x34 : Int) = 0) then (F0 x3.a b c).bind fun BK => lQ F0 x3 b c K3 BK else lQ F0 x3 b c K3 x34
def lT (N : Nat) (F0 : List bB → List fB → Int → Option Int) (x3 : bB) (b : List fB) (c : Int) (a : List bB) (K3 : Unit → Option Int) (Aj : Int) : Option Int :=
  bif (decide ((Aj : Int) = 0) && (cu ((lk x3.kind ([(1, [78, 69]), (2, [78, 69, 70]), (3, [69]), (4, []), (5, [69]), (6, [69, 65, 66]), (7, [69, 65]), (8, [69])] : List (Int × Str))).getD []))) then (qj N x3.f b c).bind fun rR => lS F0 x3 a b c K3 rR else lS F0 x3 a b c K3 Aj
def lU (N : Nat) (F0 : List bB → List fB → Int → Option Int) (a : List bB) (b : List fB) (c : Int) (x3 : bB) (s : Unit) (K3 : Unit → Option Int) : Option Int :=
  bif ((((((!(lk x3.kind ([(1, [78, 69]), (2, [78, 69, 70]), (3, [69]), (4, []), (5, [69]), (6, [69, 65, 66]), (7, [69, 65]), (8, [69])] : List (Int × Str))).isSome) || (decide ((x3.n : Int) ≠ 0) && (!(aZ ((lk x3.kind ([(1, [78, 69]), (2, [78, 69, 70]), (3, [69]), (4, []), (5, [69]), (6, [69, 65, 66]), (7, [69, 65]), (8, [69])] : List (Int × Str))).getD []))))) || (decide ((0 : Int) < (x3.e.length : Int)) && (!(bI ((lk x3.kind ([(1, [78, 69]), (2, [78, 69, 70]), (3, [69]), (4, []), (5, [69]), (6, [69, 65, 66]), (7, [69, 65]), (8, [69])] : List (Int × Str))).getD []))))) || (decide ((0 : Int) < (x3.f.length : Int)) && (!(cu ((lk x3.kind ([(1, [78, 69]), (2, [78, 69, 70]), (3, [69]), (4, []), (5, [69]), (6, [69, 65, 66]), (7, [69, 65]), (8, [69])] : List (Int × Str))).getD []))))) || (decide ((0 : Int) < (x3.a.length : Int)) && (!(fF ((lk x3.kind ([(1, [78, 69]), (2, [78, 69, 70]), (3, [69]), (4, []), (5, [69]), (6, [69, 65, 66]), (7, [69, 65]), (8, [69])] : List (Int × Str))).getD []))))) || (decide ((0 : Int) < (x3.b.length : Int)) && (!(qC ((lk x3.kind ([(1, [78, 69]), (2, [78, 69, 70]), (3, [69]), (4, []), (5, [69]), (6, [69, 65, 66]), (7, [69, 65]), (8, [69])] : List (Int × Str))).getD []))))) then some 4 else bif ((decide ((x3.kind : Int) = 1) && (!(aS x3.n c))) || (decide ((x3.kind : Int) = 2) && (!(aW x3.n 0 3)))) then some 3 else bif (hasB ((lk x3.kind ([(1, [78, 69]), (2, [78, 69, 70]), (3, [69]), (4, []), (5, [69]), (6, [69, 65, 66]), (7, [69, 65]), (8, [69])] : List (Int × Str))).getD []) 69) then (qj N x3.e b c).bind fun OD => lT N F0 x3 b c a K3 OD else lT N F0 x3 b c a K3 0
def lV (s : Unit) : Option Int :=
  some 0
def si (N : Nat) (F0 : List bB → List fB → Int → Option Int) (a : List bB) (b : List fB) (c : Int) : Option Int :=
  each (lU N F0 a b c) lV a ()
def jq : Nat → List bB → List fB → Int → Option Int
  | 0 => fun _ _ _ => none
  | N + 1 => si N (jq N)
theorem zH : ∀ (N : Nat) (w0 : World) (M : BS) (hM : ∀ b, M b → b < w0.heap.size) (va : Value) (a : List bB) (ha : fP eZ w0 BE M va a) (vb : Value) (b : List fB) (hb : fP jc w0 BE M vb b) (c : Int) (r : Int) (hs : jq N a b c = some r),
    Calls Tryz.prog 129 #[va, vb, (I6 c)] w0 (fun e w' => Grow w0 w' ∧ e = .returned (.int .i64 r)) := by
 intro N
 induction N with
 | zero => intro w0 M hM va a ha vb b hb c r hs; cases hs
 | succ N ih =>
 intro w0 M hM va a ha vb b hb c r hs
 replace hs : si N (jq N) a b c = some r := hs
 generalize jq N = F0 at hs ih
 refine aL (args := [va, vb, (I6 c)]) Tryz.func129 rfl Tryz.ntmps129 (bC rfl) ?_
 have h := SH.init hM
 replace h := h.fG 1 ha bE
 replace h := h.fG 2 hb (cO bE)
 have vE := ha.bW
 have KZ := hb.bW
 refine nG (aa (ae (v := (I6 0)) rfl) (nK (aa (ah (v := va) rfl) (aa (bT lD rfl (h.iM 1 rfl)) (aa (ah (v := (I6 0)) rfl) (nN (aP (fT (σ := Nat × Int) (inl ([6, 8, 9, 10, 11, 12] ++ rg 15 126)) (fun ⟨k1, i2⟩ => [(15, (I6 i2))]) (fun ⟨k1, i2⟩ w => SH w0 M BE w (hset [(1, .sr eZ va a), (2, .sr jc vb b)]) ∧ i2 = (k1 : Int) ∧ each (lU N F0 a b c) lV (a.drop k1) () = some r) (fun ⟨k1, i2⟩ => a.length - k1) ⟨0, 0⟩ ⟨rfl, trivial⟩ ?_ ?_))))))))
 exact ⟨h.cn _, rfl, hs⟩
 rintro ⟨k1, i2⟩ w dz ⟨h, hik, hs⟩
 refine nG ?_
 refine aa (dL rfl rfl) (nN ?_)
 refine aO (iw rfl (fun e6 => ?_) (fun e6 => ?_))
 refine aI (ak ?_)
 obtain ⟨x3, e7a, e7b⟩ := gK (hik ▸ e6)
 rw [e7b, dO] at hs
 generalize hnx5 : each (lU N F0 a b c) lV (a.drop (k1 + 1)) = K3 at hs
 have e7r := gN ((h.iM 1 rfl)).bW hik e6
 refine aO (aP (nG ?_))
 obtain ⟨b9, o10, cs11, h, r12, i8⟩ := h.Br 1 3 rfl lD rfl (jb hik) (gM hik e7a)
 obtain ⟨Qa, Fh, Bi, Ev, rfl, g14, g16, g18, g20⟩ := Bz r12
 replace h := h.bM 4 g14.up
 replace h := h.bM 5 g16.up.up
 replace h := h.bM 6 g18.up.up.up
 replace h := h.bM 7 g20.up.up.up.up
 refine aa (i8 _ _ _ _ _ _ _ _ _ rfl rfl) (aa (jm (k := 0) (vs := [(I6 x3.kind), (I6 x3.n), Qa, Fh, Bi, Ev]) h 3 rfl pq rfl rfl rfl (bC rfl)) (bO h 8 pq fun w KT h => dn (vs := [(I6 x3.kind), (I6 x3.n), Qa, Fh, Bi, Ev]) h 8 [(I6 x3.kind), (I6 x3.n), Qa, Fh, Bi, Ev] rfl pq rfl rfl rfl rfl rfl (ai rfl (ai rfl (ai (h.fM 4 rfl).one (ai (h.fM 5 rfl).one (ai (h.fM 6 rfl).one (ai (h.fM 7 rfl).one aT)))))) fun w h => nJ (Dv h 9 fun w b22 h => oh (qz := [(1, (aV [78, 69]))]) h 9 rfl lv rfl rfl rfl rfl fun w h => oh (qz := [(1, (aV [78, 69])), (2, (aV [78, 69, 70]))]) h 9 rfl lv rfl rfl rfl rfl fun w h => oh (qz := [(1, (aV [78, 69])), (2, (aV [78, 69, 70])), (3, (aV [69]))]) h 9 rfl lv rfl rfl rfl rfl fun w h => oh (qz := [(1, (aV [78, 69])), (2, (aV [78, 69, 70])), (3, (aV [69])), (4, (aV []))]) h 9 rfl lv rfl rfl rfl rfl fun w h => oh (qz := [(1, (aV [78, 69])), (2, (aV [78, 69, 70])), (3, (aV [69])), (4, (aV [])), (5, (aV [69]))]) h 9 rfl lv rfl rfl rfl rfl fun w h => oh (qz := [(1, (aV [78, 69])), (2, (aV [78, 69, 70])), (3, (aV [69])), (4, (aV [])), (5, (aV [69])), (6, (aV [69, 65, 66]))]) h 9 rfl lv rfl rfl rfl rfl fun w h => oh (qz := [(1, (aV [78, 69])), (2, (aV [78, 69, 70])), (3, (aV [69])), (4, (aV [])), (5, (aV [69])), (6, (aV [69, 65, 66])), (7, (aV [69, 65]))]) h 9 rfl lv rfl rfl rfl rfl fun w h => oh (qz := [(1, (aV [78, 69])), (2, (aV [78, 69, 70])), (3, (aV [69])), (4, (aV [])), (5, (aV [69])), (6, (aV [69, 65, 66])), (7, (aV [69, 65])), (8, (aV [69]))]) h 9 rfl lv rfl rfl rfl rfl fun w h => aa (ah (v := (.map (some b22))) rfl) (aa (ag ko rfl) (aa (aA h 8 rfl aU rfl rfl) (aa (r_lk2 (f := aV) (zz := []) ([(1, [78, 69]), (2, [78, 69, 70]), (3, [69]), (4, []), (5, [69]), (6, [69, 65, 66]), (7, [69, 65]), (8, [69])] : List (Int × Str)) h 9 rfl lv rfl rfl rfl rfl) (aa (ah (v := (.tuple #[(aV ((lk x3.kind ([(1, [78, 69]), (2, [78, 69, 70]), (3, [69]), (4, []), (5, [69]), (6, [69, 65, 66]), (7, [69, 65]), (8, [69])] : List (Int × Str))).getD [])), (.bool ((lk x3.kind ([(1, [78, 69]), (2, [78, 69, 70]), (3, [69]), (4, []), (5, [69]), (6, [69, 65, 66]), (7, [69, 65]), (8, [69])] : List (Int × Str))).isSome))])) rfl) (aa (aY rfl rfl) (aa (aY rfl rfl) ?_)))))))))
 refine qF h 10 Ah fun w Ej h => eH h 10 [(aV ((lk x3.kind ([(1, [78, 69]), (2, [78, 69, 70]), (3, [69]), (4, []), (5, [69]), (6, [69, 65, 66]), (7, [69, 65]), (8, [69])] : List (Int × Str))).getD []))] rfl Ah rfl rfl rfl rfl rfl fun w h => aa (ae (v := (.bool ((lk x3.kind ([(1, [78, 69]), (2, [78, 69, 70]), (3, [69]), (4, []), (5, [69]), (6, [69, 65, 66]), (7, [69, 65]), (8, [69])] : List (Int × Str))).isSome))) rfl) (nJ (aa (sU (c1 := []) (c2 := [(.pointer (some ⟨Ej, 0, none⟩))]) rfl rfl) (aa (ae (v := (.func (.func 144) #[] #[(.pointer (some ⟨Ej, 0, none⟩))])) rfl) (nK (aa (ah (v := (.bool ((lk x3.kind ([(1, [78, 69]), (2, [78, 69, 70]), (3, [69]), (4, []), (5, [69]), (6, [69, 65, 66]), (7, [69, 65]), (8, [69])] : List (Int × Str))).isSome))) rfl) (aa (gQ rfl) (aa (ah (v := (.bool ((!(lk x3.kind ([(1, [78, 69]), (2, [78, 69, 70]), (3, [69]), (4, []), (5, [69]), (6, [69, 65, 66]), (7, [69, 65]), (8, [69])] : List (Int × Str))).isSome)))) rfl) (aC rfl rfl (fun q => ag wO rfl) (aC rfl rfl (fun q => aA h 8 rfl aU (dE q) rfl) (aC rfl rfl (fun q => iP (dE q) rfl) (aC rfl rfl (fun q => ah (v := (.bool (decide ((x3.n : Int) ≠ 0)))) (dE q)) (nu ((!(lk x3.kind ([(1, [78, 69]), (2, [78, 69, 70]), (3, [69]), (4, []), (5, [69]), (6, [69, 65, 66]), (7, [69, 65]), (8, [69])] : List (Int × Str))).isSome) == false) rfl rfl (fun q => ah (v := (.func (.func 144) #[] #[(.pointer (some ⟨Ej, 0, none⟩))])) rfl) (Dw [(.pointer (some ⟨Ej, 0, none⟩))] ((!(lk x3.kind ([(1, [78, 69]), (2, [78, 69, 70]), (3, [69]), (4, []), (5, [69]), (6, [69, 65, 66]), (7, [69, 65]), (8, [69])] : List (Int × Str))).isSome) == false) rfl rfl BI (fun q => (dE q)) (fun q => mG rfl rfl) (wP _ _ h.lt ((lk x3.kind ([(1, [78, 69]), (2, [78, 69, 70]), (3, [69]), (4, []), (5, [69]), (6, [69, 65, 66]), (7, [69, 65]), (8, [69])] : List (Int × Str))).getD []) Ej (h.rP 10 rfl) _ rfl) fun w k24 => ?_)))))))))))))
 replace h := h.grow k24
 refine nu ((!(lk x3.kind ([(1, [78, 69]), (2, [78, 69, 70]), (3, [69]), (4, []), (5, [69]), (6, [69, 65, 66]), (7, [69, 65]), (8, [69])] : List (Int × Str))).isSome) == false) rfl rfl (fun q => gQ (dE q)) (aC rfl rfl (fun q => gP (dE q) (Vg q) nQ) (aa (iy rfl rfl nQ) (aa (ah (v := (.bool (((!(lk x3.kind ([(1, [78, 69]), (2, [78, 69, 70]), (3, [69]), (4, []), (5, [69]), (6, [69, 65, 66]), (7, [69, 65]), (8, [69])] : List (Int × Str))).isSome) || (decide ((x3.n : Int) ≠ 0) && (!(aZ ((lk x3.kind ([(1, [78, 69]), (2, [78, 69, 70]), (3, [69]), (4, []), (5, [69]), (6, [69, 65, 66]), (7, [69, 65]), (8, [69])] : List (Int × Str))).getD [])))))))) rfl) (aC rfl rfl (fun q => ag Ad rfl) (aC rfl rfl (fun q => aA h 8 rfl yz (dE q) rfl) (aC rfl rfl (fun q => bT kI (dE q) (h.mM 4 rfl)) (aC rfl rfl (fun q => j5 (dE q) rfl) (aC rfl rfl (fun q => ah (v := (.bool (decide ((0 : Int) < (x3.e.length : Int))))) (dE q)) (nu (((!(lk x3.kind ([(1, [78, 69]), (2, [78, 69, 70]), (3, [69]), (4, []), (5, [69]), (6, [69, 65, 66]), (7, [69, 65]), (8, [69])] : List (Int × Str))).isSome) || (decide ((x3.n : Int) ≠ 0) && (!(aZ ((lk x3.kind ([(1, [78, 69]), (2, [78, 69, 70]), (3, [69]), (4, []), (5, [69]), (6, [69, 65, 66]), (7, [69, 65]), (8, [69])] : List (Int × Str))).getD []))))) == false) rfl rfl (fun q => ah (v := (.func (.func 144) #[] #[(.pointer (some ⟨Ej, 0, none⟩))])) rfl) (Dw [(.pointer (some ⟨Ej, 0, none⟩))] (((!(lk x3.kind ([(1, [78, 69]), (2, [78, 69, 70]), (3, [69]), (4, []), (5, [69]), (6, [69, 65, 66]), (7, [69, 65]), (8, [69])] : List (Int × Str))).isSome) || (decide ((x3.n : Int) ≠ 0) && (!(aZ ((lk x3.kind ([(1, [78, 69]), (2, [78, 69, 70]), (3, [69]), (4, []), (5, [69]), (6, [69, 65, 66]), (7, [69, 65]), (8, [69])] : List (Int × Str))).getD []))))) == false) rfl rfl BI (fun q => (dE q)) (fun q => mG rfl rfl) (wQ _ _ h.lt ((lk x3.kind ([(1, [78, 69]), (2, [78, 69, 70]), (3, [69]), (4, []), (5, [69]), (6, [69, 65, 66]), (7, [69, 65]), (8, [69])] : List (Int × Str))).getD []) Ej (h.rP 10 rfl) _ rfl) fun w k25 => ?_))))))))))
 replace h := h.grow k25
 refine nu (((!(lk x3.kind ([(1, [78, 69]), (2, [78, 69, 70]), (3, [69]), (4, []), (5, [69]), (6, [69, 65, 66]), (7, [69, 65]), (8, [69])] : List (Int × Str))).isSome) || (decide ((x3.n : Int) ≠ 0) && (!(aZ ((lk x3.kind ([(1, [78, 69]), (2, [78, 69, 70]), (3, [69]), (4, []), (5, [69]), (6, [69, 65, 66]), (7, [69, 65]), (8, [69])] : List (Int × Str))).getD []))))) == false) rfl rfl (fun q => gQ (dE q)) (aC rfl rfl (fun q => gP (dE q) (Vg q) nQ) (aa (iy rfl rfl nQ) (aa (ah (v := (.bool ((((!(lk x3.kind ([(1, [78, 69]), (2, [78, 69, 70]), (3, [69]), (4, []), (5, [69]), (6, [69, 65, 66]), (7, [69, 65]), (8, [69])] : List (Int × Str))).isSome) || (decide ((x3.n : Int) ≠ 0) && (!(aZ ((lk x3.kind ([(1, [78, 69]), (2, [78, 69, 70]), (3, [69]), (4, []), (5, [69]), (6, [69, 65, 66]), (7, [69, 65]), (8, [69])] : List (Int × Str))).getD []))))) || (decide ((0 : Int) < (x3.e.length : Int)) && (!(bI ((lk x3.kind ([(1, [78, 69]), (2, [78, 69, 70]), (3, [69]), (4, []), (5, [69]), (6, [69, 65, 66]), (7, [69, 65]), (8, [69])] : List (Int × Str))).getD [])))))))) rfl) (aC rfl rfl (fun q => ag CL rfl) (aC rfl rfl (fun q => aA h 8 rfl yz (dE q) rfl) (aC rfl rfl (fun q => bT kI (dE q) (h.mM 5 rfl)) (aC rfl rfl (fun q => j5 (dE q) rfl) (aC rfl rfl (fun q => ah (v := (.bool (decide ((0 : Int) < (x3.f.length : Int))))) (dE q)) (nu ((((!(lk x3.kind ([(1, [78, 69]), (2, [78, 69, 70]), (3, [69]), (4, []), (5, [69]), (6, [69, 65, 66]), (7, [69, 65]), (8, [69])] : List (Int × Str))).isSome) || (decide ((x3.n : Int) ≠ 0) && (!(aZ ((lk x3.kind ([(1, [78, 69]), (2, [78, 69, 70]), (3, [69]), (4, []), (5, [69]), (6, [69, 65, 66]), (7, [69, 65]), (8, [69])] : List (Int × Str))).getD []))))) || (decide ((0 : Int) < (x3.e.length : Int)) && (!(bI ((lk x3.kind ([(1, [78, 69]), (2, [78, 69, 70]), (3, [69]), (4, []), (5, [69]), (6, [69, 65, 66]), (7, [69, 65]), (8, [69])] : List (Int × Str))).getD []))))) == false) rfl rfl (fun q => ah (v := (.func (.func 144) #[] #[(.pointer (some ⟨Ej, 0, none⟩))])) rfl) (Dw [(.pointer (some ⟨Ej, 0, none⟩))] ((((!(lk x3.kind ([(1, [78, 69]), (2, [78, 69, 70]), (3, [69]), (4, []), (5, [69]), (6, [69, 65, 66]), (7, [69, 65]), (8, [69])] : List (Int × Str))).isSome) || (decide ((x3.n : Int) ≠ 0) && (!(aZ ((lk x3.kind ([(1, [78, 69]), (2, [78, 69, 70]), (3, [69]), (4, []), (5, [69]), (6, [69, 65, 66]), (7, [69, 65]), (8, [69])] : List (Int × Str))).getD []))))) || (decide ((0 : Int) < (x3.e.length : Int)) && (!(bI ((lk x3.kind ([(1, [78, 69]), (2, [78, 69, 70]), (3, [69]), (4, []), (5, [69]), (6, [69, 65, 66]), (7, [69, 65]), (8, [69])] : List (Int × Str))).getD []))))) == false) rfl rfl BI (fun q => (dE q)) (fun q => mG rfl rfl) (oU _ _ h.lt ((lk x3.kind ([(1, [78, 69]), (2, [78, 69, 70]), (3, [69]), (4, []), (5, [69]), (6, [69, 65, 66]), (7, [69, 65]), (8, [69])] : List (Int × Str))).getD []) Ej (h.rP 10 rfl) _ rfl) fun w k26 => ?_))))))))))
 replace h := h.grow k26
 refine nu ((((!(lk x3.kind ([(1, [78, 69]), (2, [78, 69, 70]), (3, [69]), (4, []), (5, [69]), (6, [69, 65, 66]), (7, [69, 65]), (8, [69])] : List (Int × Str))).isSome) || (decide ((x3.n : Int) ≠ 0) && (!(aZ ((lk x3.kind ([(1, [78, 69]), (2, [78, 69, 70]), (3, [69]), (4, []), (5, [69]), (6, [69, 65, 66]), (7, [69, 65]), (8, [69])] : List (Int × Str))).getD []))))) || (decide ((0 : Int) < (x3.e.length : Int)) && (!(bI ((lk x3.kind ([(1, [78, 69]), (2, [78, 69, 70]), (3, [69]), (4, []), (5, [69]), (6, [69, 65, 66]), (7, [69, 65]), (8, [69])] : List (Int × Str))).getD []))))) == false) rfl rfl (fun q => gQ (dE q)) (aC rfl rfl (fun q => gP (dE q) (Vg q) nQ) (aa (iy rfl rfl nQ) (aa (ah (v := (.bool (((((!(lk x3.kind ([(1, [78, 69]), (2, [78, 69, 70]), (3, [69]), (4, []), (5, [69]), (6, [69, 65, 66]), (7, [69, 65]), (8, [69])] : List (Int × Str))).isSome) || (decide ((x3.n : Int) ≠ 0) && (!(aZ ((lk x3.kind ([(1, [78, 69]), (2, [78, 69, 70]), (3, [69]), (4, []), (5, [69]), (6, [69, 65, 66]), (7, [69, 65]), (8, [69])] : List (Int × Str))).getD []))))) || (decide ((0 : Int) < (x3.e.length : Int)) && (!(bI ((lk x3.kind ([(1, [78, 69]), (2, [78, 69, 70]), (3, [69]), (4, []), (5, [69]), (6, [69, 65, 66]), (7, [69, 65]), (8, [69])] : List (Int × Str))).getD []))))) || (decide ((0 : Int) < (x3.f.length : Int)) && (!(cu ((lk x3.kind ([(1, [78, 69]), (2, [78, 69, 70]), (3, [69]), (4, []), (5, [69]), (6, [69, 65, 66]), (7, [69, 65]), (8, [69])] : List (Int × Str))).getD [])))))))) rfl) (aC rfl rfl (fun q => ag Ae rfl) (aC rfl rfl (fun q => aA h 8 rfl qi (dE q) rfl) (aC rfl rfl (fun q => bT lD (dE q) (h.mM 6 rfl)) (aC rfl rfl (fun q => j5 (dE q) rfl) (aC rfl rfl (fun q => ah (v := (.bool (decide ((0 : Int) < (x3.a.length : Int))))) (dE q)) (nu (((((!(lk x3.kind ([(1, [78, 69]), (2, [78, 69, 70]), (3, [69]), (4, []), (5, [69]), (6, [69, 65, 66]), (7, [69, 65]), (8, [69])] : List (Int × Str))).isSome) || (decide ((x3.n : Int) ≠ 0) && (!(aZ ((lk x3.kind ([(1, [78, 69]), (2, [78, 69, 70]), (3, [69]), (4, []), (5, [69]), (6, [69, 65, 66]), (7, [69, 65]), (8, [69])] : List (Int × Str))).getD []))))) || (decide ((0 : Int) < (x3.e.length : Int)) && (!(bI ((lk x3.kind ([(1, [78, 69]), (2, [78, 69, 70]), (3, [69]), (4, []), (5, [69]), (6, [69, 65, 66]), (7, [69, 65]), (8, [69])] : List (Int × Str))).getD []))))) || (decide ((0 : Int) < (x3.f.length : Int)) && (!(cu ((lk x3.kind ([(1, [78, 69]), (2, [78, 69, 70]), (3, [69]), (4, []), (5, [69]), (6, [69, 65, 66]), (7, [69, 65]), (8, [69])] : List (Int × Str))).getD []))))) == false) rfl rfl (fun q => ah (v := (.func (.func 144) #[] #[(.pointer (some ⟨Ej, 0, none⟩))])) rfl) (Dw [(.pointer (some ⟨Ej, 0, none⟩))] (((((!(lk x3.kind ([(1, [78, 69]), (2, [78, 69, 70]), (3, [69]), (4, []), (5, [69]), (6, [69, 65, 66]), (7, [69, 65]), (8, [69])] : List (Int × Str))).isSome) || (decide ((x3.n : Int) ≠ 0) && (!(aZ ((lk x3.kind ([(1, [78, 69]), (2, [78, 69, 70]), (3, [69]), (4, []), (5, [69]), (6, [69, 65, 66]), (7, [69, 65]), (8, [69])] : List (Int × Str))).getD []))))) || (decide ((0 : Int) < (x3.e.length : Int)) && (!(bI ((lk x3.kind ([(1, [78, 69]), (2, [78, 69, 70]), (3, [69]), (4, []), (5, [69]), (6, [69, 65, 66]), (7, [69, 65]), (8, [69])] : List (Int × Str))).getD []))))) || (decide ((0 : Int) < (x3.f.length : Int)) && (!(cu ((lk x3.kind ([(1, [78, 69]), (2, [78, 69, 70]), (3, [69]), (4, []), (5, [69]), (6, [69, 65, 66]), (7, [69, 65]), (8, [69])] : List (Int × Str))).getD []))))) == false) rfl rfl BI (fun q => (dE q)) (fun q => mG rfl rfl) (wR _ _ h.lt ((lk x3.kind ([(1, [78, 69]), (2, [78, 69, 70]), (3, [69]), (4, []), (5, [69]), (6, [69, 65, 66]), (7, [69, 65]), (8, [69])] : List (Int × Str))).getD []) Ej (h.rP 10 rfl) _ rfl) fun w k27 => ?_))))))))))
 replace h := h.grow k27
 refine nu (((((!(lk x3.kind ([(1, [78, 69]), (2, [78, 69, 70]), (3, [69]), (4, []), (5, [69]), (6, [69, 65, 66]), (7, [69, 65]), (8, [69])] : List (Int × Str))).isSome) || (decide ((x3.n : Int) ≠ 0) && (!(aZ ((lk x3.kind ([(1, [78, 69]), (2, [78, 69, 70]), (3, [69]), (4, []), (5, [69]), (6, [69, 65, 66]), (7, [69, 65]), (8, [69])] : List (Int × Str))).getD []))))) || (decide ((0 : Int) < (x3.e.length : Int)) && (!(bI ((lk x3.kind ([(1, [78, 69]), (2, [78, 69, 70]), (3, [69]), (4, []), (5, [69]), (6, [69, 65, 66]), (7, [69, 65]), (8, [69])] : List (Int × Str))).getD []))))) || (decide ((0 : Int) < (x3.f.length : Int)) && (!(cu ((lk x3.kind ([(1, [78, 69]), (2, [78, 69, 70]), (3, [69]), (4, []), (5, [69]), (6, [69, 65, 66]), (7, [69, 65]), (8, [69])] : List (Int × Str))).getD []))))) == false) rfl rfl (fun q => gQ (dE q)) (aC rfl rfl (fun q => gP (dE q) (Vg q) nQ) (aa (iy rfl rfl nQ) (aa (ah (v := (.bool ((((((!(lk x3.kind ([(1, [78, 69]), (2, [78, 69, 70]), (3, [69]), (4, []), (5, [69]), (6, [69, 65, 66]), (7, [69, 65]), (8, [69])] : List (Int × Str))).isSome) || (decide ((x3.n : Int) ≠ 0) && (!(aZ ((lk x3.kind ([(1, [78, 69]), (2, [78, 69, 70]), (3, [69]), (4, []), (5, [69]), (6, [69, 65, 66]), (7, [69, 65]), (8, [69])] : List (Int × Str))).getD []))))) || (decide ((0 : Int) < (x3.e.length : Int)) && (!(bI ((lk x3.kind ([(1, [78, 69]), (2, [78, 69, 70]), (3, [69]), (4, []), (5, [69]), (6, [69, 65, 66]), (7, [69, 65]), (8, [69])] : List (Int × Str))).getD []))))) || (decide ((0 : Int) < (x3.f.length : Int)) && (!(cu ((lk x3.kind ([(1, [78, 69]), (2, [78, 69, 70]), (3, [69]), (4, []), (5, [69]), (6, [69, 65, 66]), (7, [69, 65]), (8, [69])] : List (Int × Str))).getD []))))) || (decide ((0 : Int) < (x3.a.length : Int)) && (!(fF ((lk x3.kind ([(1, [78, 69]), (2, [78, 69, 70]), (3, [69]), (4, []), (5, [69]), (6, [69, 65, 66]), (7, [69, 65]), (8, [69])] : List (Int × Str))).getD [])))))))) rfl) (aC rfl rfl (fun q => ag Af rfl) (aC rfl rfl (fun q => aA h 8 rfl qi (dE q) rfl) (aC rfl rfl (fun q => bT lD (dE q) (h.mM 7 rfl)) (aC rfl rfl (fun q => j5 (dE q) rfl) (aC rfl rfl (fun q => ah (v := (.bool (decide ((0 : Int) < (x3.b.length : Int))))) (dE q)) (nu ((((((!(lk x3.kind ([(1, [78, 69]), (2, [78, 69, 70]), (3, [69]), (4, []), (5, [69]), (6, [69, 65, 66]), (7, [69, 65]), (8, [69])] : List (Int × Str))).isSome) || (decide ((x3.n : Int) ≠ 0) && (!(aZ ((lk x3.kind ([(1, [78, 69]), (2, [78, 69, 70]), (3, [69]), (4, []), (5, [69]), (6, [69, 65, 66]), (7, [69, 65]), (8, [69])] : List (Int × Str))).getD []))))) || (decide ((0 : Int) < (x3.e.length : Int)) && (!(bI ((lk x3.kind ([(1, [78, 69]), (2, [78, 69, 70]), (3, [69]), (4, []), (5, [69]), (6, [69, 65, 66]), (7, [69, 65]), (8, [69])] : List (Int × Str))).getD []))))) || (decide ((0 : Int) < (x3.f.length : Int)) && (!(cu ((lk x3.kind ([(1, [78, 69]), (2, [78, 69, 70]), (3, [69]), (4, []), (5, [69]), (6, [69, 65, 66]), (7, [69, 65]), (8, [69])] : List (Int × Str))).getD []))))) || (decide ((0 : Int) < (x3.a.length : Int)) && (!(fF ((lk x3.kind ([(1, [78, 69]), (2, [78, 69, 70]), (3, [69]), (4, []), (5, [69]), (6, [69, 65, 66]), (7, [69, 65]), (8, [69])] : List (Int × Str))).getD []))))) == false) rfl rfl (fun q => ah (v := (.func (.func 144) #[] #[(.pointer (some ⟨Ej, 0, none⟩))])) rfl) (Dw [(.pointer (some ⟨Ej, 0, none⟩))] ((((((!(lk x3.kind ([(1, [78, 69]), (2, [78, 69, 70]), (3, [69]), (4, []), (5, [69]), (6, [69, 65, 66]), (7, [69, 65]), (8, [69])] : List (Int × Str))).isSome) || (decide ((x3.n : Int) ≠ 0) && (!(aZ ((lk x3.kind ([(1, [78, 69]), (2, [78, 69, 70]), (3, [69]), (4, []), (5, [69]), (6, [69, 65, 66]), (7, [69, 65]), (8, [69])] : List (Int × Str))).getD []))))) || (decide ((0 : Int) < (x3.e.length : Int)) && (!(bI ((lk x3.kind ([(1, [78, 69]), (2, [78, 69, 70]), (3, [69]), (4, []), (5, [69]), (6, [69, 65, 66]), (7, [69, 65]), (8, [69])] : List (Int × Str))).getD []))))) || (decide ((0 : Int) < (x3.f.length : Int)) && (!(cu ((lk x3.kind ([(1, [78, 69]), (2, [78, 69, 70]), (3, [69]), (4, []), (5, [69]), (6, [69, 65, 66]), (7, [69, 65]), (8, [69])] : List (Int × Str))).getD []))))) || (decide ((0 : Int) < (x3.a.length : Int)) && (!(fF ((lk x3.kind ([(1, [78, 69]), (2, [78, 69, 70]), (3, [69]), (4, []), (5, [69]), (6, [69, 65, 66]), (7, [69, 65]), (8, [69])] : List (Int × Str))).getD []))))) == false) rfl rfl BI (fun q => (dE q)) (fun q => mG rfl rfl) (wS _ _ h.lt ((lk x3.kind ([(1, [78, 69]), (2, [78, 69, 70]), (3, [69]), (4, []), (5, [69]), (6, [69, 65, 66]), (7, [69, 65]), (8, [69])] : List (Int × Str))).getD []) Ej (h.rP 10 rfl) _ rfl) fun w k28 => ?_))))))))))
 replace h := h.grow k28
 refine nu ((((((!(lk x3.kind ([(1, [78, 69]), (2, [78, 69, 70]), (3, [69]), (4, []), (5, [69]), (6, [69, 65, 66]), (7, [69, 65]), (8, [69])] : List (Int × Str))).isSome) || (decide ((x3.n : Int) ≠ 0) && (!(aZ ((lk x3.kind ([(1, [78, 69]), (2, [78, 69, 70]), (3, [69]), (4, []), (5, [69]), (6, [69, 65, 66]), (7, [69, 65]), (8, [69])] : List (Int × Str))).getD []))))) || (decide ((0 : Int) < (x3.e.length : Int)) && (!(bI ((lk x3.kind ([(1, [78, 69]), (2, [78, 69, 70]), (3, [69]), (4, []), (5, [69]), (6, [69, 65, 66]), (7, [69, 65]), (8, [69])] : List (Int × Str))).getD []))))) || (decide ((0 : Int) < (x3.f.length : Int)) && (!(cu ((lk x3.kind ([(1, [78, 69]), (2, [78, 69, 70]), (3, [69]), (4, []), (5, [69]), (6, [69, 65, 66]), (7, [69, 65]), (8, [69])] : List (Int × Str))).getD []))))) || (decide ((0 : Int) < (x3.a.length : Int)) && (!(fF ((lk x3.kind ([(1, [78, 69]), (2, [78, 69, 70]), (3, [69]), (4, []), (5, [69]), (6, [69, 65, 66]), (7, [69, 65]), (8, [69])] : List (Int × Str))).getD []))))) == false) rfl rfl (fun q => gQ (dE q)) (aC rfl rfl (fun q => gP (dE q) (Vg q) nQ) (aa (iy rfl rfl nQ) (nN (aH hs rfl (fun c29 hs => ?_) (fun c29 hs => ?_)))))
 refine nG (aa (ae (v := (I6 4)) rfl) (nR (az (aF (az (az (aF (az (bR (v := (I6 4)) Tryz.results129 rfl ?_)))))))))
 obtain rfl := fI hs
 exact ⟨h.grown, rfl⟩
 refine aI (ak (aO (nG (aa (ag ko rfl) (aa (aA h 8 rfl aU rfl rfl) (aa (bD rfl rfl) (aa (ah (v := (.bool (decide ((x3.kind : Int) = 1)))) rfl) (aC rfl rfl (fun q => ag wO rfl) (aC rfl rfl (fun q => aA h 8 rfl aU (dE q) rfl) (aC rfl rfl (fun q => ah (v := (I6 c)) rfl) (Oi rfl rfl Qo rfl (fun q => mG (dE q) (mG (dE q) rfl)) (rV _ _ h.lt x3.n c _ rfl) fun w k30 => ?_)))))))))))
 replace h := h.grow k30
 refine aC rfl rfl (fun q => gQ (dE q)) (aa (gP rfl rfl nQ) (aa (ah (v := (.bool ((decide ((x3.kind : Int) = 1) && (!(aS x3.n c)))))) rfl) (aC rfl rfl (fun q => ag ko rfl) (aC rfl rfl (fun q => aA h 8 rfl aU (dE q) rfl) (aC rfl rfl (fun q => bD (dE q) rfl) (aC rfl rfl (fun q => ah (v := (.bool (decide ((x3.kind : Int) = 2)))) (dE q)) (nu ((decide ((x3.kind : Int) = 1) && (!(aS x3.n c))) == false) rfl rfl (fun q => ag wO rfl) (nu ((decide ((x3.kind : Int) = 1) && (!(aS x3.n c))) == false) rfl rfl (fun q => aA h 8 rfl aU (dE q) rfl) (RX ((decide ((x3.kind : Int) = 1) && (!(aS x3.n c))) == false) rfl rfl zG rfl (fun q => mG (dE q) (mG rfl (mG rfl rfl))) (gU _ _ h.lt x3.n 0 3 _ rfl) fun w k31 => ?_)))))))))
 replace h := h.grow k31
 refine nu ((decide ((x3.kind : Int) = 1) && (!(aS x3.n c))) == false) rfl rfl (fun q => gQ (dE q)) (aC rfl rfl (fun q => gP (dE q) (Vg q) nQ) (aa (iy rfl rfl nQ) (nN (aH hs rfl (fun c32 hs => ?_) (fun c32 hs => ?_)))))
 refine nG (aa (ae (v := (I6 3)) rfl) (nR (az (aF (az (az (aF (az (bR (v := (I6 3)) Tryz.results129 rfl ?_)))))))))
 obtain rfl := fI hs
 exact ⟨h.grown, rfl⟩
 refine nS (aa (ae (v := (I6 0)) rfl) (nN (bX (σ := Int) (inl ([12] ++ rg 105 7)) (fun Aj => [(12, (I6 Aj))]) (fun Aj w => SH w0 M BE w (hset [(1, .sr eZ va a), (2, .sr jc vb b), (4, .rd kR Qa x3.e), (5, .rd kR Fh x3.f), (6, .rd eZ Bi x3.a), (7, .rd eZ Ev x3.b), (8, .blk KT [(I6 x3.kind), (I6 x3.n), Qa, Fh, Bi, Ev]), (10, .blk Ej [(aV ((lk x3.kind ([(1, [78, 69]), (2, [78, 69, 70]), (3, [69]), (4, []), (5, [69]), (6, [69, 65, 66]), (7, [69, 65]), (8, [69])] : List (Int × Str))).getD []))])]) ∧ lT N F0 x3 b c a K3 Aj = some r) ?_ ?_)))
 rintro Aj w dz ⟨h, hs⟩
 refine bX (σ := Int) (inl ([12] ++ rg 112 11)) (fun x34 => [(12, (I6 x34)), (115, (gv (decide ((Aj : Int) = 0) == true) (.func (.func 144) #[] #[(.pointer (some ⟨Ej, 0, none⟩))])))]) (fun x34 w => SH w0 M BE w (hset [(1, .sr eZ va a), (2, .sr jc vb b), (4, .rd kR Qa x3.e), (5, .rd kR Fh x3.f), (6, .rd eZ Bi x3.a), (7, .rd eZ Ev x3.b), (8, .blk KT [(I6 x3.kind), (I6 x3.n), Qa, Fh, Bi, Ev]), (10, .blk Ej [(aV ((lk x3.kind ([(1, [78, 69]), (2, [78, 69, 70]), (3, [69]), (4, []), (5, [69]), (6, [69, 65, 66]), (7, [69, 65]), (8, [69])] : List (Int × Str))).getD []))])]) ∧ lS F0 x3 a b c K3 x34 = some r) ?_ ?_
 rintro x34 w dz ⟨h, hs⟩
 refine bX (σ := Int) (inl ([12] ++ rg 123 7)) (fun zW => [(12, (I6 zW))]) (fun zW w => SH w0 M BE w (hset [(1, .sr eZ va a), (2, .sr jc vb b), (4, .rd kR Qa x3.e), (5, .rd kR Fh x3.f), (6, .rd eZ Bi x3.a), (7, .rd eZ Ev x3.b), (8, .blk KT [(I6 x3.kind), (I6 x3.n), Qa, Fh, Bi, Ev]), (10, .blk Ej [(aV ((lk x3.kind ([(1, [78, 69]), (2, [78, 69, 70]), (3, [69]), (4, []), (5, [69]), (6, [69, 65, 66]), (7, [69, 65]), (8, [69])] : List (Int × Str))).getD []))])]) ∧ lQ F0 x3 b c K3 zW = some r) ?_ ?_
 rintro zW w dz ⟨h, hs⟩
 refine bX (σ := Int) (inl ([12] ++ rg 130 7)) (fun sZ => [(12, (I6 sZ))]) (fun sZ w => SH w0 M BE w (hset [(1, .sr eZ va a), (2, .sr jc vb b), (10, .blk Ej [(aV ((lk x3.kind ([(1, [78, 69]), (2, [78, 69, 70]), (3, [69]), (4, []), (5, [69]), (6, [69, 65, 66]), (7, [69, 65]), (8, [69])] : List (Int × Str))).getD []))])]) ∧ lN K3 sZ = some r) ?_ ?_
 rintro sZ w dz ⟨h, hs⟩
 refine nG (aa (ah (v := (I6 sZ)) rfl) (aa (iP rfl rfl) (nN (aH hs rfl (fun c37 hs => ?_) (fun c37 hs => ?_)))))
 refine nG (aa (ah (v := (I6 sZ)) rfl) (aa (ae (v := (I6 sZ)) rfl) (nR (aF (az (az (aF (az (bR (v := (I6 sZ)) Tryz.results129 rfl ?_)))))))))
 obtain rfl := fI hs
 exact ⟨h.grown, rfl⟩
 refine aI (ax (ak (aB (aa (dm rfl rfl e7r) (aa (ah (v := (I6 ((i2 + 1)))) rfl) (ay (au ?_)))))))
 subst hnx5
 exact jQ ⟨k1 + 1, i2 + 1⟩ ⟨h.cn _, by omega, hs⟩ (by have := qE e6; dsimp only; omega)
 refine nG (aa (ah (v := (I6 zW)) rfl) (aa (bD rfl rfl) (nN (aH hs rfl (fun OE hs => ?_) (fun OE hs => ?_)))))
 refine aB (aa (ag Af rfl) (aa (aA h 8 rfl qi rfl rfl) (aa (ah (v := vb) rfl) (aa (ah (v := (I6 c)) rfl) ?_))))
 obtain ⟨y39, e40, hs⟩ := aJ hs
 refine aR Ng rfl rfl (ih _ _ h.lt Ev x3.b (h.mM 7 rfl) vb b (h.iM 2 rfl) c _ e40) ?_
 rintro _ w ⟨k41, rfl⟩
 refine ⟨_, rfl, ?_⟩
 replace h := h.grow k41
 refine aa (ae (v := (I6 y39)) rfl) (ay (au ?_))
 exact bP y39 ⟨h.cn _, hs⟩
 refine aI (au ?_)
 exact bP zW ⟨h.cn _, hs⟩
 refine nG (aa (ah (v := (I6 x34)) rfl) (aa (bD rfl rfl) (nN (aH hs rfl (fun c42 hs => ?_) (fun c42 hs => ?_)))))
 refine aB (aa (ag Ae rfl) (aa (aA h 8 rfl qi rfl rfl) (aa (ah (v := vb) rfl) (aa (ah (v := (I6 c)) rfl) ?_))))
 obtain ⟨BK, e44, hs⟩ := aJ hs
 refine aR Ng rfl rfl (ih _ _ h.lt Bi x3.a (h.mM 6 rfl) vb b (h.iM 2 rfl) c _ e44) ?_
 rintro _ w ⟨k45, rfl⟩
 refine ⟨_, rfl, ?_⟩
 replace h := h.grow k45
 refine aa (ae (v := (I6 BK)) rfl) (ay (au ?_))
 exact bP BK ⟨h.cn _, hs⟩
 refine aI (au ?_)
 exact bP x34 ⟨h.cn _, hs⟩
 refine nG (aa (ah (v := (I6 Aj)) rfl) (aa (bD rfl rfl) (aa (ah (v := (.bool (decide ((Aj : Int) = 0)))) rfl) (aC rfl rfl (fun q => ah (v := (.func (.func 144) #[] #[(.pointer (some ⟨Ej, 0, none⟩))])) rfl) (Jo [(.pointer (some ⟨Ej, 0, none⟩))] rfl rfl BI (fun q => (dE q)) (fun q => mG rfl rfl) (oU _ _ h.lt ((lk x3.kind ([(1, [78, 69]), (2, [78, 69, 70]), (3, [69]), (4, []), (5, [69]), (6, [69, 65, 66]), (7, [69, 65]), (8, [69])] : List (Int × Str))).getD []) Ej (h.rP 10 rfl) _ rfl) fun w k46 => ?_)))))
 replace h := h.grow k46
 refine aa (gP rfl rfl nQ) (nN (aH hs rfl (fun c47 hs => ?_) (fun c47 hs => ?_)))
 refine aB (aa (ag CL rfl) (aa (aA h 8 rfl yz rfl rfl) (aa (ah (v := vb) rfl) (aa (ah (v := (I6 c)) rfl) ?_))))
 obtain ⟨rR, e49, hs⟩ := aJ hs
 refine aR Sg rfl rfl (tZ N _ _ h.lt Fh x3.f (h.mM 5 rfl) vb b (h.iM 2 rfl) c _ e49) ?_
 rintro _ w ⟨k50, rfl⟩
 refine ⟨_, rfl, ?_⟩
 replace h := h.grow k50
 refine aa (ae (v := (I6 rR)) rfl) (ay (au ?_))
 exact bP rR ⟨h.cn _, hs⟩
 refine aI (au ?_)
 exact bP Aj ⟨h.cn _, hs⟩
 refine nG (aa (ah (v := (.func (.func 144) #[] #[(.pointer (some ⟨Ej, 0, none⟩))])) rfl) (jP (args := [(aV [69]), (.pointer (some ⟨Ej, 0, none⟩))]) BI rfl rfl (aL (args := [(aV [69]), (.pointer (some ⟨Ej, 0, none⟩))]) Tryz.func144 rfl Tryz.ntmps144 (bC rfl) (nG (aa (ae (v := (.bool (false))) rfl) (nJ (aa (aA h 10 rfl Ah rfl rfl) (aa (ah (v := (aV [69])) rfl) (aR DD rfl rfl (jX _ _ h.lt ((lk x3.kind ([(1, [78, 69]), (2, [78, 69, 70]), (3, [69]), (4, []), (5, [69]), (6, [69, 65, 66]), (7, [69, 65]), (8, [69])] : List (Int × Str))).getD []) 69 _ rfl) ?_)))))))))
 rintro _ w ⟨k51, rfl⟩
 refine ⟨_, rfl, ?_⟩
 replace h := h.grow k51
 refine aa (ae (v := (.bool ((hasB ((lk x3.kind ([(1, [78, 69]), (2, [78, 69, 70]), (3, [69]), (4, []), (5, [69]), (6, [69, 65, 66]), (7, [69, 65]), (8, [69])] : List (Int × Str))).getD []) 69)))) rfl) (nR (bR (v := (.bool ((hasB ((lk x3.kind ([(1, [78, 69]), (2, [78, 69, 70]), (3, [69]), (4, []), (5, [69]), (6, [69, 65, 66]), (7, [69, 65]), (8, [69])] : List (Int × Str))).getD []) 69)))) Tryz.results144 rfl (⟨_, rfl, ?_⟩)))
 refine nN (aH hs rfl (fun Ew hs => ?_) (fun Ew hs => ?_))
 refine aB (aa (ag Ad rfl) (aa (aA h 8 rfl yz rfl rfl) (aa (ah (v := vb) rfl) (aa (ah (v := (I6 c)) rfl) ?_))))
 obtain ⟨OD, e54, hs⟩ := aJ hs
 refine aR Sg rfl rfl (tZ N _ _ h.lt Qa x3.e (h.mM 4 rfl) vb b (h.iM 2 rfl) c _ e54) ?_
 rintro _ w ⟨k55, rfl⟩
 refine ⟨_, rfl, ?_⟩
 replace h := h.grow k55
 refine aa (ae (v := (I6 OD)) rfl) (ay (au ?_))
 exact bP OD ⟨h.cn _, hs⟩
 refine aI (au ?_)
 exact bP 0 ⟨h.cn _, hs⟩
 rw [gL (hik ▸ e6), gT] at hs
 refine nE (aa (ae (v := (I6 0)) rfl) (nR (bR (v := (I6 0)) Tryz.results129 rfl ?_)))
 obtain rfl := fI hs
 exact ⟨h.grown, rfl⟩
def lW (N : Nat) (a : List fB) (rW : fB) (s : Unit) (Ak : Unit → Option Int) : Option Int :=
  (nz N rW.body 4).bind fun mJ => bif (!mJ.2) then some 2 else (jq N rW.body a rW.locals).bind fun y40 => bif decide ((y40 : Int) ≠ 0) then some y40 else Ak ()
def lX (s : Unit) : Option Int :=
  some 0
def lY (i4 : Int) (x5 : fB) (s : Unit) (nx7 : Unit → Option Int) : Option Int :=
  bif (((!(aW x5.params 0 3)) || (!(aW x5.locals x5.params 6))) || (decide ((i4 : Int) = 0) && decide ((x5.params : Int) ≠ 0))) then some 3 else nx7 ()
def lZ (N : Nat) (a : List fB) (s : Unit) : Option Int :=
  each (lW N a) lX a ()
def uf (N : Nat) (a : List fB) : Option Int :=
  bif (!(aW (a.length : Int) 1 4)) then some 2 else fq lY (lZ N a) 0 a ()
theorem zf (N : Nat) (w0 : World) (M : BS) (hM : ∀ b, M b → b < w0.heap.size) (va : Value) (a : List fB) (ha : fP jc w0 BE M va a) (r : Int) (hs : uf N a = some r) :
    Calls Tryz.prog 112 #[va] w0 (fun e w' => Grow w0 w' ∧ e = .returned (.int .i64 r)) := by
 refine aL (args := [va]) Tryz.func112 rfl Tryz.ntmps112 (bC rfl) ?_
 have h := SH.init hM
 replace h := h.fG 1 ha bE
 have vE := ha.bW
 refine nG (aa (ae (v := (I6 0)) rfl) (nK (aa (ah (v := va) rfl) (aa (bT iN rfl (h.iM 1 rfl)) (aR zG rfl rfl (gU _ _ h.lt (a.length : Int) 1 4 _ rfl) ?_)))))
 rintro _ w ⟨k1, rfl⟩
 refine ⟨_, rfl, ?_⟩
 replace h := h.grow k1
 refine aa (gQ rfl) (nN (aH hs rfl (fun c2 hs => ?_) (fun c2 hs => ?_)))
 refine nG (aa (ae (v := (I6 2)) rfl) (nR (az (bR (v := (I6 2)) Tryz.results112 rfl ?_))))
 obtain rfl := fI hs
 exact ⟨h.grown, rfl⟩
 refine aI (ak (aO (nG (aa (ah (v := va) rfl) (aa (bT iN rfl (h.iM 1 rfl)) (aa (ah (v := (I6 0)) rfl) (nN (aP (fT (σ := Nat × Int) (inl ([2, 3, 4] ++ rg 16 27)) (fun ⟨k3, i4⟩ => [(16, (I6 i4))]) (fun ⟨k3, i4⟩ w => SH w0 M BE w (hset [(1, .sr jc va a)]) ∧ i4 = (k3 : Int) ∧ fq lY (lZ N a) i4 (a.drop k3) () = some r) (fun ⟨k3, i4⟩ => a.length - k3) ⟨0, 0⟩ ⟨rfl, trivial⟩ ?_ ?_)))))))))
 exact ⟨h.cn _, rfl, hs⟩
 rintro ⟨k3, i4⟩ w dz ⟨h, hik, hs⟩
 refine nG ?_
 refine aa (dL rfl rfl) (nN ?_)
 refine aO (iw rfl (fun e8 => ?_) (fun e8 => ?_))
 refine aI (ak ?_)
 obtain ⟨x5, e9a, e9b⟩ := gK (hik ▸ e8)
 rw [e9b, ja] at hs
 generalize hnx7 : fq lY (lZ N a) (i4 + 1) (a.drop (k3 + 1)) = nx7 at hs
 have e9r := gN ((h.iM 1 rfl)).bW hik e8
 refine aO (aP (nG (aa (ah (v := (I6 i4)) rfl) ?_)))
 obtain ⟨b11, o12, cs13, h, r14, i10⟩ := h.Br 1 2 rfl iN rfl (jb hik) (gM hik e9a)
 obtain ⟨Fh, rfl, g16⟩ := tV r14
 replace h := h.bM 3 g16.up
 refine aa (i10 _ _ _ _ _ _ _ _ _ rfl rfl) (aa (jm (k := 0) (vs := [(I6 x5.params), (I6 x5.locals), Fh]) h 2 rfl mI rfl rfl rfl (bC rfl)) (bO h 4 mI fun w b17 h => aa (ae (v := (I6 i4)) rfl) (dn (vs := [(I6 x5.params), (I6 x5.locals), Fh]) h 4 [(I6 x5.params), (I6 x5.locals), Fh] rfl mI rfl rfl rfl rfl rfl (ai rfl (ai rfl (ai (h.fM 3 rfl).one aT))) fun w h => nJ (aa (ag wN rfl) (aa (aA h 4 rfl aU rfl rfl) (aR zG rfl rfl (gU _ _ h.lt x5.params 0 3 _ rfl) ?_))))))
 rintro _ w ⟨k18, rfl⟩
 refine ⟨_, rfl, ?_⟩
 replace h := h.grow k18
 refine aa (gQ rfl) (aa (ah (v := (.bool ((!(aW x5.params 0 3))))) rfl) (aC rfl rfl (fun q => ag Ac rfl) (aC rfl rfl (fun q => aA h 4 rfl aU (dE q) rfl) (aC rfl rfl (fun q => ag wN rfl) (aC rfl rfl (fun q => aA h 4 rfl aU (dE q) rfl) (Oi rfl rfl zG rfl (fun q => mG (dE q) (mG (dE q) (mG rfl rfl))) (gU _ _ h.lt x5.locals x5.params 6 _ rfl) fun w k19 => ?_))))))
 replace h := h.grow k19
 refine aC rfl rfl (fun q => gQ (dE q)) (aa (iy rfl rfl nQ) (aa (ah (v := (.bool (((!(aW x5.params 0 3)) || (!(aW x5.locals x5.params 6)))))) rfl) (aC rfl rfl (fun q => ah (v := (I6 i4)) rfl) (aC rfl rfl (fun q => bD (dE q) rfl) (aC rfl rfl (fun q => ah (v := (.bool (decide ((i4 : Int) = 0)))) (dE q)) (nu (((!(aW x5.params 0 3)) || (!(aW x5.locals x5.params 6))) == false) rfl rfl (fun q => ag wN rfl) (nu (((!(aW x5.params 0 3)) || (!(aW x5.locals x5.params 6))) == false) rfl rfl (fun q => aA h 4 rfl aU (dE q) rfl) (nu (((!(aW x5.params 0 3)) || (!(aW x5.locals x5.params 6))) == false) rfl rfl (fun q => iP (dE q) rfl) (aC rfl rfl (fun q => gP (dE q) (Vg q) nQ) (aa (iy rfl rfl nQ) (nN (aH hs rfl (fun c20 hs => ?_) (fun c20 hs => ?_)))))))))))))
 refine nG (aa (ae (v := (I6 3)) rfl) (nR (aF (az (az (aF (az (bR (v := (I6 3)) Tryz.results112 rfl ?_))))))))
 obtain rfl := fI hs
 exact ⟨h.grown, rfl⟩
 refine aI (ax (ak (aB (aa (dm rfl rfl e9r) (aa (ah (v := (I6 ((i4 + 1)))) rfl) (ay (au ?_)))))))
 subst hnx7
 exact jQ ⟨k3 + 1, i4 + 1⟩ ⟨h.cn _, by omega, hs⟩ (by have := qE e8; dsimp only; omega)
 rw [gL (hik ▸ e8), nZ] at hs
 refine iT (bK (bK (dU (ak (aO (nG (aa (ah (v := va) rfl) (aa (bT iN rfl (h.iM 1 rfl)) (aa (ah (v := (I6 0)) rfl) (nN (aP (fT (σ := Nat × Int) (inl ([2, 6, 7, 8, 9] ++ rg 45 22)) (fun ⟨k21, i22⟩ => [(45, (I6 i22))]) (fun ⟨k21, i22⟩ w => SH w0 M BE w (hset [(1, .sr jc va a)]) ∧ i22 = (k21 : Int) ∧ each (lW N a) lX (a.drop k21) () = some r) (fun ⟨k21, i22⟩ => a.length - k21) ⟨0, 0⟩ ⟨rfl, trivial⟩ ?_ ?_))))))))))))
 exact ⟨h.cn _, rfl, hs⟩
 rintro ⟨k21, i22⟩ w dz ⟨h, hik, hs⟩
 refine nG ?_
 refine aa (dL rfl rfl) (nN ?_)
 refine aO (iw rfl (fun e26 => ?_) (fun e26 => ?_))
 refine aI (ak ?_)
 obtain ⟨rW, e27a, e27b⟩ := gK (hik ▸ e26)
 rw [e27b, dO] at hs
 generalize Wp : each (lW N a) lX (a.drop (k21 + 1)) = Ak at hs
 have e27r := gN ((h.iM 1 rfl)).bW hik e26
 refine aO (aP (nG ?_))
 obtain ⟨b29, o30, cs31, h, r32, i28⟩ := h.Br 1 5 rfl iN rfl (jb hik) (gM hik e27a)
 obtain ⟨u33, rfl, g34⟩ := tV r32
 replace h := h.bM 6 g34.up
 refine aa (i28 _ _ _ _ _ _ _ _ _ rfl rfl) (aa (jm (k := 0) (vs := [(I6 rW.params), (I6 rW.locals), u33]) h 5 rfl mI rfl rfl rfl (bC rfl)) (bO h 7 mI fun w b35 h => dn (vs := [(I6 rW.params), (I6 rW.locals), u33]) h 7 [(I6 rW.params), (I6 rW.locals), u33] rfl mI rfl rfl rfl rfl rfl (ai rfl (ai rfl (ai (h.fM 6 rfl).one aT))) fun w h => nK (aa (ag CK rfl) (aa (aA h 7 rfl qi rfl rfl) ?_))))
 obtain ⟨mJ, e37, hs⟩ := aJ hs
 refine aR Sd rfl rfl (Ea N _ _ h.lt u33 rW.body (h.mM 6 rfl) 4 _ e37) ?_
 rintro _ w ⟨k38, rfl⟩
 refine ⟨_, rfl, ?_⟩
 replace h := h.grow k38
 refine aa (ah (v := (.tuple #[(I6 mJ.1), (.bool (mJ.2))])) rfl) (aa (aY rfl rfl) (aa (aY rfl rfl) (aa (ae (v := (I6 mJ.1)) rfl) (aa (ae (v := (.bool (mJ.2))) rfl) (nJ (aa (ah (v := (.bool (mJ.2))) rfl) (aa (gQ rfl) (nN (aH hs rfl (fun c39 hs => ?_) (fun c39 hs => ?_))))))))))
 refine nG (aa (ae (v := (I6 2)) rfl) (nR (az (aF (az (az (aF (az (bR (v := (I6 2)) Tryz.results112 rfl ?_)))))))))
 obtain rfl := fI hs
 exact ⟨h.grown, rfl⟩
 refine nS (aa (ag CK rfl) (aa (aA h 7 rfl qi rfl rfl) (aa (ah (v := va) rfl) (aa (ag Ac rfl) (aa (aA h 7 rfl aU rfl rfl) ?_)))))
 obtain ⟨y40, e41, hs⟩ := aJ hs
 refine aR Ng rfl rfl (zH N _ _ h.lt u33 rW.body (h.mM 6 rfl) va a (h.iM 1 rfl) rW.locals _ e41) ?_
 rintro _ w ⟨k42, rfl⟩
 refine ⟨_, rfl, ?_⟩
 replace h := h.grow k42
 refine aa (ae (v := (I6 y40)) rfl) (nJ (aa (ah (v := (I6 y40)) rfl) (aa (iP rfl rfl) (nN (aH hs rfl (fun c43 hs => ?_) (fun c43 hs => ?_))))))
 refine nG (aa (ah (v := (I6 y40)) rfl) (aa (ae (v := (I6 y40)) rfl) (nR (aF (az (az (aF (az (bR (v := (I6 y40)) Tryz.results112 rfl ?_)))))))))
 obtain rfl := fI hs
 exact ⟨h.grown, rfl⟩
 refine aI (ax (ak (aB (aa (dm rfl rfl e27r) (aa (ah (v := (I6 ((i22 + 1)))) rfl) (ay (au ?_)))))))
 subst Wp
 exact jQ ⟨k21 + 1, i22 + 1⟩ ⟨h.cn _, by omega, hs⟩ (by have := qE e26; dsimp only; omega)
 rw [gL (hik ▸ e26), gT] at hs
 refine nE (aa (ae (v := (I6 0)) rfl) (nR (bR (v := (I6 0)) Tryz.results112 rfl ?_)))
 obtain rfl := fI hs
 exact ⟨h.grown, rfl⟩
theorem uO (w0 : World) (M : BS) (hM : ∀ b, M b → b < w0.heap.size) (hT : wL Tryz.prog 4 w0) (a : Int) (r : Str) (hs : Lr a = some r) :
    Calls Tryz.prog 125 #[.int .i64 a] w0 (fun e w' => Grow w0 w' ∧ e = .returned (aV r)) :=
  itoa_w Tryz.strconv_Itoa hT hs
theorem Al (w0 : World) (M : BS) (hM : ∀ b, M b → b < w0.heap.size) (hT : wL Tryz.prog 4 w0) (a : Str) (r : List Str) (hs : FC a = some r) :
    Calls Tryz.prog 111 #[aV a] w0 (fun e w' => Grow w0 w' ∧ ∃ u, e = .returned u ∧ eX oN w' M u r) :=
  VP Tryz.strings_Fields (q := 0) (by kernel_rfl) hM hT hs
def jG (a : Tok) : Option Str :=
  (Lr a.n).bind fun y2 => bif decide ((a.kind : Int) = 2) then gJ ([118].length + y2.length ≤ 9223372036854775807) (some ([118] ++ y2)) else bif decide ((a.kind : Int) = 3) then gJ (jI (a.n + 1)) ((subs? [63, 43, 45, 42, 60, 61] a.n (a.n + 1)).bind fun x9 => some x9) else bif decide ((a.kind : Int) = 4) then gJ ([46].length + y2.length ≤ 9223372036854775807) (some ([46] ++ y2)) else bif decide ((a.kind : Int) = 5) then gJ ([110, 101, 119].length + y2.length ≤ 9223372036854775807) (some ([110, 101, 119] ++ y2)) else bif decide ((a.kind : Int) = 6) then gJ ([102].length + y2.length ≤ 9223372036854775807) (some ([102] ++ y2)) else some y2
theorem ql (w0 : World) (M : BS) (hM : ∀ b, M b → b < w0.heap.size) (hT : wL Tryz.prog 4 w0) (a : Tok) (r : Str) (hs : jG a = some r) :
    Calls Tryz.prog 106 #[(.agg #[(I6 a.kind), (I6 a.n)])] w0 (fun e w' => Grow w0 w' ∧ e = .returned (aV r)) := by
 refine aL (args := [(.agg #[(I6 a.kind), (I6 a.n)])]) Tryz.func106 rfl Tryz.ntmps106 (bC rfl) ?_
 have h := SH.init hM
 refine nG (oP (cs := [(I6 a.kind), (I6 a.n)]) h 1 rfl rfl fun w b1 h => aa (ae (v := (aV [])) rfl) (nJ (aa (ag ou rfl) (aa (aA h 1 rfl aU rfl rfl) ?_))))
 obtain ⟨y2, e3, hs⟩ := aJ hs
 refine aR Jf rfl rfl (uO _ _ h.lt (hT.go h.keep) a.n _ e3) ?_
 rintro _ w ⟨k4, rfl⟩
 refine ⟨_, rfl, ?_⟩
 replace h := h.grow k4
 refine aa (ae (v := (aV y2)) rfl) (nK (aa (ag FI rfl) (aa (aA h 1 rfl aU rfl rfl) (nN (aP (nG (aa (bD rfl rfl) (aa (ae (v := (.bool (decide ((a.kind : Int) = 2)))) rfl) (nN (aH hs rfl (fun c5 hs => ?_) (fun c5 hs => ?_)))))))))))
 refine nG (aa (ah (v := (aV y2)) rfl) ?_)
 obtain ⟨a6, hs⟩ := bu hs
 refine aa (mR rfl rfl a6) (aa (ae (v := (aV ([118] ++ y2))) rfl) (nR (aF (az (bR (v := (aV ([118] ++ y2))) Tryz.results106 rfl ?_)))))
 obtain rfl := fI hs
 exact ⟨h.grown, rfl⟩
 refine nG (aa (bD rfl rfl) (aa (ae (v := (.bool (decide ((a.kind : Int) = 3)))) rfl) (nN (aH hs rfl (fun c7 hs => ?_) (fun c7 hs => ?_)))))
 refine nG (aa (ag ou rfl) (aa (aA h 1 rfl aU rfl rfl) (aa (ag ou rfl) (aa (aA h 1 rfl aU rfl rfl) ?_))))
 obtain ⟨a8, hs⟩ := bu hs
 refine aa (dm rfl rfl a8) ?_
 obtain ⟨x9, e10, hs⟩ := aJ hs
 obtain ⟨Wq, Ws, e11c, e11⟩ := Qh e10
 refine aa (Qg e11 Tryz.underlying9 rfl (.inr (congrArg some rfl)) (.inr (congrArg some rfl)) Wq Ws e11c) (aa (ae (v := (aV x9)) rfl) (nR (aF (az (bR (v := (aV x9)) Tryz.results106 rfl ?_)))))
 obtain rfl := fI hs
 exact ⟨h.grown, rfl⟩
 refine nG (aa (bD rfl rfl) (aa (ae (v := (.bool (decide ((a.kind : Int) = 4)))) rfl) (nN (aH hs rfl (fun c12 hs => ?_) (fun c12 hs => ?_)))))
 refine nG (aa (ah (v := (aV y2)) rfl) ?_)
 obtain ⟨a13, hs⟩ := bu hs
 refine aa (mR rfl rfl a13) (aa (ae (v := (aV ([46] ++ y2))) rfl) (nR (aF (az (bR (v := (aV ([46] ++ y2))) Tryz.results106 rfl ?_)))))
 obtain rfl := fI hs
 exact ⟨h.grown, rfl⟩
 refine nG (aa (bD rfl rfl) (aa (ae (v := (.bool (decide ((a.kind : Int) = 5)))) rfl) (nN (aH hs rfl (fun c14 hs => ?_) (fun c14 hs => ?_)))))
 refine nG (aa (ah (v := (aV y2)) rfl) ?_)
 obtain ⟨a15, hs⟩ := bu hs
 refine aa (mR rfl rfl a15) (aa (ae (v := (aV ([110, 101, 119] ++ y2))) rfl) (nR (aF (az (bR (v := (aV ([110, 101, 119] ++ y2))) Tryz.results106 rfl ?_)))))
 obtain rfl := fI hs
 exact ⟨h.grown, rfl⟩
 refine nG (aa (bD rfl rfl) (aa (ae (v := (.bool (decide ((a.kind : Int) = 6)))) rfl) (nN (aH hs rfl (fun c16 hs => ?_) (fun c16 hs => ?_)))))
 refine nG (aa (ah (v := (aV y2)) rfl) ?_)
 obtain ⟨a17, hs⟩ := bu hs
 refine aa (mR rfl rfl a17) (aa (ae (v := (aV ([102] ++ y2))) rfl) (nR (aF (az (bR (v := (aV ([102] ++ y2))) Tryz.results106 rfl ?_)))))
 obtain rfl := fI hs
 exact ⟨h.grown, rfl⟩
 refine aI (ax (ak (nG (aa (ah (v := (aV y2)) rfl) (aa (ae (v := (aV y2)) rfl) (nR (bR (v := (aV y2)) Tryz.results106 rfl ?_)))))))
 obtain rfl := fI hs
 exact ⟨h.grown, rfl⟩
def ow (x7 : Tok) (x4 : Str) (Jg : Str → Option Str) : Option Str :=
  (jG x7).bind fun KU => gJ ([32].length + KU.length ≤ 9223372036854775807) (gJ (x4.length + ([32] ++ KU).length ≤ 9223372036854775807) (Jg (x4 ++ ([32] ++ KU))))
def oz (x4 : Str) : Option Str :=
  some x4
def qK (a : List Tok) : Option Str :=
  each ow oz a []
theorem uP (w0 : World) (M : BS) (hM : ∀ b, M b → b < w0.heap.size) (hT : wL Tryz.prog 4 w0) (va : Value) (a : List Tok) (ha : fP kR w0 BE M va a) (r : Str) (hs : qK a = some r) :
    Calls Tryz.prog 147 #[va] w0 (fun e w' => Grow w0 w' ∧ e = .returned (aV r)) := by
 refine aL (args := [va]) Tryz.func147 rfl Tryz.ntmps147 (bC rfl) ?_
 have h := SH.init hM
 replace h := h.fG 1 ha bE
 have vE := ha.bW
 refine nG (aa (ae (v := (aV [])) rfl) (nJ (aa (ae (v := (aV [])) rfl) (nK (aa (ah (v := va) rfl) (aa (bT kI rfl (h.iM 1 rfl)) (aa (ah (v := (I6 0)) rfl) (nN (aP (fT (σ := Nat × Int × Str) (inl ([3, 5] ++ rg 8 10)) (fun ⟨k5, i6, x4⟩ => [(3, (aV x4)), (8, (I6 i6))]) (fun ⟨k5, i6, x4⟩ w => SH w0 M BE w (hset [(1, .sr kR va a)]) ∧ i6 = (k5 : Int) ∧ each ow oz (a.drop k5) x4 = some r) (fun ⟨k5, i6, x4⟩ => a.length - k5) ⟨0, 0, []⟩ ⟨rfl, rfl, trivial⟩ ?_ ?_))))))))))
 exact ⟨h.cn _, rfl, hs⟩
 rintro ⟨k5, i6, x4⟩ w dz ⟨h, hik, hs⟩
 refine nG ?_
 refine aa (dL rfl rfl) (nN ?_)
 refine aO (iw rfl (fun e10 => ?_) (fun e10 => ?_))
 refine aI (ak ?_)
 obtain ⟨x7, Wq, Ws⟩ := gK (hik ▸ e10)
 rw [Ws, dO] at hs
 generalize Wt : each ow oz (a.drop (k5 + 1)) = Jg at hs
 have Wu := gN ((h.iM 1 rfl)).bW hik e10
 refine aO (aP (nG ?_))
 obtain ⟨b13, o14, cs15, h, r16, i12⟩ := h.Br 1 2 rfl kI rfl (jb hik) (gM hik Wq)
 obtain rfl := r16
 refine aa (i12 _ _ _ _ _ _ _ _ _ rfl rfl) (aa (jm (k := 0) (vs := [(I6 x7.kind), (I6 x7.n)]) h 2 rfl kD rfl rfl rfl (bC rfl)) (bO h 3 kD fun w b17 h => dn (vs := [(I6 x7.kind), (I6 x7.n)]) h 3 [(I6 x7.kind), (I6 x7.n)] rfl kD rfl rfl rfl rfl rfl (ai rfl (ai rfl aT)) fun w h => nN (aB (aa (ah (v := (aV x4)) rfl) (aa (dh (vs := [(I6 x7.kind), (I6 x7.n)]) h 3 rfl kD rfl rfl rfl) ?_)))))
 obtain ⟨KU, e19, hs⟩ := aJ hs
 refine aR Nb rfl rfl (ql _ _ h.lt (hT.go h.keep) x7 _ e19) ?_
 rintro _ w ⟨k20, rfl⟩
 refine ⟨_, rfl, ?_⟩
 replace h := h.grow k20
 obtain ⟨a21, hs⟩ := bu hs
 refine aa (mR rfl rfl a21) ?_
 obtain ⟨a22, hs⟩ := bu hs
 refine aa (mR rfl rfl a22) (aa (ae (v := (aV (x4 ++ ([32] ++ KU)))) rfl) (ay (ax (ak (aB (aa (dm rfl rfl Wu) (aa (ah (v := (I6 ((i6 + 1)))) rfl) (ay (au ?_)))))))))
 subst Wt
 exact jQ ⟨k5 + 1, i6 + 1, (x4 ++ ([32] ++ KU))⟩ ⟨h.cn _, by omega, hs⟩ (by have := qE e10; dsimp only; omega)
 rw [gL (hik ▸ e10), gT] at hs
 refine nE (aa (ah (v := (aV x4)) rfl) (aa (ae (v := (aV x4)) rfl) (nR (bR (v := (aV x4)) Tryz.results147 rfl ?_))))
 obtain rfl := fI hs
 exact ⟨h.grown, rfl⟩
def mU (Jg : Str → Option Str) (Am : Str) : Option Str :=
  Jg Am
def mV (F0 : List bB → Option Str) (x7 : bB) (Jg : Str → Option Str) (x34 : Str) : Option Str :=
  bif decide ((x7.kind : Int) = 6) then (F0 x7.b).bind fun mJ => gJ ([32].length + mJ.length ≤ 9223372036854775807) (gJ (x34.length + ([32] ++ mJ).length ≤ 9223372036854775807) (mU Jg (x34 ++ ([32] ++ mJ)))) else mU Jg x34
def mW (F0 : List bB → Option Str) (x7 : bB) (a : List bB) (Jg : Str → Option Str) (x30 : Str) : Option Str :=
  (qK x7.e).bind fun qL => (qK x7.f).bind fun qM => gJ (qL.length + qM.length ≤ 9223372036854775807) (gJ (x30.length + (qL ++ qM).length ≤ 9223372036854775807) (bif (decide ((x7.kind : Int) = 6) || decide ((x7.kind : Int) = 7)) then (F0 x7.a).bind fun tq => gJ ([32].length + tq.length ≤ 9223372036854775807) (gJ ((x30 ++ (qL ++ qM)).length + ([32] ++ tq).length ≤ 9223372036854775807) (mV F0 x7 Jg ((x30 ++ (qL ++ qM)) ++ ([32] ++ tq)))) else mV F0 x7 Jg (x30 ++ (qL ++ qM))))
def mX (F0 : List bB → Option Str) (a : List bB) (x7 : bB) (x4 : Str) (Jg : Str → Option Str) : Option Str :=
  gJ (jI (x7.kind - 1)) ((FC [115, 101, 116, 32, 112, 117, 116, 32, 115, 97, 121, 32, 112, 97, 117, 115, 101, 32, 103, 111, 32, 105, 102, 32, 119, 104, 105, 108, 101, 32, 114, 101, 116, 117, 114, 110]).bind fun OG => (idx OG (x7.kind - 1)).bind fun qN => gJ ([32].length + qN.length ≤ 9223372036854775807) (gJ (x4.length + ([32] ++ qN).length ≤ 9223372036854775807) (bif decide ((x7.kind : Int) ≤ 2) then (Lr x7.n).bind fun rR => gJ ([32].length + rR.length ≤ 9223372036854775807) (gJ ((x4 ++ ([32] ++ qN)).length + ([32] ++ rR).length ≤ 9223372036854775807) (mW F0 x7 a Jg ((x4 ++ ([32] ++ qN)) ++ ([32] ++ rR)))) else mW F0 x7 a Jg (x4 ++ ([32] ++ qN)))))
def mY (x4 : Str) : Option Str :=
  gJ (x4.length + [32, 125].length ≤ 9223372036854775807) (some (x4 ++ [32, 125]))
def ug (F0 : List bB → Option Str) (a : List bB) : Option Str :=
  each (mX F0 a) mY a [123]
def jT : Nat → List bB → Option Str
  | 0 => fun _ => none
  | N + 1 => ug (jT N)
theorem Ao : ∀ (N : Nat) (w0 : World) (M : BS) (hM : ∀ b, M b → b < w0.heap.size) (hT : wL Tryz.prog 4 w0) (va : Value) (a : List bB) (ha : fP eZ w0 BE M va a) (r : Str) (hs : jT N a = some r),
    Calls Tryz.prog 130 #[va] w0 (fun e w' => Grow w0 w' ∧ e = .returned (aV r)) := by
 intro N
 induction N with
 | zero => intro w0 M hM hT va a ha r hs; cases hs
 | succ N ih =>
 intro w0 M hM hT va a ha r hs
 replace hs : ug (jT N) a = some r := hs
 generalize jT N = F0 at hs ih
 refine aL (args := [va]) Tryz.func130 rfl Tryz.ntmps130 (bC rfl) ?_
 have h := SH.init hM
 replace h := h.fG 1 ha bE
 have vE := ha.bW
 refine nG (aa (ae (v := (aV [])) rfl) (nJ (aa (ae (v := (aV [123])) rfl) (nK (aa (ah (v := va) rfl) (aa (bT lD rfl (h.iM 1 rfl)) (aa (ah (v := (I6 0)) rfl) (nN (aP (fT (σ := Nat × Int × Str) (inl ([3, 5] ++ rg 8 55)) (fun ⟨k5, i6, x4⟩ => [(3, (aV x4)), (8, (I6 i6))]) (fun ⟨k5, i6, x4⟩ w => SH w0 M BE w (hset [(1, .sr eZ va a)]) ∧ i6 = (k5 : Int) ∧ each (mX F0 a) mY (a.drop k5) x4 = some r) (fun ⟨k5, i6, x4⟩ => a.length - k5) ⟨0, 0, [123]⟩ ⟨rfl, rfl, trivial⟩ ?_ ?_))))))))))
 exact ⟨h.cn _, rfl, hs⟩
 rintro ⟨k5, i6, x4⟩ w dz ⟨h, hik, hs⟩
 refine nG ?_
 refine aa (dL rfl rfl) (nN ?_)
 refine aO (iw rfl (fun e10 => ?_) (fun e10 => ?_))
 refine aI (ak ?_)
 obtain ⟨x7, Wq, Ws⟩ := gK (hik ▸ e10)
 rw [Ws, dO] at hs
 generalize Wt : each (mX F0 a) mY (a.drop (k5 + 1)) = Jg at hs
 have Wu := gN ((h.iM 1 rfl)).bW hik e10
 refine bX (σ := Str) (inl ([3, 5] ++ rg 10 52)) (fun Am => [(3, (aV Am))]) (fun Am w => SH w0 M BE w (hset [(1, .sr eZ va a)]) ∧ mU Jg Am = some r) ?_ ?_
 rintro Am w dz ⟨h, hs⟩
 refine aB (aa (dm rfl rfl Wu) (aa (ah (v := (I6 ((i6 + 1)))) rfl) (ay (au ?_))))
 subst Wt
 exact jQ ⟨k5 + 1, i6 + 1, Am⟩ ⟨h.cn _, by omega, hs⟩ (by have := qE e10; dsimp only; omega)
 refine aP (nG ?_)
 obtain ⟨b14, o15, cs16, h, r17, i13⟩ := h.Br 1 2 rfl lD rfl (jb hik) (gM hik Wq)
 obtain ⟨Vi, u20, u22, u24, rfl, g19, g21, g23, g25⟩ := Bz r17
 replace h := h.bM 3 g19.up
 replace h := h.bM 4 g21.up.up
 replace h := h.bM 5 g23.up.up.up
 replace h := h.bM 6 g25.up.up.up.up
 refine aa (i13 _ _ _ _ _ _ _ _ _ rfl rfl) (aa (jm (k := 0) (vs := [(I6 x7.kind), (I6 x7.n), Vi, u20, u22, u24]) h 2 rfl pq rfl rfl rfl (bC rfl)) (bO h 7 pq fun w b26 h => dn (vs := [(I6 x7.kind), (I6 x7.n), Vi, u20, u22, u24]) h 7 [(I6 x7.kind), (I6 x7.n), Vi, u20, u22, u24] rfl pq rfl rfl rfl rfl rfl (ai rfl (ai rfl (ai (h.fM 3 rfl).one (ai (h.fM 4 rfl).one (ai (h.fM 5 rfl).one (ai (h.fM 6 rfl).one aT)))))) fun w h => nN (aO (Bw mixed h fun w h => dD 0 (aD.refl BE _) rfl aj (by kernel_rfl) (by kernel_rfl) (by kernel_rfl) (fun w hk => ah (v := (aV x4)) rfl) (dD 2 (aD.refl BE _) rfl aj (by kernel_rfl) (by kernel_rfl) (by kernel_rfl) (fun w hk => ag ko rfl) (dD 3 (aD.refl BE _) rfl aj (by kernel_rfl) (by kernel_rfl) (by kernel_rfl) (fun w hk => have h := h.grow hk; aA h 7 rfl aU rfl rfl) ?_))))))
 obtain ⟨JH, hs⟩ := bu hs
 refine dD 4 (aD.refl BE _) rfl aj (by kernel_rfl) (by kernel_rfl) (by kernel_rfl) (fun w hk => oO rfl rfl JH) ?_
 obtain ⟨Wv, OH⟩ : ∃ x, x = w := ⟨_, rfl⟩
 have uD : Grow Wv w := OH ▸ aD.refl BE w
 refine IA OH.symm (qH 1 (by kernel_rfl) rfl aj ?_)
 obtain ⟨OG, Ww, hs⟩ := aJ hs
 refine aR Sb rfl rfl (Al _ _ h.lt (hT.go h.keep) [115, 101, 116, 32, 112, 117, 116, 32, 115, 97, 121, 32, 112, 97, 117, 115, 101, 32, 103, 111, 32, 105, 102, 32, 119, 104, 105, 108, 101, 32, 114, 101, 116, 117, 114, 110] _ Ww) ?_
 rintro _ w ⟨OI, uq27x1_3, rfl, Wx⟩
 refine ⟨_, rfl, ?_⟩
 replace h := h.Iz 20 OI Wx
 replace uD := uD.trans OI
 refine ay (kQ uD ?_)
 obtain ⟨qN, OJ, hs⟩ := aJ hs
 obtain ⟨bq27x5_4, oq27x5_5, csq27x5_6, h, Wy, Wz⟩ := h.Fw 20 68 rfl fe rfl (aG OJ).1 (aG OJ).2
 obtain rfl := Wy
 refine uK 5 uD rfl (by kernel_rfl) (fun w hk => Wz _ _ _ _ _ _ _ _ _ rfl rfl) (RZ uD ?_)
 obtain ⟨TE, Qs⟩ : ∃ x, x = w := ⟨_, rfl⟩
 have hgq27x6_2 : Grow TE w := Qs ▸ aD.refl _ _
 refine dD 6 (aD.refl BE _) rfl aj (by kernel_rfl) (by kernel_rfl) (by kernel_rfl) (fun w hk => have h := h.grow hk; eU (k := 0) h 68 rfl Ah rfl rfl) ?_
 obtain ⟨WA, hs⟩ := bu hs
 refine dD 7 (aD.refl BE _) rfl aj (by kernel_rfl) (by kernel_rfl) (by kernel_rfl) (fun w hk => mR rfl rfl WA) ?_
 obtain ⟨WB, hs⟩ := bu hs
 refine dD 8 (aD.refl BE _) rfl aj (by kernel_rfl) (by kernel_rfl) (by kernel_rfl) (fun w hk => mR rfl rfl WB) (dD 9 (aD.refl BE _) rfl aj (by kernel_rfl) (by kernel_rfl) (by kernel_rfl) (fun w hk => ae (v := (aV (x4 ++ ([32] ++ qN)))) rfl) (ru (by kernel_rfl) (ak (bX (σ := Str) (inl ([3] ++ rg 21 9)) (fun x30 => [(3, (aV x30))]) (fun x30 w => SH w0 M BE w (hset [(1, .sr eZ va a), (3, .rd kR Vi x7.e), (4, .rd kR u20 x7.f), (5, .rd eZ u22 x7.a), (6, .rd eZ u24 x7.b), (7, .blk b26 [(I6 x7.kind), (I6 x7.n), Vi, u20, u22, u24])]) ∧ mW F0 x7 a Jg x30 = some r) ?_ ?_))))
 rintro x30 w dz ⟨h, hs⟩
 refine aO (Bw mixed h fun w h => dD 0 (aD.refl BE _) rfl aj (by kernel_rfl) (by kernel_rfl) (by kernel_rfl) (fun w hk => ah (v := (aV x30)) rfl) (dD 1 (aD.refl BE _) rfl aj (by kernel_rfl) (by kernel_rfl) (by kernel_rfl) (fun w hk => ag Ad rfl) (dD 2 (aD.refl BE _) rfl aj (by kernel_rfl) (by kernel_rfl) (by kernel_rfl) (fun w hk => have h := h.grow hk; aA h 7 rfl yz rfl rfl) (dD 4 (aD.refl BE _) rfl aj (by kernel_rfl) (by kernel_rfl) (by kernel_rfl) (fun w hk => ag CL rfl) (dD 5 (aD.refl BE _) rfl aj (by kernel_rfl) (by kernel_rfl) (by kernel_rfl) (fun w hk => have h := h.grow hk; aA h 7 rfl yz rfl rfl) ?_)))))
 obtain ⟨Qt, OL⟩ : ∃ x, x = w := ⟨_, rfl⟩
 have nT : Grow Qt w := OL ▸ aD.refl BE w
 refine IA OL.symm (qH 3 (by kernel_rfl) rfl aj ?_)
 obtain ⟨qL, WE, hs⟩ := aJ hs
 refine aR Si rfl rfl (uP _ _ h.lt (hT.go h.keep) Vi x7.e (h.mM 3 rfl) _ WE) ?_
 rintro _ w ⟨OM, rfl⟩
 refine ⟨_, rfl, ?_⟩
 replace h := h.grow OM
 replace nT := nT.trans OM
 refine ay (kQ nT (qH 6 (by kernel_rfl) rfl aj ?_))
 obtain ⟨qM, WG, hs⟩ := aJ hs
 refine aR Si rfl rfl (uP _ _ h.lt (hT.go h.keep) u20 x7.f (h.mM 4 rfl) _ WG) ?_
 rintro _ w ⟨OO, rfl⟩
 refine ⟨_, rfl, ?_⟩
 replace h := h.grow OO
 replace nT := nT.trans OO
 refine ay (kQ nT ?_)
 obtain ⟨WI, hs⟩ := bu hs
 refine uK 7 nT rfl (by kernel_rfl) (fun w hk => mR rfl rfl WI) ?_
 obtain ⟨WJ, hs⟩ := bu hs
 refine uK 8 nT rfl (by kernel_rfl) (fun w hk => mR rfl rfl WJ) (uK 9 nT rfl (by kernel_rfl) (fun w hk => ae (v := (aV (x30 ++ (qL ++ qM)))) rfl) (ru (by kernel_rfl) (ak (bX (σ := Str) (inl ([3] ++ rg 39 14)) (fun x34 => [(3, (aV x34))]) (fun x34 w => SH w0 M BE w (hset [(1, .sr eZ va a), (3, .rd kR Vi x7.e), (4, .rd kR u20 x7.f), (5, .rd eZ u22 x7.a), (6, .rd eZ u24 x7.b), (7, .blk b26 [(I6 x7.kind), (I6 x7.n), Vi, u20, u22, u24])]) ∧ mV F0 x7 Jg x34 = some r) ?_ ?_))))
 rintro x34 w dz ⟨h, hs⟩
 refine nG (aa (ag ko rfl) (aa (aA h 7 rfl aU rfl rfl) (aa (bD rfl rfl) (nN (aH hs rfl (fun c35 hs => ?_) (fun c35 hs => ?_))))))
 refine aB (aa (ah (v := (aV x34)) rfl) (aa (ag Af rfl) (aa (aA h 7 rfl qi rfl rfl) ?_)))
 obtain ⟨mJ, e37, hs⟩ := aJ hs
 refine aR Nh rfl rfl (ih _ _ h.lt (hT.go h.keep) u24 x7.b (h.mM 6 rfl) _ e37) ?_
 rintro _ w ⟨k38, rfl⟩
 refine ⟨_, rfl, ?_⟩
 replace h := h.grow k38
 obtain ⟨a39, hs⟩ := bu hs
 refine aa (mR rfl rfl a39) ?_
 obtain ⟨a40, hs⟩ := bu hs
 refine aa (mR rfl rfl a40) (aa (ae (v := (aV (x34 ++ ([32] ++ mJ)))) rfl) (ay (ax (au ?_))))
 exact bP (x34 ++ ([32] ++ mJ)) ⟨h.cn _, hs⟩
 refine aI (ax (au ?_))
 exact bP x34 ⟨h.cn _, hs⟩
 refine nG (aa (ag ko rfl) (aa (aA h 7 rfl aU rfl rfl) (aa (bD rfl rfl) (aa (ah (v := (.bool (decide ((x7.kind : Int) = 6)))) rfl) (aC rfl rfl (fun q => ag ko rfl) (aC rfl rfl (fun q => aA h 7 rfl aU (dE q) rfl) (aC rfl rfl (fun q => bD (dE q) rfl) (aa (iy rfl rfl nQ) (nN (aH hs rfl (fun c41 hs => ?_) (fun c41 hs => ?_)))))))))))
 refine aB (aa (ah (v := (aV (x30 ++ (qL ++ qM)))) rfl) (aa (ag Ae rfl) (aa (aA h 7 rfl qi rfl rfl) ?_)))
 obtain ⟨tq, e43, hs⟩ := aJ hs
 refine aR Nh rfl rfl (ih _ _ h.lt (hT.go h.keep) u22 x7.a (h.mM 5 rfl) _ e43) ?_
 rintro _ w ⟨k44, rfl⟩
 refine ⟨_, rfl, ?_⟩
 replace h := h.grow k44
 obtain ⟨a45, hs⟩ := bu hs
 refine aa (mR rfl rfl a45) ?_
 obtain ⟨a46, hs⟩ := bu hs
 refine aa (mR rfl rfl a46) (aa (ae (v := (aV ((x30 ++ (qL ++ qM)) ++ ([32] ++ tq)))) rfl) (ay (au ?_)))
 exact bP ((x30 ++ (qL ++ qM)) ++ ([32] ++ tq)) ⟨h.cn _, hs⟩
 refine aI (au ?_)
 exact bP (x30 ++ (qL ++ qM)) ⟨h.cn _, hs⟩
 refine nG (aa (ag ko rfl) (aa (aA h 7 rfl aU rfl rfl) (aa (Fs rfl rfl) (nN (aH hs rfl (fun c47 hs => ?_) (fun c47 hs => ?_))))))
 refine aB (aa (ah (v := (aV (x4 ++ ([32] ++ qN)))) rfl) (aa (ag wO rfl) (aa (aA h 7 rfl aU rfl rfl) ?_)))
 obtain ⟨rR, e49, hs⟩ := aJ hs
 refine aR Jf rfl rfl (uO _ _ h.lt (hT.go h.keep) x7.n _ e49) ?_
 rintro _ w ⟨k50, rfl⟩
 refine ⟨_, rfl, ?_⟩
 replace h := h.grow k50
 obtain ⟨a51, hs⟩ := bu hs
 refine aa (mR rfl rfl a51) ?_
 obtain ⟨a52, hs⟩ := bu hs
 refine aa (mR rfl rfl a52) (aa (ae (v := (aV ((x4 ++ ([32] ++ qN)) ++ ([32] ++ rR)))) rfl) (ay (au ?_)))
 exact bP ((x4 ++ ([32] ++ qN)) ++ ([32] ++ rR)) ⟨h.cn _, hs⟩
 refine aI (au ?_)
 exact bP (x4 ++ ([32] ++ qN)) ⟨h.cn _, hs⟩
 rw [gL (hik ▸ e10), gT] at hs
 refine nE (aa (ah (v := (aV x4)) rfl) ?_)
 obtain ⟨a53, hs⟩ := bu hs
 refine aa (mR rfl rfl a53) (aa (ae (v := (aV (x4 ++ [32, 125]))) rfl) (nR (bR (v := (aV (x4 ++ [32, 125]))) Tryz.results130 rfl ?_)))
 obtain rfl := fI hs
 exact ⟨h.grown, rfl⟩
theorem JI (w0 : World) (M : BS) (hM : ∀ b, M b → b < w0.heap.size) (va : Value) (a : List Str) (ha : fP oN w0 BE M va a) (b : Str) (r : Str) (hs : VF a b = some r) :
    Calls Tryz.prog 131 #[va, aV b] w0 (fun e w' => Grow w0 w' ∧ e = .returned (aV r)) :=
  join_w Tryz.strings_Join_none Tryz.strings_Join ha hs
def mZ (N : Nat) (dS : fB) (x8 : List Str) (nO : List Str → Option Str) : Option Str :=
  (Lr dS.params).bind fun qc => gJ ([102, 117, 110, 32].length + qc.length ≤ 9223372036854775807) (gJ (([102, 117, 110, 32] ++ qc).length + [32].length ≤ 9223372036854775807) ((Lr dS.locals).bind fun sj => gJ ((([102, 117, 110, 32] ++ qc) ++ [32]).length + sj.length ≤ 9223372036854775807) (gJ (((([102, 117, 110, 32] ++ qc) ++ [32]) ++ sj).length + [32].length ≤ 9223372036854775807) ((jT N dS.body).bind fun uh => gJ ((((([102, 117, 110, 32] ++ qc) ++ [32]) ++ sj) ++ [32]).length + uh.length ≤ 9223372036854775807) (gJ (Room 16 x8 [((((([102, 117, 110, 32] ++ qc) ++ [32]) ++ sj) ++ [32]) ++ uh)]) (nO (x8 ++ [((((([102, 117, 110, 32] ++ qc) ++ [32]) ++ sj) ++ [32]) ++ uh)])))))))
def ng (x8 : List Str) : Option Str :=
  (VF x8 [32]).bind fun Jh => some Jh
def uQ (N : Nat) (a : List fB) : Option Str :=
  each (mZ N) ng a []
theorem zI (N : Nat) (w0 : World) (M : BS) (hM : ∀ b, M b → b < w0.heap.size) (hT : wL Tryz.prog 4 w0) (va : Value) (a : List fB) (ha : fP jc w0 BE M va a) (r : Str) (hs : uQ N a = some r) :
    Calls Tryz.prog 113 #[va] w0 (fun e w' => Grow w0 w' ∧ e = .returned (aV r)) := by
 refine aL (args := [va]) Tryz.func113 rfl Tryz.ntmps113 (bC rfl) ?_
 have h := SH.init hM
 replace h := h.fG 1 ha bE
 have vE := ha.bW
 refine nG (aa (ae (v := (aV [])) rfl) (nJ (aa (ae (v := (.slice none 0 0)) rfl) (nK (aa (ah (v := va) rfl) (aa (bT iN rfl (h.iM 1 rfl)) (aa (ah (v := (I6 0)) rfl) (nN (aP ?_)))))))))
 replace h := h.zb (R := oN) (E := 9) 5
 refine fT (σ := Nat × Int × Value × List Str) (inl ([3, 5] ++ rg 8 22)) (fun ⟨k9, i10, v7, x8⟩ => [(3, v7), (8, (I6 i10))]) (fun ⟨k9, i10, v7, x8⟩ w => SH w0 M BE w (hset [(1, .sr jc va a), (5, .own oN 9 v7 x8)]) ∧ i10 = (k9 : Int) ∧ each (mZ N) ng (a.drop k9) x8 = some r) (fun ⟨k9, i10, v7, x8⟩ => a.length - k9) ⟨0, 0, (.slice none 0 0), []⟩ ⟨rfl, rfl, trivial⟩ ?_ ?_
 exact ⟨h.cn _, rfl, hs⟩
 rintro ⟨k9, i10, v7, x8⟩ w dz ⟨h, hik, hs⟩
 refine nG ?_
 refine aa (dL rfl rfl) (nN ?_)
 refine aO (iw rfl (fun e14 => ?_) (fun e14 => ?_))
 refine aI (ak ?_)
 obtain ⟨dS, Nl, Nn⟩ := gK (hik ▸ e14)
 rw [Nn, dO] at hs
 generalize FO : each (mZ N) ng (a.drop (k9 + 1)) = nO at hs
 have Np := gN ((h.iM 1 rfl)).bW hik e14
 refine aO (aP (nG ?_))
 obtain ⟨b17, o18, WM, h, TF, i16⟩ := h.Br 1 6 rfl iN rfl (jb hik) (gM hik Nl)
 obtain ⟨u21, rfl, g22⟩ := tV TF
 replace h := h.bM 7 g22.up
 refine aa (i16 _ _ _ _ _ _ _ _ _ rfl rfl) (aa (jm (k := 0) (vs := [(I6 dS.params), (I6 dS.locals), u21]) h 6 rfl mI rfl rfl rfl (bC rfl)) (bO h 8 mI fun w Ej h => dn (vs := [(I6 dS.params), (I6 dS.locals), u21]) h 8 [(I6 dS.params), (I6 dS.locals), u21] rfl mI rfl rfl rfl rfl rfl (ai rfl (ai rfl (ai (h.fM 7 rfl).one aT))) fun w h => nN (kL (L := (ob v7)) mixed h fun w h => bA 0 (aD.refl _ _) rfl aj (by kernel_rfl) (by kernel_rfl) (by kernel_rfl) (fun w hk => ah (v := v7) rfl) (bA 1 (aD.refl _ _) rfl aj (by kernel_rfl) (by kernel_rfl) (by kernel_rfl) (fun w hk => ag wN rfl) (bA 2 (aD.refl _ _) rfl aj (by kernel_rfl) (by kernel_rfl) (by kernel_rfl) (fun w hk => have h := h.oQ 5 rfl hk; aA h 8 rfl aU rfl rfl) (bA 6 (aD.refl _ _) rfl aj (by kernel_rfl) (by kernel_rfl) (by kernel_rfl) (fun w hk => ag Ac rfl) (bA 7 (aD.refl _ _) rfl aj (by kernel_rfl) (by kernel_rfl) (by kernel_rfl) (fun w hk => have h := h.oQ 5 rfl hk; aA h 8 rfl aU rfl rfl) (bA 11 (aD.refl _ _) rfl aj (by kernel_rfl) (by kernel_rfl) (by kernel_rfl) (fun w hk => ag CK rfl) (bA 12 (aD.refl _ _) rfl aj (by kernel_rfl) (by kernel_rfl) (by kernel_rfl) (fun w hk => have h := h.oQ 5 rfl hk; aA h 8 rfl qi rfl rfl) ?_)))))))))
 obtain ⟨Wv, OH⟩ : ∃ x, x = w := ⟨_, rfl⟩
 have uD : aD (ob v7) Wv w := OH ▸ aD.refl (ob v7) w
 refine rU OH.symm (bg 3 (by kernel_rfl) rfl aj ?_)
 obtain ⟨qc, WN, hs⟩ := aJ hs
 refine aR Jf rfl rfl (uO _ _ h.lt (hT.go h.keep) dS.params _ WN) ?_
 rintro _ w ⟨OP, rfl⟩
 refine ⟨_, rfl, ?_⟩
 replace h := h.grow OP
 replace uD := uD.grow OP
 refine ay (aN uD ?_)
 obtain ⟨JH, hs⟩ := bu hs
 refine cK 4 uD rfl (by kernel_rfl) (fun w hk => mR rfl rfl JH) ?_
 obtain ⟨WO, hs⟩ := bu hs
 refine cK 5 uD rfl (by kernel_rfl) (fun w hk => mR rfl rfl WO) (bg 8 (by kernel_rfl) rfl aj ?_)
 obtain ⟨sj, WQ, hs⟩ := aJ hs
 refine aR Jf rfl rfl (uO _ _ h.lt (hT.go h.keep) dS.locals _ WQ) ?_
 rintro _ w ⟨OQ, rfl⟩
 refine ⟨_, rfl, ?_⟩
 replace h := h.grow OQ
 replace uD := uD.grow OQ
 refine ay (aN uD ?_)
 obtain ⟨WR, hs⟩ := bu hs
 refine cK 9 uD rfl (by kernel_rfl) (fun w hk => mR rfl rfl WR) ?_
 obtain ⟨TG, hs⟩ := bu hs
 refine cK 10 uD rfl (by kernel_rfl) (fun w hk => mR rfl rfl TG) (bg 13 (by kernel_rfl) rfl aj ?_)
 obtain ⟨uh, TH, hs⟩ := aJ hs
 refine aR Nh rfl rfl (Ao N _ _ h.lt (hT.go h.keep) u21 dS.body (h.mM 7 rfl) _ TH) ?_
 rintro _ w ⟨LD, rfl⟩
 refine ⟨_, rfl, ?_⟩
 replace h := h.grow LD
 replace uD := uD.grow LD
 refine ay (aN uD ?_)
 obtain ⟨TI, hs⟩ := bu hs
 refine cK 14 uD rfl (by kernel_rfl) (fun w hk => mR rfl rfl TI) (bg 15 (by kernel_rfl) rfl aj (wK (R := oN) (vs := [(aV ((((([102, 117, 110, 32] ++ qc) ++ [32]) ++ sj) ++ [32]) ++ uh))]) (xs := [((((([102, 117, 110, 32] ++ qc) ++ [32]) ++ sj) ++ [32]) ++ uh)]) h 189 LB rfl rfl rfl ⟨rfl, trivial⟩ rfl fun w TJ h Qu Qv => ?_))
 have uq27x15_1q : ∀ b, ob TJ b → Wv.heap.size ≤ b := fun b hb => Nat.le_trans uD.size (Qv b hb)
 replace uD := uD.grow Qu
 refine ay (aN uD (bg 16 (by kernel_rfl) rfl aj ?_))
 obtain ⟨LF, hs⟩ := bu hs
 have uq27x16_2z := uD.size
 refine kS (R := oN) (m := [((((([102, 117, 110, 32] ++ qc) ++ [32]) ++ sj) ++ [32]) ++ uh)]) h 5 rfl (h.dG 189 rfl) LB rfl rfl rfl LF.1 LF.2 fun w GL h Qw Qx => ?_
 have uq27x16_2q : ∀ b, ob GL b → b < Wv.heap.size → ob v7 b := fun b hb hl => Qx b hb (Nat.lt_of_lt_of_le hl (uD).size)
 replace uD := uD.same Qw
 refine ay (aN uD (cK 17 uD rfl (by kernel_rfl) (fun w hk => ae (v := GL) rfl) (eY (by kernel_rfl) (ax (ak (aB (aa (dm rfl rfl Np) (aa (ah (v := (I6 ((i10 + 1)))) rfl) (ay (au ?_))))))))))
 subst FO
 exact jQ ⟨k9 + 1, i10 + 1, GL, (x8 ++ [((((([102, 117, 110, 32] ++ qc) ++ [32]) ++ sj) ++ [32]) ++ uh)])⟩ ⟨h.cn _, by omega, hs⟩ (by have := qE e14; dsimp only; omega)
 rw [gL (hik ▸ e14), gT] at hs
 refine nE (aa (ah (v := v7) rfl) ?_)
 obtain ⟨Jh, e31, hs⟩ := aJ hs
 refine aR YY rfl rfl (JI _ _ h.lt v7 x8 (h.dG 5 rfl) [32] _ e31) ?_
 rintro _ w ⟨k32, rfl⟩
 refine ⟨_, rfl, ?_⟩
 replace h := h.grow k32
 refine aa (ae (v := (aV Jh)) rfl) (nR (bR (v := (aV Jh)) Tryz.results113 rfl ?_))
 obtain rfl := fI hs
 exact ⟨h.grown, rfl⟩
def stringslite_HasPrefix (a : Str) (b : Str) : Option Bool :=
  bif decide (((b.length : Int) : Int) ≤ (a.length : Int)) then (subs? a 0 (b.length : Int)).bind fun x2 => some (decide ((x2 : Str) = b)) else some false
theorem Ap (w0 : World) (M : BS) (hM : ∀ b, M b → b < w0.heap.size) (a : Str) (b : Str) (r : Bool) (hs : stringslite_HasPrefix a b = some r) :
    Calls Tryz.prog 141 #[(aV a), (aV b)] w0 (fun e w' => Grow w0 w' ∧ e = .returned (.bool r)) := by
 refine aL (args := [(aV a), (aV b)]) Tryz.func141 rfl Tryz.ntmps141 (bC rfl) ?_
 have h := SH.init hM
 refine nG (aa (ae (v := (.bool (false))) rfl) (nJ (aa (ah (v := (aV a)) rfl) (aa (MS Tryz.underlying9 rfl) (aa (ah (v := (aV b)) rfl) (aa (MS Tryz.underlying9 rfl) (aa (qy rfl rfl) (aa (ah (v := (.bool (decide (((b.length : Int) : Int) ≤ (a.length : Int))))) rfl) (jL (b := decide (((b.length : Int) : Int) ≤ (a.length : Int))) hs (fun c1 hs => ?_) (fun c1 hs => ?_))))))))))
 refine dX rfl (cB c1) (aa (ah (v := (aV a)) rfl) (dX rfl (cB c1) (aa (ah (v := (aV b)) rfl) (dX rfl (cB c1) (aa (MS Tryz.underlying9 rfl) (dX rfl (cB c1) ?_))))))
 obtain ⟨x2, e3, hs⟩ := aJ hs
 obtain ⟨e4a, e4b, e4c, e4⟩ := Qh e3
 refine aa (Qg e4 Tryz.underlying9 rfl (.inl ⟨rfl, rfl⟩) (.inr (congrArg some rfl)) e4a e4b e4c) (dX rfl (cB c1) (aa (ah (v := (aV b)) rfl) (dX rfl (cB c1) (aa (Gx rfl rfl) (aa (dJ (b := true) (v := (.bool (decide ((x2 : Str) = b)))) (cB c1) rfl) (aa (ae (v := (.bool (decide ((x2 : Str) = b)))) rfl) (nR (bR (v := (.bool (decide ((x2 : Str) = b)))) Tryz.results141 rfl ?_))))))))
 obtain rfl := fI hs
 exact ⟨h.grown, rfl⟩
 refine yx rfl (cB c1) rfl (yx rfl (cB c1) rfl (yx rfl (cB c1) rfl (yx rfl (cB c1) rfl (yx rfl (cB c1) rfl (yx rfl (cB c1) rfl (aa (dJ (b := false) (v := (.bool (false))) (cB c1) rfl) (aa (ae (v := (.bool (false))) rfl) (nR (bR (v := (.bool (false))) Tryz.results141 rfl ?_)))))))))
 obtain rfl := fI hs
 exact ⟨h.grown, rfl⟩
def stringslite_TrimPrefix (a : Str) (b : Str) : Option Str :=
  (stringslite_HasPrefix a b).bind fun y1 => bif y1 then (subs? a (b.length : Int) (a.length : Int)).bind fun x5 => some x5 else some a
theorem zJ (w0 : World) (M : BS) (hM : ∀ b, M b → b < w0.heap.size) (a : Str) (b : Str) (r : Str) (hs : stringslite_TrimPrefix a b = some r) :
    Calls Tryz.prog 124 #[(aV a), (aV b)] w0 (fun e w' => Grow w0 w' ∧ e = .returned (aV r)) := by
 refine aL (args := [(aV a), (aV b)]) Tryz.func124 rfl Tryz.ntmps124 (bC rfl) ?_
 have h := SH.init hM
 refine nG (aa (ae (v := (aV [])) rfl) (nK (aa (ah (v := (aV a)) rfl) (aa (ah (v := (aV b)) rfl) ?_))))
 obtain ⟨y1, e2, hs⟩ := aJ hs
 refine aR YZ rfl rfl (Ap _ _ h.lt a b _ e2) ?_
 rintro _ w ⟨k3, rfl⟩
 refine ⟨_, rfl, ?_⟩
 replace h := h.grow k3
 refine nN (aH hs rfl (fun c4 hs => ?_) (fun c4 hs => ?_))
 refine nG (aa (ah (v := (aV a)) rfl) (aa (ah (v := (aV b)) rfl) (aa (MS Tryz.underlying9 rfl) ?_)))
 obtain ⟨x5, e6, hs⟩ := aJ hs
 obtain ⟨e7a, e7b, e7c, e7⟩ := Qh e6
 refine aa (Qg e7 Tryz.underlying9 rfl (.inr (congrArg some rfl)) (.inl ⟨rfl, rfl⟩) e7a e7b e7c) (aa (ae (v := (aV x5)) rfl) (nR (az (bR (v := (aV x5)) Tryz.results124 rfl ?_))))
 obtain rfl := fI hs
 exact ⟨h.grown, rfl⟩
 refine nS (aa (ah (v := (aV a)) rfl) (aa (ae (v := (aV a)) rfl) (nR (bR (v := (aV a)) Tryz.results124 rfl ?_))))
 obtain rfl := fI hs
 exact ⟨h.grown, rfl⟩
def strings_TrimPrefix (a : Str) (b : Str) : Option Str :=
  (stringslite_TrimPrefix a b).bind fun y1 => some y1
theorem CO (w0 : World) (M : BS) (hM : ∀ b, M b → b < w0.heap.size) (a : Str) (b : Str) (r : Str) (hs : strings_TrimPrefix a b = some r) :
    Calls Tryz.prog 105 #[(aV a), (aV b)] w0 (fun e w' => Grow w0 w' ∧ e = .returned (aV r)) := by
 refine aL (args := [(aV a), (aV b)]) Tryz.func105 rfl Tryz.ntmps105 (bC rfl) ?_
 have h := SH.init hM
 refine nG (aa (ae (v := (aV [])) rfl) (nJ (aa (ah (v := (aV a)) rfl) (aa (ah (v := (aV b)) rfl) ?_))))
 obtain ⟨y1, e2, hs⟩ := aJ hs
 refine aR YX rfl rfl (zJ _ _ h.lt a b _ e2) ?_
 rintro _ w ⟨k3, rfl⟩
 refine ⟨_, rfl, ?_⟩
 replace h := h.grow k3
 refine aa (ae (v := (aV y1)) rfl) (nR (bR (v := (aV y1)) Tryz.results105 rfl ?_))
 obtain rfl := fI hs
 exact ⟨h.grown, rfl⟩
def pJ (a : List Str) (b : Str) (i2 : Int) (s : Unit) (K3 : Unit → Option Int) : Option Int :=
  (idx a i2).bind fun x8 => bif decide ((b : Str) = x8) then some i2 else K3 ()
def pK (s : Unit) : Option Int :=
  some (-1)
def slices_Index_string (a : List Str) (b : Str) : Option Int :=
  upto (pJ a b) pK 0 ((a.length : Int)).toNat ()
theorem Co (w0 : World) (M : BS) (hM : ∀ b, M b → b < w0.heap.size) (va : Value) (a : List Str) (ha : fP oN w0 BE M va a) (b : Str) (r : Int) (hs : slices_Index_string a b = some r) :
    Calls Tryz.prog 110 #[va, (aV b)] w0 (fun e w' => Grow w0 w' ∧ e = .returned (.int .i64 r)) := by
 refine aL (args := [va, (aV b)]) Tryz.func110 rfl Tryz.ntmps110 (bC rfl) ?_
 have h := SH.init hM
 replace h := h.fG 1 ha bE
 have vE := ha.bW
 refine nG (aa (ae (v := (I6 0)) rfl) (nK (aa (ah (v := va) rfl) (aa (bT fe rfl (h.iM 1 rfl)) (aa (ah (v := (I6 0)) rfl) (nN (aP ?_)))))))
 have hli2 := (h.iM 1 rfl).bW
 refine fT (σ := Nat × Int) (inl ([4, 5] ++ rg 8 11)) (fun ⟨k1, i2⟩ => [(8, (I6 i2))]) (fun ⟨k1, i2⟩ w => SH w0 M BE w (hset [(1, .sr oN va a)]) ∧ i2 = (k1 : Int) ∧ upto (pJ a b) pK i2 (((a.length : Int)).toNat - k1) () = some r) (fun ⟨k1, i2⟩ => ((a.length : Int)).toNat - k1) ⟨0, 0⟩ ⟨rfl, trivial⟩ ?_ ?_
 exact ⟨h.cn _, rfl, hs⟩
 rintro ⟨k1, i2⟩ w dz ⟨h, hik, hs⟩
 refine nG ?_
 refine aa (dL rfl rfl) (nN ?_)
 refine aO (iw rfl (fun e6 => ?_) (fun e6 => ?_))
 refine aI (ak ?_)
 rw [sJ (by have := qE e6; omega)] at hs
 generalize hnx5 : upto (pJ a b) pK (i2 + 1) (((a.length : Int)).toNat - (k1 + 1)) = K3 at hs
 have e7r : jI (i2 + 1) := (by have := qE e6; have := hli2; exact jI.mk (by omega) (by omega))
 refine aO (aP (nG (aa (ah (v := (I6 i2)) rfl) (aa (ae (v := (I6 i2)) rfl) (nJ (aa (ah (v := (aV b)) rfl) (aa (ah (v := va) rfl) (aa (ah (v := (I6 i2)) rfl) ?_))))))))
 obtain ⟨x8, e9, hs⟩ := aJ hs
 obtain ⟨b11, o12, cs13, h, r14, i10⟩ := h.Br 1 2 rfl fe rfl (aG e9).1 (aG e9).2
 obtain rfl := r14
 refine aa (i10 _ _ _ _ _ _ _ _ _ rfl rfl) (aa (eU (k := 0) h 2 rfl Ah rfl rfl) (aa (Gx rfl rfl) (nN (aH hs rfl (fun c15 hs => ?_) (fun c15 hs => ?_)))))
 refine nG (aa (ah (v := (I6 i2)) rfl) (aa (ae (v := (I6 i2)) rfl) (nR (aF (az (az (aF (az (bR (v := (I6 i2)) Tryz.results110 rfl ?_)))))))))
 obtain rfl := fI hs
 exact ⟨h.grown, rfl⟩
 refine aI (ax (ak (aB (aa (dm rfl rfl e7r) (aa (ah (v := (I6 ((i2 + 1)))) rfl) (ay (au ?_)))))))
 subst hnx5
 exact jQ ⟨k1 + 1, i2 + 1⟩ ⟨h.cn _, by omega, hs⟩ (by have := qE e6; dsimp only; omega)
 rw [sK (by have := of_decide_eq_false e6; omega)] at hs
 refine nE (aa (ae (v := (I6 (-1))) rfl) (nR (bR (v := (I6 (-1))) Tryz.results110 rfl ?_)))
 obtain rfl := fI hs
 exact ⟨h.grown, rfl⟩
def BL (za : Int) (Nq : (Int × Int × Int) → Option (List Tok × dP)) (BM : Int) (Bj : Int) : Option (List Tok × dP) :=
  gJ (jI (za + 1)) (Nq ((za + 1), BM, Bj))
def BN (x29 : Str) (Bl : List Tok) (F : List fB) (y31 : Int) (Bn : Int) (Ak : (List Tok × Int × Bool × Int) → Option (List Tok × dP)) (Jh : Bool) (s : Int × Int × Int) (Nq : Int × Int × Int → Option (List Tok × dP)) : Option (List Tok × dP) :=
  match s with | (za, Ji, vI) => bif decide ((za : Int) ≤ 5) then (jG (⟨3, za⟩ : Tok)).bind fun Jj => bif decide ((Jj : Str) = x29) then BL za Nq 3 za else BL za Nq Ji vI else gJ (Room 16 Bl [(⟨Ji, vI⟩ : Tok)]) (bif (decide (((eO (⟨Ji, vI⟩ : Tok) F 6) : Int) ≠ 0) || decide ((24 : Int) < ((Bl ++ [(⟨Ji, vI⟩ : Tok)]).length : Int))) then some ((Bl ++ [(⟨Ji, vI⟩ : Tok)]), (⟨y31, false⟩ : dP)) else (rA (⟨Ji, vI⟩ : Tok) F).bind fun y81 => gJ (jI (Bn + y81)) (gJ (jI ((Bn + y81) - 1)) (Ak ((Bl ++ [(⟨Ji, vI⟩ : Tok)]), ((Bn + y81) - 1), Jh, y31))))
def uR (xA : (Int × Str)) (FP : Int × Bool) (Fj : Int) (tq : Int) (x94 : Bool) : Option (Int × Int) :=
  bif x94 then some (xA.1, FP.1) else some (Fj, tq)
def pM (x29 : Str) (xA : (Int × Str)) (s : Int × Int) : Option (Int × Int) :=
  match s with | (Fj, tq) => (strings_TrimPrefix x29 xA.2).bind fun Nr => (CF Nr).bind fun FP => bif (!FP.2) then (jG (⟨xA.1, FP.1⟩ : Tok)).bind fun rY => uR xA FP Fj tq (decide ((rY : Str) = x29)) else uR xA FP Fj tq false
def FQ (N : Nat) (x29 : Str) (Bl : List Tok) (F : List fB) (y31 : Int) (Bn : Int) (Ak : (List Tok × Int × Bool × Int) → Option (List Tok × dP)) (Jh : Bool) (s : Int × Int) : Option (List Tok × dP) :=
  match s with | (Fj, tq) => again (BN x29 Bl F y31 Bn Ak Jh) N (1, Fj, tq)
def uS (N : Nat) (Bl : List Tok) (F : List fB) (Bn : Int) (Ak : (List Tok × Int × Bool × Int) → Option (List Tok × dP)) (x29 : Str) (Jh : Bool) (y31 : Int) : Option (List Tok × dP) :=
  (zn (pM x29) ([(2, [118]), (4, [46]), (5, [110, 101, 119]), (6, [102]), (1, [])] : List (Int × Str)) (0, 0)).bind fun OT => (FQ N x29 Bl F y31 Bn Ak Jh) OT
def uT (N : Nat) (W : List Str) (F : List fB) (s : List Tok × Int × Bool × Int) (Ak : List Tok × Int × Bool × Int → Option (List Tok × dP)) : Option (List Tok × dP) :=
  match s with | (Bl, Bn, Qy, y20) => bif (decide ((0 : Int) < Bn) && Qy) then bif decide (((W.length : Int) : Int) ≤ y20) then uS N Bl F Bn Ak [] false y20 else gJ (jI (y20 + 1)) (gJ (jI ((y20 + 1) - 1)) ((idx W ((y20 + 1) - 1)).bind fun x103 => uS N Bl F Bn Ak x103 Qy (y20 + 1))) else some (Bl, (⟨y20, Qy⟩ : dP))
def FR (N : Nat) (sx : dP) (W : List Str) (F : List fB) : Option (List Tok × dP) :=
  again (uT N W F) N ([], 1, sx.ok, sx.at_)
theorem LG (N : Nat) (w0 : World) (M : BS) (hM : ∀ b, M b → b < w0.heap.size) (hT : wL Tryz.prog 4 w0) (ba bo bw bwd bf : Nat) (sx : dP) (hC : Chunk.holds w0 M (Chunk.own' (.two (.blk ba [(I6 sx.at_)]) (.blk bo [(.bool (sx.ok))]) : Chunk)) (.two (.blk ba [(I6 sx.at_)]) (.blk bo [(.bool (sx.ok))]) : Chunk)) (hap : ∀ b, Chunk.own' (.two (.blk ba [(I6 sx.at_)]) (.blk bo [(.bool (sx.ok))]) : Chunk) b → ¬ M b) (vW : Value) (W : List Str) (hvW : eX oN w0 (fun b => M b ∨ Chunk.own' (.two (.blk ba [(I6 sx.at_)]) (.blk bo [(.bool (sx.ok))]) : Chunk) b) vW W) (vF : Value) (F : List fB) (hvF : fP jc w0 (Chunk.own' (.two (.blk ba [(I6 sx.at_)]) (.blk bo [(.bool (sx.ok))]) : Chunk)) (fun b => M b ∨ Chunk.own' (.two (.blk ba [(I6 sx.at_)]) (.blk bo [(.bool (sx.ok))]) : Chunk) b) vF F) (hbw : ∃ E, w0.heap[bw]? = some (.cells #[vW] E (0, 0))) (WS : ¬ Chunk.own' (.two (.blk ba [(I6 sx.at_)]) (.blk bo [(.bool (sx.ok))]) : Chunk) bw) (Ns : ∃ E, w0.heap[bwd]? = some (.cells #[(.func (.func 103) #[] #[(.pointer (some ⟨ba, 0, none⟩)), (.pointer (some ⟨bw, 0, none⟩)), (.pointer (some ⟨bo, 0, none⟩))])] E (0, 0))) (JJ : ¬ Chunk.own' (.two (.blk ba [(I6 sx.at_)]) (.blk bo [(.bool (sx.ok))]) : Chunk) bwd) (hbf : ∃ E, w0.heap[bf]? = some (.cells #[vF] E (0, 0))) (WT : ¬ Chunk.own' (.two (.blk ba [(I6 sx.at_)]) (.blk bo [(.bool (sx.ok))]) : Chunk) bf) (hG : ∀ b, Chunk.own' (.two (.blk ba [(I6 sx.at_)]) (.blk bo [(.bool (sx.ok))]) : Chunk) b → Tryz.prog.globals.size ≤ b) (r : List Tok × dP) (hs : FR N sx W F = some r) :
    Calls Tryz.prog 104 #[(.pointer (some ⟨bo, 0, none⟩)), (.pointer (some ⟨bwd, 0, none⟩)), (.pointer (some ⟨bf, 0, none⟩))] w0 (fun e w' => aD (Chunk.own' (.two (.blk ba [(I6 sx.at_)]) (.blk bo [(.bool (sx.ok))]) : Chunk)) w0 w' ∧ ∃ u0, e = .returned (u0) ∧ Chunk.holds w' M (Chunk.own' (.two (.blk ba [.int .i64 r.2.at_]) (.blk bo [.bool r.2.ok]) : Chunk)) (.two (.blk ba [.int .i64 r.2.at_]) (.blk bo [.bool r.2.ok]) : Chunk) ∧ (∀ b, Chunk.own' (.two (.blk ba [.int .i64 r.2.at_]) (.blk bo [.bool r.2.ok]) : Chunk) b → b < w0.heap.size → Chunk.own' (.two (.blk ba [(I6 sx.at_)]) (.blk bo [(.bool (sx.ok))]) : Chunk) b) ∧ eX kR w' (fun b => M b ∨ Chunk.own' (.two (.blk ba [.int .i64 r.2.at_]) (.blk bo [.bool r.2.ok]) : Chunk) b) u0 r.1) := by
 refine aL (args := [(.pointer (some ⟨bo, 0, none⟩)), (.pointer (some ⟨bwd, 0, none⟩)), (.pointer (some ⟨bf, 0, none⟩))]) Tryz.func104 rfl Tryz.ntmps104 (bC rfl) ?_
 have h := SH.Ci hM hC hap
 replace h := h.yw 3 hvW ze
 replace h := h.VN 4 hvF (uJ ze)
 replace h := h.BD 5 (cs := [vW]) hbw WS (zo (uJ ze))
 replace h := h.BD 6 (cs := [(.func (.func 103) #[] #[(.pointer (some ⟨ba, 0, none⟩)), (.pointer (some ⟨bw, 0, none⟩)), (.pointer (some ⟨bo, 0, none⟩))])]) Ns JJ (ry (zo (uJ ze)))
 replace h := h.BD 7 (cs := [vF]) hbf WT (ry (ry (zo (uJ ze))))
 have Qz := WS
 have JK := JJ
 have QA := WT
 generalize yB : (.two (.blk ba [(I6 sx.at_)]) (.blk bo [(.bool (sx.ok))]) : Chunk).own' = K0 at h Qz JK QA hG
 replace h := h.bN 1 2 (by decide) rfl rfl
 refine nG (aa (ae (v := (.slice none 0 0)) rfl) (nJ (aa (ae (v := (.slice none 0 0)) rfl) (nK (aa (ae (v := (I6 1)) rfl) (nN (aP ?_)))))))
 replace h := h.zb (R := kR) (E := 160) 11
 refine fT (σ := Nat × Value × List Tok × Int × Bool × Int) (inl (rg 4 76)) (fun ⟨m24, v16, Bl, Bn, Qy, y20⟩ => [(4, v16), (5, (I6 Bn))]) (fun ⟨m24, v16, Bl, Bn, Qy, y20⟩ w => SH w0 M K0 w (hset [(1, .blk ba [(I6 y20)]), (2, .blk bo [(.bool (Qy))]), (3, .rd oN vW W), (4, .sr jc vF F), (5, .pt bw 0 [vW]), (6, .pt bwd 0 [(.func (.func 103) #[] #[(.pointer (some ⟨ba, 0, none⟩)), (.pointer (some ⟨bw, 0, none⟩)), (.pointer (some ⟨bo, 0, none⟩))])]), (7, .pt bf 0 [vF]), (11, .own kR 160 v16 Bl)]) ∧ again (uT N W F) m24 (Bl, Bn, Qy, y20) = some r) (fun ⟨m24, v16, Bl, Bn, Qy, y20⟩ => m24) ⟨N, (.slice none 0 0), [], 1, sx.ok, sx.at_⟩ ⟨rfl, rfl, trivial⟩ ?_ ?_
 exact ⟨h.cn _, hs⟩
 rintro ⟨m24, v16, Bl, Bn, Qy, y20⟩ w dz ⟨h, hs⟩
 obtain ⟨m241, m24e, m24h⟩ := og hs
 subst m24e
 replace hs := m24h
 generalize Wp : again (uT N W F) m241 = Ak at hs
 refine aO (nG (aa (ah (v := (I6 Bn)) rfl) (aa (j5 rfl rfl) (aa (ah (v := (.bool (decide ((0 : Int) < Bn)))) rfl) (aC rfl rfl (fun q => aA h 2 rfl xz rfl rfl) (aa (gP rfl rfl nQ) (nN (aH hs rfl (fun c28 hs => ?_) (fun c28 hs => ?_)))))))))
 refine aI (ak (aO (aP (bX (σ := Str × Bool × Int) (inl [6, 20, 21]) (fun ⟨x29, Jh, y31⟩ => [(6, (aV x29))]) (fun ⟨x29, Jh, y31⟩ w => SH w0 M K0 w (hset [(1, .blk ba [(I6 y31)]), (2, .blk bo [(.bool (Jh))]), (3, .rd oN vW W), (4, .sr jc vF F), (5, .pt bw 0 [vW]), (6, .pt bwd 0 [(.func (.func 103) #[] #[(.pointer (some ⟨ba, 0, none⟩)), (.pointer (some ⟨bw, 0, none⟩)), (.pointer (some ⟨bo, 0, none⟩))])]), (7, .pt bf 0 [vF]), (11, .own kR 160 v16 Bl)]) ∧ uS N Bl F Bn Ak x29 Jh y31 = some r) ?_ ?_))))
 rintro ⟨x29, Jh, y31⟩ w dz ⟨h, hs⟩
 refine nG (aa (dH (pv := []) (out := [(I6 0), (I6 0)]) Ai rfl rfl) (bO h 12 kD fun w b32 h => dn (vs := [(I6 0), (I6 0)]) h 12 [(I6 0), (I6 0)] rfl kD rfl rfl rfl rfl rfl (ai rfl (ai rfl aT)) fun w h => nK (Dv h 13 fun w b33 h => oh (qz := [(2, (aV [118]))]) h 13 rfl lv rfl rfl rfl rfl fun w h => oh (qz := [(2, (aV [118])), (4, (aV [46]))]) h 13 rfl lv rfl rfl rfl rfl fun w h => oh (qz := [(2, (aV [118])), (4, (aV [46])), (5, (aV [110, 101, 119]))]) h 13 rfl lv rfl rfl rfl rfl fun w h => oh (qz := [(2, (aV [118])), (4, (aV [46])), (5, (aV [110, 101, 119])), (6, (aV [102]))]) h 13 rfl lv rfl rfl rfl rfl fun w h => oh (qz := [(2, (aV [118])), (4, (aV [46])), (5, (aV [110, 101, 119])), (6, (aV [102])), (1, (aV []))]) h 13 rfl lv rfl rfl rfl rfl fun w h => aa (ah (v := (.map (some b33))) rfl) (YH (f := aV) ([(2, [118]), (4, [46]), (5, [110, 101, 119]), (6, [102]), (1, [])] : List (Int × Str)) h 13 rfl lv rfl rfl fun w b34 h => nN (aP ?_)))))
 obtain ⟨OT, QB, hs⟩ := aJ hs
 replace QB := o_fold QB
 refine fT (σ := List (Int × Str) × Int × Int) (inl ([8, 9, 10, 11] ++ rg 26 25)) (fun ⟨lf43, Fj, tq⟩ => []) (fun ⟨lf43, Fj, tq⟩ w => SH w0 M K0 w (hset [(1, .blk ba [(I6 y31)]), (2, .blk bo [(.bool (Jh))]), (3, .rd oN vW W), (4, .sr jc vF F), (5, .pt bw 0 [vW]), (6, .pt bwd 0 [(.func (.func 103) #[] #[(.pointer (some ⟨ba, 0, none⟩)), (.pointer (some ⟨bw, 0, none⟩)), (.pointer (some ⟨bo, 0, none⟩))])]), (7, .pt bf 0 [vF]), (11, .own kR 160 v16 Bl), (12, .blk b32 [(I6 Fj), (I6 tq)]), (13, .ib (KY aV b33 b34 none lf43))]) ∧ sN (pM x29) lf43 (Fj, tq) OT) (fun ⟨lf43, Fj, tq⟩ => lf43.length) ⟨([(2, [118]), (4, [46]), (5, [110, 101, 119]), (6, [102]), (1, [])] : List (Int × Str)), 0, 0⟩ trivial ?_ ?_
 exact ⟨h.cn _, QB⟩
 rintro ⟨lf43, Fj, tq⟩ w dz ⟨h, hf⟩
 refine nG ?_
 refine w_next h 13 rfl rfl (fun e48 => ?_) (fun xA lr46 w e48 h => ?_)
 obtain rfl := sN.nil (e48 ▸ hf)
 refine aa (aY rfl rfl) (nN ?_)
 refine aO (wc_iff rfl (iT (bK (bK (dU (ak (aO (nG (aa (ae (v := (I6 1)) rfl) (nN (aP (fT (σ := Nat × Int × Int × Int) (inl ([12] ++ rg 51 11)) (fun ⟨m64, za, Ji, vI⟩ => [(12, (I6 za))]) (fun ⟨m64, za, Ji, vI⟩ w => SH w0 M K0 w (hset [(1, .blk ba [(I6 y31)]), (2, .blk bo [(.bool (Jh))]), (3, .rd oN vW W), (4, .sr jc vF F), (5, .pt bw 0 [vW]), (6, .pt bwd 0 [(.func (.func 103) #[] #[(.pointer (some ⟨ba, 0, none⟩)), (.pointer (some ⟨bw, 0, none⟩)), (.pointer (some ⟨bo, 0, none⟩))])]), (7, .pt bf 0 [vF]), (11, .own kR 160 v16 Bl), (12, .blk b32 [(I6 Ji), (I6 vI)])]) ∧ again (BN x29 Bl F y31 Bn Ak Jh) m64 (za, Ji, vI) = some r) (fun ⟨m64, za, Ji, vI⟩ => m64) ⟨N, 1, Fj, tq⟩ ⟨rfl, trivial⟩ ?_ ?_))))))))))))
 exact ⟨h.cn _, hs⟩
 rintro ⟨m64, za, Ji, vI⟩ w dz ⟨h, hs⟩
 obtain ⟨m641, m64e, m64h⟩ := og hs
 subst m64e
 replace hs := m64h
 generalize WU : again (BN x29 Bl F y31 Bn Ak Jh) m641 = Nq at hs
 refine aO (nG (aa (ah (v := (I6 za)) rfl) (aa (Fs rfl rfl) (nN (aH hs rfl (fun QC hs => ?_) (fun QC hs => ?_))))))
 refine aI (ak (bX (σ := Int × Int) (inl (rg 55 7)) (fun ⟨BM, Bj⟩ => []) (fun ⟨BM, Bj⟩ w => SH w0 M K0 w (hset [(1, .blk ba [(I6 y31)]), (2, .blk bo [(.bool (Jh))]), (3, .rd oN vW W), (4, .sr jc vF F), (5, .pt bw 0 [vW]), (6, .pt bwd 0 [(.func (.func 103) #[] #[(.pointer (some ⟨ba, 0, none⟩)), (.pointer (some ⟨bw, 0, none⟩)), (.pointer (some ⟨bo, 0, none⟩))])]), (7, .pt bf 0 [vF]), (11, .own kR 160 v16 Bl), (12, .blk b32 [(I6 BM), (I6 Bj)])]) ∧ BL za Nq BM Bj = some r) ?_ ?_))
 rintro ⟨BM, Bj⟩ w dz ⟨h, hs⟩
 refine aB (aa (ah (v := (I6 za)) rfl) ?_)
 obtain ⟨a71, hs⟩ := bu hs
 refine aa (dm rfl rfl a71) (aa (ae (v := (I6 ((za + 1)))) rfl) (ay (au ?_)))
 subst WU
 exact jQ ⟨m641, (za + 1), BM, Bj⟩ ⟨h.cn _, hs⟩
 refine aP (nG (aa (ah (v := (I6 za)) rfl) (aa (dH (pv := [(0, (I6 3)), (1, (I6 za))]) (out := [(I6 3), (I6 za)]) Ai rfl ⟨0, 1, [(I6 3)], rfl, rfl, rfl, bC rfl, ⟨1, 1, [(I6 za)], rfl, rfl, rfl, bC rfl, rfl⟩⟩) ?_)))
 obtain ⟨Jj, e73, hs⟩ := aJ hs
 refine aR Nb rfl rfl (ql _ _ h.lt (hT.VE h.keep hG) (⟨3, za⟩ : Tok) _ e73) ?_
 rintro _ w ⟨k74, rfl⟩
 refine ⟨_, rfl, ?_⟩
 replace h := h.grow k74
 refine aa (ah (v := (aV x29)) rfl) (aa (Gx rfl rfl) (nN (aH hs rfl (fun c75 hs => ?_) (fun c75 hs => ?_))))
 refine aB (aa (ah (v := (I6 za)) rfl) (aa (dH (pv := [(0, (I6 3)), (1, (I6 za))]) (out := [(I6 3), (I6 za)]) Ai rfl ⟨0, 1, [(I6 3)], rfl, rfl, rfl, bC rfl, ⟨1, 1, [(I6 za)], rfl, rfl, rfl, bC rfl, rfl⟩⟩) (dn (vs := [(I6 3), (I6 za)]) h 12 [(I6 3), (I6 za)] rfl kD rfl rfl rfl rfl rfl (ai rfl (ai rfl aT)) fun w h => ay (ax (au ?_)))))
 exact bP (3, za) ⟨h.cn _, hs⟩
 refine aI (ax (au ?_))
 exact bP (Ji, vI) ⟨h.cn _, hs⟩
 refine iT (bK (bK (dU (ak (aO (nG (aa (ah (v := v16) rfl) (aa (dh (vs := [(I6 Ji), (I6 vI)]) h 12 rfl kD rfl rfl rfl) (sV (R := kR) (vs := [(.agg #[(I6 Ji), (I6 vI)])]) (xs := [(⟨Ji, vI⟩ : Tok)]) h 14 LA rfl rfl rfl ⟨rfl, trivial⟩ rfl fun w u76 h => ?_)))))))))
 obtain ⟨a77, hs⟩ := bu hs
 refine lg (R := kR) (m := [(⟨Ji, vI⟩ : Tok)]) h 11 rfl (h.dG 14 rfl) LA rfl rfl rfl a77.1 a77.2 fun w KV h => aa (ae (v := KV) rfl) (nJ (aa (dh (vs := [(I6 Ji), (I6 vI)]) h 12 rfl kD rfl rfl rfl) (aa (eU (k := 0) h 7 rfl Ag rfl rfl) (aR Sa rfl rfl (uM _ _ h.lt (⟨Ji, vI⟩ : Tok) vF F (h.iM 4 rfl) 6 _ rfl) ?_))))
 rintro _ w ⟨k79, rfl⟩
 refine ⟨_, rfl, ?_⟩
 replace h := h.grow k79
 refine aa (iP rfl rfl) (aa (ah (v := (.bool (decide (((eO (⟨Ji, vI⟩ : Tok) F 6) : Int) ≠ 0)))) rfl) (aC rfl rfl (fun q => ah (v := KV) rfl) (aC rfl rfl (fun q => bT kI (dE q) (h.dG 11 rfl)) (aC rfl rfl (fun q => j5 (dE q) rfl) (aa (iy rfl rfl nQ) (nN (aH hs rfl (fun c80 hs => ?_) (fun c80 hs => ?_))))))))
 refine nG (eH h 2 [(.bool (false))] rfl xz rfl rfl rfl rfl rfl fun w h => nN (iT (bK (yt (by decide) (bK (bK (dU (ak (nG (aa (ah (v := KV) rfl) (aa (ae (v := KV) rfl) (nR (bR (v := KV) Tryz.results104 rfl ?_)))))))))))))
 replace h := h.freeze 11 rfl
 replace h := h.pair 1 2 (by decide)
 obtain rfl := fI hs
 subst yB
 obtain ⟨o1, o2, o3⟩ := h.o8 1 (C := (.two (.blk ba [(I6 y31)]) (.blk bo [(.bool (false))]) : Chunk)) rfl ⟨trivial, trivial⟩
 exact ⟨o2, KV, rfl, o1, o3, h.BC 1 11 rfl rfl⟩
 refine aI (ak (aB (aa (ah (v := (I6 Bn)) rfl) (aa (dh (vs := [(I6 Ji), (I6 vI)]) h 12 rfl kD rfl rfl rfl) (aa (eU (k := 0) h 7 rfl Ag rfl rfl) ?_)))))
 obtain ⟨y81, e82, hs⟩ := aJ hs
 refine aR Nc rfl rfl (sW _ _ h.lt (⟨Ji, vI⟩ : Tok) vF F (h.iM 4 rfl) _ e82) ?_
 rintro _ w ⟨k83, rfl⟩
 refine ⟨_, rfl, ?_⟩
 replace h := h.grow k83
 obtain ⟨a84, hs⟩ := bu hs
 refine aa (dm rfl rfl a84) (aa (ae (v := (I6 ((Bn + y81)))) rfl) (ay (ax (ak (aB (aa (ah (v := (I6 ((Bn + y81)))) rfl) ?_))))))
 obtain ⟨a85, hs⟩ := bu hs
 refine aa (oO rfl rfl a85) (aa (ae (v := (I6 (((Bn + y81) - 1)))) rfl) (ay (au ?_)))
 subst Wp
 exact jQ ⟨m241, KV, (Bl ++ [(⟨Ji, vI⟩ : Tok)]), ((Bn + y81) - 1), Jh, y31⟩ ⟨h.cn _, hs⟩
 obtain ⟨sr47, hs1, hf1⟩ := hf.cons e48
 replace hs := hs1
 refine aa (aY rfl rfl) (nN ?_)
 refine aO (wc_ift rfl (aI (ak ?_)))
 refine aP (nG (aa (YI (f := aV) h 13 rfl rfl) (aa (aY rfl rfl) (aa (aY rfl rfl) (aa (ae (v := (I6 xA.1)) rfl) (aa (ae (v := (aV xA.2)) rfl) (nJ (aa (ah (v := (aV x29)) rfl) (aa (ah (v := (aV xA.2)) rfl) ?_)))))))))
 obtain ⟨Nr, e87, hs⟩ := aJ hs
 refine aR YR rfl rfl (CO _ _ h.lt x29 xA.2 _ e87) ?_
 rintro _ w ⟨k88, rfl⟩
 refine ⟨_, rfl, ?_⟩
 replace h := h.grow k88
 obtain ⟨FP, e90, hs⟩ := aJ hs
 refine aR FK rfl rfl (qJ _ _ h.lt (hT.VE h.keep hG) Nr _ e90) ?_
 rintro _ w ⟨k93, u91, rfl, g92⟩
 refine ⟨_, rfl, ?_⟩
 replace h := h.grow k93
 refine aa (ah (v := (.tuple #[(I6 FP.1), u91])) rfl) (aa (aY rfl rfl) (aa (aY rfl rfl) (aa (ae (v := (I6 FP.1)) rfl) (aa (ae (v := u91) rfl) (nN (bX (σ := Bool) (inl (rg 38 10)) (fun x94 => [(47, (.bool (x94)))]) (fun x94 w => SH w0 M K0 w (hset [(1, .blk ba [(I6 y31)]), (2, .blk bo [(.bool (Jh))]), (3, .rd oN vW W), (4, .sr jc vF F), (5, .pt bw 0 [vW]), (6, .pt bwd 0 [(.func (.func 103) #[] #[(.pointer (some ⟨ba, 0, none⟩)), (.pointer (some ⟨bw, 0, none⟩)), (.pointer (some ⟨bo, 0, none⟩))])]), (7, .pt bf 0 [vF]), (11, .own kR 160 v16 Bl), (12, .blk b32 [(I6 Fj), (I6 tq)]), (13, .ib (KY aV b33 b34 (some xA) lr46))]) ∧ uR xA FP Fj tq x94 = some sr47) ?_ ?_))))))
 rintro x94 w dz ⟨h, hs⟩
 refine aH hs rfl (fun c95 hs => ?_) (fun c95 hs => ?_)
 refine aB (aa (ah (v := (I6 xA.1)) rfl) (aa (ah (v := (I6 FP.1)) rfl) (aa (dH (pv := [(0, (I6 xA.1)), (1, (I6 FP.1))]) (out := [(I6 xA.1), (I6 FP.1)]) Ai rfl ⟨0, 1, [(I6 xA.1)], rfl, rfl, rfl, bC rfl, ⟨1, 1, [(I6 FP.1)], rfl, rfl, rfl, bC rfl, rfl⟩⟩) (dn (vs := [(I6 xA.1), (I6 FP.1)]) h 12 [(I6 xA.1), (I6 FP.1)] rfl kD rfl rfl rfl rfl rfl (ai rfl (ai rfl aT)) fun w h => ay (ax (au ?_))))))
 replace h := h.Lu 13 rfl
 obtain rfl := fI hs
 exact jQ ⟨lr46, xA.1, FP.1⟩ ⟨h.cn _, hf1⟩ (by have := e48.length_eq; simp only [List.length_cons] at this; dsimp only; omega)
 refine aI (ax (au ?_))
 replace h := h.Lu 13 rfl
 obtain rfl := fI hs
 exact jQ ⟨lr46, Fj, tq⟩ ⟨h.cn _, hf1⟩ (by have := e48.length_eq; simp only [List.length_cons] at this; dsimp only; omega)
 refine aB (aa (ah (v := u91) rfl) (aa (Tk Tv rfl g92 rfl) (aa (ah (v := (.bool ((!FP.2)))) rfl) (jL (b := (!FP.2)) hs (fun QD hs => ?_) (fun QD hs => ?_)))))
 refine dX rfl (cB QD) (aa (ah (v := (I6 xA.1)) rfl) (dX rfl (cB QD) (aa (ah (v := (I6 FP.1)) rfl) (dX rfl (cB QD) (aa (dH (pv := [(0, (I6 xA.1)), (1, (I6 FP.1))]) (out := [(I6 xA.1), (I6 FP.1)]) Ai rfl ⟨0, 1, [(I6 xA.1)], rfl, rfl, rfl, bC rfl, ⟨1, 1, [(I6 FP.1)], rfl, rfl, rfl, bC rfl, rfl⟩⟩) (dX rfl (cB QD) ?_))))))
 obtain ⟨rY, e98, hs⟩ := aJ hs
 refine aR Nb rfl rfl (ql _ _ h.lt (hT.VE h.keep hG) (⟨xA.1, FP.1⟩ : Tok) _ e98) ?_
 rintro _ w ⟨k99, rfl⟩
 refine ⟨_, rfl, ?_⟩
 replace h := h.grow k99
 refine dX rfl (cB QD) (aa (ah (v := (aV x29)) rfl) (dX rfl (cB QD) (aa (Gx rfl rfl) (aa (dJ (b := true) (v := (.bool (decide ((rY : Str) = x29)))) (cB QD) rfl) (ay (au ?_))))))
 exact bP (decide ((rY : Str) = x29)) ⟨h.cn _, hs⟩
 refine yx rfl (cB QD) rfl (yx rfl (cB QD) rfl (yx rfl (cB QD) rfl (yx rfl (cB QD) rfl (yx rfl (cB QD) rfl (yx rfl (cB QD) rfl (aa (dJ (b := false) (v := (.bool (false))) (cB QD) rfl) (ay (au ?_))))))))
 exact bP false ⟨h.cn _, hs⟩
 refine aB (aa (eU (k := 0) h 6 rfl BJ rfl rfl) (jP (args := [(.pointer (some ⟨ba, 0, none⟩)), (.pointer (some ⟨bw, 0, none⟩)), (.pointer (some ⟨bo, 0, none⟩))]) BH rfl rfl (aL (args := [(.pointer (some ⟨ba, 0, none⟩)), (.pointer (some ⟨bw, 0, none⟩)), (.pointer (some ⟨bo, 0, none⟩))]) Tryz.func103 rfl Tryz.ntmps103 (bC rfl) (nG (aa (ae (v := (aV [])) rfl) (nK (aa (aA h 1 rfl aU rfl rfl) (aa (eU (k := 0) h 5 rfl nM rfl rfl) (aa (bT fe rfl (h.mM 3 rfl)) (aa (qy rfl rfl) (nN (aH hs rfl (fun c100 hs => ?_) (fun c100 hs => ?_)))))))))))))
 refine nG (eH h 2 [(.bool (false))] rfl xz rfl rfl rfl rfl rfl fun w h => nJ (aa (ae (v := (aV [])) rfl) (nR (az (bR (v := (aV [])) Tryz.results103 rfl (⟨_, rfl, ?_⟩))))))
 refine aa (ae (v := (aV [])) rfl) (ay (au ?_))
 exact bP ([], false, y20) ⟨h.cn _, hs⟩
 refine nS (aa (aA h 1 rfl aU rfl rfl) ?_)
 obtain ⟨Y3, hs⟩ := bu hs
 refine aa (dm rfl rfl Y3) (eH h 1 [(I6 ((y20 + 1)))] rfl aU rfl rfl rfl rfl rfl fun w h => nJ (aa (eU (k := 0) h 5 rfl nM rfl rfl) (aa (aA h 1 rfl aU rfl rfl) ?_)))
 obtain ⟨a102, hs⟩ := bu hs
 refine aa (oO rfl rfl a102) ?_
 obtain ⟨x103, Y4, hs⟩ := aJ hs
 obtain ⟨b106, o107, cs108, h, r109, i105⟩ := h.Fw 3 15 rfl fe rfl (aG Y4).1 (aG Y4).2
 obtain rfl := r109
 refine aa (i105 _ _ _ _ _ _ _ _ _ rfl rfl) (aa (eU (k := 0) h 15 rfl Ah rfl rfl) (aa (ae (v := (aV x103)) rfl) (nR (bR (v := (aV x103)) Tryz.results103 rfl (⟨_, rfl, ?_⟩)))))
 refine aa (ae (v := (aV x103)) rfl) (ay (au ?_))
 exact bP (x103, Qy, (y20 + 1)) ⟨h.cn _, hs⟩
 refine nE (aa (ah (v := v16) rfl) (aa (ae (v := v16) rfl) (nR (bR (v := v16) Tryz.results104 rfl ?_))))
 replace h := h.freeze 11 rfl
 replace h := h.pair 1 2 (by decide)
 obtain rfl := fI hs
 subst yB
 obtain ⟨o1, o2, o3⟩ := h.o8 1 (C := (.two (.blk ba [(I6 y20)]) (.blk bo [(.bool (Qy))]) : Chunk)) rfl ⟨trivial, trivial⟩
 exact ⟨o2, v16, rfl, o1, o3, h.BC 1 11 rfl rfl⟩
def BO (nW : List bB) (mJ : Int) (zX : Int) (rR : List Tok) (vG : List Tok) (QE : List bB) (l7 : (List bB × Int × Bool) → Option (List bB × dP)) (y57 : Int) (y58 : Bool) (vI : List bB) : Option (List bB × dP) :=
  gJ (Room 112 nW [(⟨(mJ + 1), zX, rR, vG, QE, vI⟩ : bB)]) (l7 ((nW ++ [(⟨(mJ + 1), zX, rR, vG, QE, vI⟩ : bB)]), y57, y58))
def BP (F0 : dP → List Str → List fB → Int → Option (List bB × dP)) (mJ : Int) (a : Int) (W : List Str) (F : List fB) (nW : List bB) (zX : Int) (rR : List Tok) (vG : List Tok) (l7 : (List bB × Int × Bool) → Option (List bB × dP)) (OD : Int) (Vk : Bool) (QE : List bB) : Option (List bB × dP) :=
  bif decide (((mJ + 1) : Int) = 6) then gJ (jI (a + 1)) ((F0 (⟨OD, Vk⟩ : dP) W F (a + 1)).bind fun wE => BO nW mJ zX rR vG QE l7 wE.2.at_ wE.2.ok wE.1) else BO nW mJ zX rR vG QE l7 OD Vk []
def uU (F0 : dP → List Str → List fB → Int → Option (List bB × dP)) (mJ : Int) (a : Int) (W : List Str) (F : List fB) (nW : List bB) (zX : Int) (rR : List Tok) (l7 : (List bB × Int × Bool) → Option (List bB × dP)) (El : Int) (tY : Bool) (vG : List Tok) : Option (List bB × dP) :=
  bif (decide (((mJ + 1) : Int) = 6) || decide (((mJ + 1) : Int) = 7)) then gJ (jI (a + 1)) ((F0 (⟨El, tY⟩ : dP) W F (a + 1)).bind fun Y5 => BP F0 mJ a W F nW zX rR vG l7 Y5.2.at_ Y5.2.ok Y5.1) else BP F0 mJ a W F nW zX rR vG l7 El tY []
def uV (N : Nat) (F0 : dP → List Str → List fB → Int → Option (List bB × dP)) (mJ : Int) (W : List Str) (F : List fB) (a : Int) (nW : List bB) (zX : Int) (l7 : (List bB × Int × Bool) → Option (List bB × dP)) (QF : Int) (QG : Bool) (rR : List Tok) : Option (List bB × dP) :=
  bif decide (((mJ + 1) : Int) = 2) then (FR N (⟨QF, QG⟩ : dP) W F).bind fun Nr => uU F0 mJ a W F nW zX rR l7 Nr.2.at_ Nr.2.ok Nr.1 else uU F0 mJ a W F nW zX rR l7 QF QG []
def rC (N : Nat) (F0 : dP → List Str → List fB → Int → Option (List bB × dP)) (mJ : Int) (W : List Str) (F : List fB) (a : Int) (nW : List bB) (l7 : (List bB × Int × Bool) → Option (List bB × dP)) (tq : Int) (BK : Bool) (zX : Int) : Option (List bB × dP) :=
  bif decide (((mJ + 1) : Int) ≠ 4) then (FR N (⟨tq, BK⟩ : dP) W F).bind fun y95 => uV N F0 mJ W F a nW zX l7 y95.2.at_ y95.2.ok y95.1 else uV N F0 mJ W F a nW zX l7 tq BK []
def uW (N : Nat) (F0 : dP → List Str → List fB → Int → Option (List bB × dP)) (nW : List bB) (W : List Str) (F : List fB) (a : Int) (l7 : (List bB × Int × Bool) → Option (List bB × dP)) (x27 : Str) (y28 : Int) (y29 : Bool) : Option (List bB × dP) :=
  bif decide ((x27 : Str) = [125]) then some (nW, (⟨y28, y29⟩ : dP)) else (FC [115, 101, 116, 32, 112, 117, 116, 32, 115, 97, 121, 32, 112, 97, 117, 115, 101, 32, 103, 111, 32, 105, 102, 32, 119, 104, 105, 108, 101, 32, 114, 101, 116, 117, 114, 110]).bind fun y31 => (slices_Index_string y31 x27).bind fun mJ => gJ (jI (mJ + 1)) (bif (!(y29 && decide ((0 : Int) < (mJ + 1)))) then some ([], (⟨y28, (y29 && decide ((0 : Int) < (mJ + 1)))⟩ : dP)) else bif decide (((mJ + 1) : Int) ≤ 2) then bif decide (((W.length : Int) : Int) ≤ y28) then (CF []).bind fun y104 => rC N F0 mJ W F a nW l7 y28 false y104.1 else gJ (jI (y28 + 1)) (gJ (jI ((y28 + 1) - 1)) ((idx W ((y28 + 1) - 1)).bind fun QH => (CF QH).bind fun QI => rC N F0 mJ W F a nW l7 (y28 + 1) (y29 && decide ((0 : Int) < (mJ + 1))) QI.1)) else rC N F0 mJ W F a nW l7 y28 (y29 && decide ((0 : Int) < (mJ + 1))) 0)
def uX (N : Nat) (F0 : dP → List Str → List fB → Int → Option (List bB × dP)) (W : List Str) (F : List fB) (a : Int) (s : List bB × Int × Bool) (l7 : List bB × Int × Bool → Option (List bB × dP)) : Option (List bB × dP) :=
  match s with | (nW, I5, KU) => bif KU then bif decide (((W.length : Int) : Int) ≤ I5) then uW N F0 nW W F a l7 [] I5 false else gJ (jI (I5 + 1)) (gJ (jI ((I5 + 1) - 1)) ((idx W ((I5 + 1) - 1)).bind fun JM => uW N F0 nW W F a l7 JM (I5 + 1) KU)) else some ([], (⟨I5, KU⟩ : dP))
def wT (N : Nat) (F0 : dP → List Str → List fB → Int → Option (List bB × dP)) (W : List Str) (F : List fB) (a : Int) (y1 : Int) (y2 : Bool) : Option (List bB × dP) :=
  again (uX N F0 W F a) N ([], y1, y2)
def uY (N : Nat) (F0 : dP → List Str → List fB → Int → Option (List bB × dP)) (W : List Str) (F : List fB) (a : Int) (Ex : Bool) (I7 : Int) (Nt : Bool) : Option (List bB × dP) :=
  bif Ex then wT N F0 W F a I7 false else wT N F0 W F a I7 Nt
def yC (N : Nat) (F0 : dP → List Str → List fB → Int → Option (List bB × dP)) (sx : dP) (W : List Str) (F : List fB) (a : Int) : Option (List bB × dP) :=
  bif decide (((W.length : Int) : Int) ≤ sx.at_) then uY N F0 W F a true sx.at_ false else gJ (jI (sx.at_ + 1)) (gJ (jI ((sx.at_ + 1) - 1)) ((idx W ((sx.at_ + 1) - 1)).bind fun OU => uY N F0 W F a (decide ((OU : Str) ≠ [123]) || decide ((6 : Int) < a)) (sx.at_ + 1) sx.ok))
def wU : Nat → dP → List Str → List fB → Int → Option (List bB × dP)
  | 0 => fun _ _ _ _ => none
  | N + 1 => yC N (wU N)
theorem QJ : ∀ (N : Nat) (w0 : World) (M : BS) (hM : ∀ b, M b → b < w0.heap.size) (hT : wL Tryz.prog 4 w0) (ba bo bw bwd bf be bb : Nat) (sx : dP) (hC : Chunk.holds w0 M (Chunk.own' (.two (.blk ba [(I6 sx.at_)]) (.blk bo [(.bool (sx.ok))]) : Chunk)) (.two (.blk ba [(I6 sx.at_)]) (.blk bo [(.bool (sx.ok))]) : Chunk)) (hap : ∀ b, Chunk.own' (.two (.blk ba [(I6 sx.at_)]) (.blk bo [(.bool (sx.ok))]) : Chunk) b → ¬ M b) (vW : Value) (W : List Str) (hvW : eX oN w0 (fun b => M b ∨ Chunk.own' (.two (.blk ba [(I6 sx.at_)]) (.blk bo [(.bool (sx.ok))]) : Chunk) b) vW W) (vF : Value) (F : List fB) (hvF : fP jc w0 (Chunk.own' (.two (.blk ba [(I6 sx.at_)]) (.blk bo [(.bool (sx.ok))]) : Chunk)) (fun b => M b ∨ Chunk.own' (.two (.blk ba [(I6 sx.at_)]) (.blk bo [(.bool (sx.ok))]) : Chunk) b) vF F) (hbw : ∃ E, w0.heap[bw]? = some (.cells #[vW] E (0, 0))) (WS : ¬ Chunk.own' (.two (.blk ba [(I6 sx.at_)]) (.blk bo [(.bool (sx.ok))]) : Chunk) bw) (Ns : ∃ E, w0.heap[bwd]? = some (.cells #[(.func (.func 103) #[] #[(.pointer (some ⟨ba, 0, none⟩)), (.pointer (some ⟨bw, 0, none⟩)), (.pointer (some ⟨bo, 0, none⟩))])] E (0, 0))) (JJ : ¬ Chunk.own' (.two (.blk ba [(I6 sx.at_)]) (.blk bo [(.bool (sx.ok))]) : Chunk) bwd) (hbf : ∃ E, w0.heap[bf]? = some (.cells #[vF] E (0, 0))) (WT : ¬ Chunk.own' (.two (.blk ba [(I6 sx.at_)]) (.blk bo [(.bool (sx.ok))]) : Chunk) bf) (hbe : ∃ E, w0.heap[be]? = some (.cells #[(.func (.func 104) #[] #[(.pointer (some ⟨bo, 0, none⟩)), (.pointer (some ⟨bwd, 0, none⟩)), (.pointer (some ⟨bf, 0, none⟩))])] E (0, 0))) (nbe : ¬ Chunk.own' (.two (.blk ba [(I6 sx.at_)]) (.blk bo [(.bool (sx.ok))]) : Chunk) be) (hbb : ∃ E, w0.heap[bb]? = some (.cells #[(.func (.func 109) #[] #[(.pointer (some ⟨bwd, 0, none⟩)), (.pointer (some ⟨bo, 0, none⟩)), (.pointer (some ⟨be, 0, none⟩)), (.pointer (some ⟨bb, 0, none⟩))])] E (0, 0))) (nbb : ¬ Chunk.own' (.two (.blk ba [(I6 sx.at_)]) (.blk bo [(.bool (sx.ok))]) : Chunk) bb) (a : Int) (hG : ∀ b, Chunk.own' (.two (.blk ba [(I6 sx.at_)]) (.blk bo [(.bool (sx.ok))]) : Chunk) b → Tryz.prog.globals.size ≤ b) (r : List bB × dP) (hs : wU N sx W F a = some r),
    Calls Tryz.prog 109 #[(I6 a), (.pointer (some ⟨bwd, 0, none⟩)), (.pointer (some ⟨bo, 0, none⟩)), (.pointer (some ⟨be, 0, none⟩)), (.pointer (some ⟨bb, 0, none⟩))] w0 (fun e w' => aD (Chunk.own' (.two (.blk ba [(I6 sx.at_)]) (.blk bo [(.bool (sx.ok))]) : Chunk)) w0 w' ∧ ∃ u0, e = .returned (u0) ∧ Chunk.holds w' M (Chunk.own' (.two (.blk ba [.int .i64 r.2.at_]) (.blk bo [.bool r.2.ok]) : Chunk)) (.two (.blk ba [.int .i64 r.2.at_]) (.blk bo [.bool r.2.ok]) : Chunk) ∧ (∀ b, Chunk.own' (.two (.blk ba [.int .i64 r.2.at_]) (.blk bo [.bool r.2.ok]) : Chunk) b → b < w0.heap.size → Chunk.own' (.two (.blk ba [(I6 sx.at_)]) (.blk bo [(.bool (sx.ok))]) : Chunk) b) ∧ eX eZ w' (fun b => M b ∨ Chunk.own' (.two (.blk ba [.int .i64 r.2.at_]) (.blk bo [.bool r.2.ok]) : Chunk) b) u0 r.1) := by
 intro N
 induction N with
 | zero => intro w0 M hM hT ba bo bw bwd bf be bb sx hC hap vW W hvW vF F hvF hbw WS Ns JJ hbf WT hbe nbe hbb nbb a hG r hs; cases hs
 | succ N ih =>
 intro w0 M hM hT ba bo bw bwd bf be bb sx hC hap vW W hvW vF F hvF hbw WS Ns JJ hbf WT hbe nbe hbb nbb a hG r hs
 replace hs : yC N (wU N) sx W F a = some r := hs
 generalize wU N = F0 at hs ih
 refine aL (args := [(I6 a), (.pointer (some ⟨bwd, 0, none⟩)), (.pointer (some ⟨bo, 0, none⟩)), (.pointer (some ⟨be, 0, none⟩)), (.pointer (some ⟨bb, 0, none⟩))]) Tryz.func109 rfl Tryz.ntmps109 (bC rfl) ?_
 have h := SH.Ci hM hC hap
 replace h := h.yw 3 hvW ze
 replace h := h.VN 4 hvF (uJ ze)
 replace h := h.BD 5 (cs := [vW]) hbw WS (zo (uJ ze))
 replace h := h.BD 6 (cs := [(.func (.func 103) #[] #[(.pointer (some ⟨ba, 0, none⟩)), (.pointer (some ⟨bw, 0, none⟩)), (.pointer (some ⟨bo, 0, none⟩))])]) Ns JJ (ry (zo (uJ ze)))
 replace h := h.BD 7 (cs := [vF]) hbf WT (ry (ry (zo (uJ ze))))
 replace h := h.BD 8 (cs := [(.func (.func 104) #[] #[(.pointer (some ⟨bo, 0, none⟩)), (.pointer (some ⟨bwd, 0, none⟩)), (.pointer (some ⟨bf, 0, none⟩))])]) hbe nbe (ry (ry (ry (zo (uJ ze)))))
 replace h := h.BD 9 (cs := [(.func (.func 109) #[] #[(.pointer (some ⟨bwd, 0, none⟩)), (.pointer (some ⟨bo, 0, none⟩)), (.pointer (some ⟨be, 0, none⟩)), (.pointer (some ⟨bb, 0, none⟩))])]) hbb nbb (ry (ry (ry (ry (zo (uJ ze))))))
 have Qz := WS
 have JK := JJ
 have QA := WT
 have nbeK := nbe
 have nbbK := nbb
 generalize yB : (.two (.blk ba [(I6 sx.at_)]) (.blk bo [(.bool (sx.ok))]) : Chunk).own' = K0 at h Qz JK QA nbeK nbbK hG
 replace h := h.bN 1 2 (by decide) rfl rfl
 refine nG (aa (ae (v := (.slice none 0 0)) rfl) (nN (bX (σ := Int × Bool) (inl (rg 10 7)) (fun ⟨y1, y2⟩ => []) (fun ⟨y1, y2⟩ w => SH w0 M K0 w (hset [(1, .blk ba [(I6 y1)]), (2, .blk bo [(.bool (y2))]), (3, .rd oN vW W), (4, .sr jc vF F), (5, .pt bw 0 [vW]), (6, .pt bwd 0 [(.func (.func 103) #[] #[(.pointer (some ⟨ba, 0, none⟩)), (.pointer (some ⟨bw, 0, none⟩)), (.pointer (some ⟨bo, 0, none⟩))])]), (7, .pt bf 0 [vF]), (8, .pt be 0 [(.func (.func 104) #[] #[(.pointer (some ⟨bo, 0, none⟩)), (.pointer (some ⟨bwd, 0, none⟩)), (.pointer (some ⟨bf, 0, none⟩))])]), (9, .pt bb 0 [(.func (.func 109) #[] #[(.pointer (some ⟨bwd, 0, none⟩)), (.pointer (some ⟨bo, 0, none⟩)), (.pointer (some ⟨be, 0, none⟩)), (.pointer (some ⟨bb, 0, none⟩))])])]) ∧ wT N F0 W F a y1 y2 = some r) ?_ ?_)))
 rintro ⟨y1, y2⟩ w dz ⟨h, hs⟩
 refine nG (aa (ae (v := (.slice none 0 0)) rfl) (nN (aO (aP ?_))))
 replace h := h.zb (R := eZ) (E := 147) 13
 refine fT (σ := Nat × Value × List bB × Int × Bool) (inl ([6, 7, 8, 9] ++ rg 17 66)) (fun ⟨m22, v15, nW, I5, KU⟩ => [(7, v15)]) (fun ⟨m22, v15, nW, I5, KU⟩ w => SH w0 M K0 w (hset [(1, .blk ba [(I6 I5)]), (2, .blk bo [(.bool (KU))]), (3, .rd oN vW W), (4, .sr jc vF F), (5, .pt bw 0 [vW]), (6, .pt bwd 0 [(.func (.func 103) #[] #[(.pointer (some ⟨ba, 0, none⟩)), (.pointer (some ⟨bw, 0, none⟩)), (.pointer (some ⟨bo, 0, none⟩))])]), (7, .pt bf 0 [vF]), (8, .pt be 0 [(.func (.func 104) #[] #[(.pointer (some ⟨bo, 0, none⟩)), (.pointer (some ⟨bwd, 0, none⟩)), (.pointer (some ⟨bf, 0, none⟩))])]), (9, .pt bb 0 [(.func (.func 109) #[] #[(.pointer (some ⟨bwd, 0, none⟩)), (.pointer (some ⟨bo, 0, none⟩)), (.pointer (some ⟨be, 0, none⟩)), (.pointer (some ⟨bb, 0, none⟩))])]), (13, .own eZ 147 v15 nW)]) ∧ again (uX N F0 W F a) m22 (nW, I5, KU) = some r) (fun ⟨m22, v15, nW, I5, KU⟩ => m22) ⟨N, (.slice none 0 0), [], y1, y2⟩ ⟨rfl, trivial⟩ ?_ ?_
 exact ⟨h.cn _, hs⟩
 rintro ⟨m22, v15, nW, I5, KU⟩ w dz ⟨h, hs⟩
 obtain ⟨m221, m22e, m22h⟩ := og hs
 subst m22e
 replace hs := m22h
 generalize WV : again (uX N F0 W F a) m221 = l7 at hs
 refine aO (nG (aa (aA h 2 rfl xz rfl rfl) (nN (aH hs rfl (fun c26 hs => ?_) (fun c26 hs => ?_)))))
 refine aI (ak (aP (bX (σ := Str × Int × Bool) (inl [8, 18, 19]) (fun ⟨x27, y28, y29⟩ => [(8, (aV x27))]) (fun ⟨x27, y28, y29⟩ w => SH w0 M K0 w (hset [(1, .blk ba [(I6 y28)]), (2, .blk bo [(.bool (y29))]), (3, .rd oN vW W), (4, .sr jc vF F), (5, .pt bw 0 [vW]), (6, .pt bwd 0 [(.func (.func 103) #[] #[(.pointer (some ⟨ba, 0, none⟩)), (.pointer (some ⟨bw, 0, none⟩)), (.pointer (some ⟨bo, 0, none⟩))])]), (7, .pt bf 0 [vF]), (8, .pt be 0 [(.func (.func 104) #[] #[(.pointer (some ⟨bo, 0, none⟩)), (.pointer (some ⟨bwd, 0, none⟩)), (.pointer (some ⟨bf, 0, none⟩))])]), (9, .pt bb 0 [(.func (.func 109) #[] #[(.pointer (some ⟨bwd, 0, none⟩)), (.pointer (some ⟨bo, 0, none⟩)), (.pointer (some ⟨be, 0, none⟩)), (.pointer (some ⟨bb, 0, none⟩))])]), (13, .own eZ 147 v15 nW)]) ∧ uW N F0 nW W F a l7 x27 y28 y29 = some r) ?_ ?_)))
 rintro ⟨x27, y28, y29⟩ w dz ⟨h, hs⟩
 refine aO (nG (aa (ah (v := (aV x27)) rfl) (aa (Gx rfl rfl) (nN (aH hs rfl (fun c30 hs => ?_) (fun c30 hs => ?_))))))
 refine nG (aa (ah (v := v15) rfl) (aa (ae (v := v15) rfl) (nR (az (aF (az (aF (az (bR (v := v15) Tryz.results109 rfl ?_)))))))))
 replace h := h.freeze 13 rfl
 replace h := h.pair 1 2 (by decide)
 obtain rfl := fI hs
 subst yB
 obtain ⟨o1, o2, o3⟩ := h.o8 1 (C := (.two (.blk ba [(I6 y28)]) (.blk bo [(.bool (y29))]) : Chunk)) rfl ⟨trivial, trivial⟩
 exact ⟨o2, v15, rfl, o1, o3, h.BC 1 13 rfl rfl⟩
 refine nS ?_
 obtain ⟨y31, e32, hs⟩ := aJ hs
 refine aR Sb rfl rfl (Al _ _ h.lt (hT.VE h.keep hG) [115, 101, 116, 32, 112, 117, 116, 32, 115, 97, 121, 32, 112, 97, 117, 115, 101, 32, 103, 111, 32, 105, 102, 32, 119, 104, 105, 108, 101, 32, 114, 101, 116, 117, 114, 110] _ e32) ?_
 rintro _ w ⟨k35, u33, rfl, g34⟩
 refine ⟨_, rfl, ?_⟩
 replace h := h.Iz 14 k35 g34
 refine aa (ah (v := (aV x27)) rfl) ?_
 obtain ⟨mJ, e37, hs⟩ := aJ hs
 refine aR YS rfl rfl (Co _ _ h.lt u33 y31 (h.mM 14 rfl) x27 _ e37) ?_
 rintro _ w ⟨k38, rfl⟩
 refine ⟨_, rfl, ?_⟩
 replace h := h.grow k38
 obtain ⟨a39, hs⟩ := bu hs
 refine aa (dm rfl rfl a39) (aa (dH (pv := [(0, (I6 ((mJ + 1))))]) (out := [(I6 ((mJ + 1))), (I6 0), (.slice none 0 0), (.slice none 0 0), (.slice none 0 0), (.slice none 0 0)]) Ty rfl ⟨0, 1, [(I6 ((mJ + 1)))], rfl, rfl, rfl, bC rfl, rfl⟩) (bO h 15 pq fun w b40 h => dn (vs := [(I6 ((mJ + 1))), (I6 0), (.slice none 0 0), (.slice none 0 0), (.slice none 0 0), (.slice none 0 0)]) h 15 [(I6 ((mJ + 1))), (I6 0), (.slice none 0 0), (.slice none 0 0), (.slice none 0 0), (.slice none 0 0)] rfl pq rfl rfl rfl rfl rfl (ai rfl (ai rfl (ai rfl (ai rfl (ai rfl (ai rfl aT)))))) fun w h => nK (aa (aA h 2 rfl xz rfl rfl) (aa (ah (v := (.bool (y29))) rfl) (aC rfl rfl (fun q => ag ko rfl) (aC rfl rfl (fun q => aA h 15 rfl aU (dE q) rfl) (aC rfl rfl (fun q => j5 (dE q) rfl) (aa (gP rfl rfl nQ) (eH h 2 [(.bool ((y29 && decide ((0 : Int) < (mJ + 1)))))] rfl xz rfl rfl rfl rfl rfl fun w h => nJ (aa (aA h 2 rfl xz rfl rfl) (aa (gQ rfl) (nN ?_))))))))))))
 refine aH hs rfl (fun c41 hs => ?_) (fun c41 hs => ?_)
 refine iT (bK (yt (by decide) (bK (dU (ak (nG (aa (ae (v := (.slice none 0 0)) rfl) (nR (bR (v := (.slice none 0 0)) Tryz.results109 rfl ?_)))))))))
 replace h := h.pair 1 2 (by decide)
 obtain rfl := fI hs
 subst yB
 obtain ⟨o1, o2, o3⟩ := h.o8 1 (C := (.two (.blk ba [(I6 y28)]) (.blk bo [(.bool ((y29 && decide ((0 : Int) < (mJ + 1)))))]) : Chunk)) rfl ⟨trivial, trivial⟩
 exact ⟨o2, .slice none 0 0, rfl, o1, o3, fP.nil⟩
 refine aI (ak (bX (σ := Int × Bool × Int) (inl (rg 36 10)) (fun ⟨tq, BK, zX⟩ => []) (fun ⟨tq, BK, zX⟩ w => SH w0 M K0 w (hset [(1, .blk ba [(I6 tq)]), (2, .blk bo [(.bool (BK))]), (3, .rd oN vW W), (4, .sr jc vF F), (5, .pt bw 0 [vW]), (6, .pt bwd 0 [(.func (.func 103) #[] #[(.pointer (some ⟨ba, 0, none⟩)), (.pointer (some ⟨bw, 0, none⟩)), (.pointer (some ⟨bo, 0, none⟩))])]), (7, .pt bf 0 [vF]), (8, .pt be 0 [(.func (.func 104) #[] #[(.pointer (some ⟨bo, 0, none⟩)), (.pointer (some ⟨bwd, 0, none⟩)), (.pointer (some ⟨bf, 0, none⟩))])]), (9, .pt bb 0 [(.func (.func 109) #[] #[(.pointer (some ⟨bwd, 0, none⟩)), (.pointer (some ⟨bo, 0, none⟩)), (.pointer (some ⟨be, 0, none⟩)), (.pointer (some ⟨bb, 0, none⟩))])]), (13, .own eZ 147 v15 nW), (15, .blk b40 [(I6 ((mJ + 1))), (I6 zX), (.slice none 0 0), (.slice none 0 0), (.slice none 0 0), (.slice none 0 0)])]) ∧ rC N F0 mJ W F a nW l7 tq BK zX = some r) ?_ ?_))
 rintro ⟨tq, BK, zX⟩ w dz ⟨h, hs⟩
 refine bX (σ := Int × Bool × Value × List Tok) (inl (rg 46 6)) (fun ⟨QF, QG, v47, rR⟩ => []) (fun ⟨QF, QG, v47, rR⟩ w => SH w0 M K0 w (hset [(1, .blk ba [(I6 QF)]), (2, .blk bo [(.bool (QG))]), (3, .rd oN vW W), (4, .sr jc vF F), (5, .pt bw 0 [vW]), (6, .pt bwd 0 [(.func (.func 103) #[] #[(.pointer (some ⟨ba, 0, none⟩)), (.pointer (some ⟨bw, 0, none⟩)), (.pointer (some ⟨bo, 0, none⟩))])]), (7, .pt bf 0 [vF]), (8, .pt be 0 [(.func (.func 104) #[] #[(.pointer (some ⟨bo, 0, none⟩)), (.pointer (some ⟨bwd, 0, none⟩)), (.pointer (some ⟨bf, 0, none⟩))])]), (9, .pt bb 0 [(.func (.func 109) #[] #[(.pointer (some ⟨bwd, 0, none⟩)), (.pointer (some ⟨bo, 0, none⟩)), (.pointer (some ⟨be, 0, none⟩)), (.pointer (some ⟨bb, 0, none⟩))])]), (13, .own eZ 147 v15 nW), (15, .blk b40 [(I6 ((mJ + 1))), (I6 zX), v47, (.slice none 0 0), (.slice none 0 0), (.slice none 0 0)]), (16, .rd kR v47 rR)]) ∧ uV N F0 mJ W F a nW zX l7 QF QG rR = some r) ?_ ?_
 rintro ⟨QF, QG, v47, rR⟩ w dz ⟨h, hs⟩
 refine bX (σ := Int × Bool × Value × List Tok) (inl (rg 52 6)) (fun ⟨El, tY, v51, vG⟩ => []) (fun ⟨El, tY, v51, vG⟩ w => SH w0 M K0 w (hset [(1, .blk ba [(I6 El)]), (2, .blk bo [(.bool (tY))]), (3, .rd oN vW W), (4, .sr jc vF F), (5, .pt bw 0 [vW]), (6, .pt bwd 0 [(.func (.func 103) #[] #[(.pointer (some ⟨ba, 0, none⟩)), (.pointer (some ⟨bw, 0, none⟩)), (.pointer (some ⟨bo, 0, none⟩))])]), (7, .pt bf 0 [vF]), (8, .pt be 0 [(.func (.func 104) #[] #[(.pointer (some ⟨bo, 0, none⟩)), (.pointer (some ⟨bwd, 0, none⟩)), (.pointer (some ⟨bf, 0, none⟩))])]), (9, .pt bb 0 [(.func (.func 109) #[] #[(.pointer (some ⟨bwd, 0, none⟩)), (.pointer (some ⟨bo, 0, none⟩)), (.pointer (some ⟨be, 0, none⟩)), (.pointer (some ⟨bb, 0, none⟩))])]), (13, .own eZ 147 v15 nW), (15, .blk b40 [(I6 ((mJ + 1))), (I6 zX), v47, v51, (.slice none 0 0), (.slice none 0 0)]), (16, .rd kR v47 rR), (17, .rd kR v51 vG)]) ∧ uU F0 mJ a W F nW zX rR l7 El tY vG = some r) ?_ ?_
 rintro ⟨El, tY, v51, vG⟩ w dz ⟨h, hs⟩
 refine bX (σ := Int × Bool × Value × List bB) (inl (rg 58 13)) (fun ⟨OD, Vk, v55, QE⟩ => []) (fun ⟨OD, Vk, v55, QE⟩ w => SH w0 M K0 w (hset [(1, .blk ba [(I6 OD)]), (2, .blk bo [(.bool (Vk))]), (3, .rd oN vW W), (4, .sr jc vF F), (5, .pt bw 0 [vW]), (6, .pt bwd 0 [(.func (.func 103) #[] #[(.pointer (some ⟨ba, 0, none⟩)), (.pointer (some ⟨bw, 0, none⟩)), (.pointer (some ⟨bo, 0, none⟩))])]), (7, .pt bf 0 [vF]), (8, .pt be 0 [(.func (.func 104) #[] #[(.pointer (some ⟨bo, 0, none⟩)), (.pointer (some ⟨bwd, 0, none⟩)), (.pointer (some ⟨bf, 0, none⟩))])]), (9, .pt bb 0 [(.func (.func 109) #[] #[(.pointer (some ⟨bwd, 0, none⟩)), (.pointer (some ⟨bo, 0, none⟩)), (.pointer (some ⟨be, 0, none⟩)), (.pointer (some ⟨bb, 0, none⟩))])]), (13, .own eZ 147 v15 nW), (15, .blk b40 [(I6 ((mJ + 1))), (I6 zX), v47, v51, v55, (.slice none 0 0)]), (16, .rd kR v47 rR), (17, .rd kR v51 vG), (18, .rd eZ v55 QE)]) ∧ BP F0 mJ a W F nW zX rR vG l7 OD Vk QE = some r) ?_ ?_
 rintro ⟨OD, Vk, v55, QE⟩ w dz ⟨h, hs⟩
 refine bX (σ := Int × Bool × Value × List bB) (inl (rg 71 8)) (fun ⟨y57, y58, v59, vI⟩ => []) (fun ⟨y57, y58, v59, vI⟩ w => SH w0 M K0 w (hset [(1, .blk ba [(I6 y57)]), (2, .blk bo [(.bool (y58))]), (3, .rd oN vW W), (4, .sr jc vF F), (5, .pt bw 0 [vW]), (6, .pt bwd 0 [(.func (.func 103) #[] #[(.pointer (some ⟨ba, 0, none⟩)), (.pointer (some ⟨bw, 0, none⟩)), (.pointer (some ⟨bo, 0, none⟩))])]), (7, .pt bf 0 [vF]), (8, .pt be 0 [(.func (.func 104) #[] #[(.pointer (some ⟨bo, 0, none⟩)), (.pointer (some ⟨bwd, 0, none⟩)), (.pointer (some ⟨bf, 0, none⟩))])]), (9, .pt bb 0 [(.func (.func 109) #[] #[(.pointer (some ⟨bwd, 0, none⟩)), (.pointer (some ⟨bo, 0, none⟩)), (.pointer (some ⟨be, 0, none⟩)), (.pointer (some ⟨bb, 0, none⟩))])]), (13, .own eZ 147 v15 nW), (15, .blk b40 [(I6 ((mJ + 1))), (I6 zX), v47, v51, v55, v59]), (16, .rd kR v47 rR), (17, .rd kR v51 vG), (18, .rd eZ v55 QE), (19, .rd eZ v59 vI)]) ∧ BO nW mJ zX rR vG QE l7 y57 y58 vI = some r) ?_ ?_
 rintro ⟨y57, y58, v59, vI⟩ w dz ⟨h, hs⟩
 refine aB (aa (ah (v := v15) rfl) (aa (dh (vs := [(I6 ((mJ + 1))), (I6 zX), v47, v51, v55, v59]) h 15 rfl pq rfl rfl rfl) (sV (R := eZ) (vs := [(.agg #[(I6 ((mJ + 1))), (I6 zX), v47, v51, v55, v59])]) (xs := [(⟨(mJ + 1), zX, rR, vG, QE, vI⟩ : bB)]) h 20 Lx rfl rfl rfl ⟨(VC ⟨_, _, _, _, rfl, (h.fM 16 rfl), (h.fM 17 rfl), (h.fM 18 rfl), (h.fM 19 rfl)⟩), trivial⟩ rfl fun w u61 h => ?_)))
 obtain ⟨a62, hs⟩ := bu hs
 refine lg (R := eZ) (m := [(⟨(mJ + 1), zX, rR, vG, QE, vI⟩ : bB)]) h 13 rfl (h.dG 20 rfl) Lx rfl rfl rfl a62.1 a62.2 fun w u63 h => aa (ae (v := u63) rfl) (ay (ax (au ?_)))
 subst WV
 exact jQ ⟨m221, u63, (nW ++ [(⟨(mJ + 1), zX, rR, vG, QE, vI⟩ : bB)]), y57, y58⟩ ⟨h.cn _, hs⟩
 refine nG (aa (ag ko rfl) (aa (aA h 15 rfl aU rfl rfl) (aa (bD rfl rfl) (nN (aH hs rfl (fun c64 hs => ?_) (fun c64 hs => ?_))))))
 refine aB (aa (eU (k := 0) h 9 rfl JE rfl rfl) (aa (ah (v := (I6 a)) rfl) ?_))
 obtain ⟨a65, hs⟩ := bu hs
 refine aa (dm rfl rfl a65) ?_
 replace h := h.pair 1 2 (by decide)
 obtain ⟨l66a, l66b, l66c⟩ := h.kC 1 (C := (.two (.blk ba [(I6 OD)]) (.blk bo [(.bool (Vk))]) : Chunk)) rfl ⟨trivial, trivial⟩
 obtain ⟨wE, Y2, hs⟩ := aJ hs
 refine aR Nf rfl rfl (ih _ _ l66c (hT.VE h.keep hG) ba bo bw bwd bf be bb (⟨OD, Vk⟩ : dP) l66a l66b vW W (h.Er 1 3 rfl rfl) vF F (h.YJ 1 4 rfl rfl) (by obtain ⟨E, hE⟩ := hbw; exact ⟨E, h.keep.blk hE Qz⟩) WS (by obtain ⟨E, hE⟩ := Ns; exact ⟨E, h.keep.blk hE JK⟩) JJ (by obtain ⟨E, hE⟩ := hbf; exact ⟨E, h.keep.blk hE QA⟩) WT (by obtain ⟨E, hE⟩ := hbe; exact ⟨E, h.keep.blk hE nbeK⟩) nbe (by obtain ⟨E, hE⟩ := hbb; exact ⟨E, h.keep.blk hE nbbK⟩) nbb (a + 1) (h.Ju hT hG 1 (C := (.two (.blk ba [(I6 OD)]) (.blk bo [(.bool (Vk))]) : Chunk)) rfl) _ Y2) ?_
 rintro _ w ⟨k71, u69, rfl, h72, h73, g70⟩
 refine ⟨_, rfl, ?_⟩
 replace h := h.back 1 (C := (.two (.blk ba [(I6 OD)]) (.blk bo [(.bool (Vk))]) : Chunk)) (C' := (.two (.blk ba [(I6 wE.2.at_)]) (.blk bo [(.bool (wE.2.ok))]) : Chunk)) rfl ⟨trivial, trivial⟩ h72 k71 h73
 replace h := h.bM 21 (kg g70)
 replace h := h.bN 1 2 (by decide) rfl rfl
 refine aa (ag Af rfl) (eH h 15 [(I6 ((mJ + 1))), (I6 zX), v47, v51, v55, u69] rfl qi rfl rfl rfl rfl (h.fM 21 rfl).one fun w h => ay (au ?_))
 replace h := h.zh 21 19 rfl
 exact bP (wE.2.at_, wE.2.ok, u69, wE.1) ⟨h.cn _, hs⟩
 refine aI (au ?_)
 replace h := h.bM 19 (fP.nil (R := eZ))
 exact bP (OD, Vk, (.slice none 0 0), []) ⟨h.cn _, hs⟩
 refine nG (aa (ag ko rfl) (aa (aA h 15 rfl aU rfl rfl) (aa (bD rfl rfl) (aa (ah (v := (.bool (decide (((mJ + 1) : Int) = 6)))) rfl) (aC rfl rfl (fun q => ag ko rfl) (aC rfl rfl (fun q => aA h 15 rfl aU (dE q) rfl) (aC rfl rfl (fun q => bD (dE q) rfl) (aa (iy rfl rfl nQ) (nN (aH hs rfl (fun c74 hs => ?_) (fun c74 hs => ?_)))))))))))
 refine aB (aa (eU (k := 0) h 9 rfl JE rfl rfl) (aa (ah (v := (I6 a)) rfl) ?_))
 obtain ⟨a75, hs⟩ := bu hs
 refine aa (dm rfl rfl a75) ?_
 replace h := h.pair 1 2 (by decide)
 obtain ⟨l76a, l76b, l76c⟩ := h.kC 1 (C := (.two (.blk ba [(I6 El)]) (.blk bo [(.bool (tY))]) : Chunk)) rfl ⟨trivial, trivial⟩
 obtain ⟨Y5, e78, hs⟩ := aJ hs
 refine aR Nf rfl rfl (ih _ _ l76c (hT.VE h.keep hG) ba bo bw bwd bf be bb (⟨El, tY⟩ : dP) l76a l76b vW W (h.Er 1 3 rfl rfl) vF F (h.YJ 1 4 rfl rfl) (by obtain ⟨E, hE⟩ := hbw; exact ⟨E, h.keep.blk hE Qz⟩) WS (by obtain ⟨E, hE⟩ := Ns; exact ⟨E, h.keep.blk hE JK⟩) JJ (by obtain ⟨E, hE⟩ := hbf; exact ⟨E, h.keep.blk hE QA⟩) WT (by obtain ⟨E, hE⟩ := hbe; exact ⟨E, h.keep.blk hE nbeK⟩) nbe (by obtain ⟨E, hE⟩ := hbb; exact ⟨E, h.keep.blk hE nbbK⟩) nbb (a + 1) (h.Ju hT hG 1 (C := (.two (.blk ba [(I6 El)]) (.blk bo [(.bool (tY))]) : Chunk)) rfl) _ e78) ?_
 rintro _ w ⟨k81, u79, rfl, h82, h83, g80⟩
 refine ⟨_, rfl, ?_⟩
 replace h := h.back 1 (C := (.two (.blk ba [(I6 El)]) (.blk bo [(.bool (tY))]) : Chunk)) (C' := (.two (.blk ba [(I6 Y5.2.at_)]) (.blk bo [(.bool (Y5.2.ok))]) : Chunk)) rfl ⟨trivial, trivial⟩ h82 k81 h83
 replace h := h.bM 22 (kg g80)
 replace h := h.bN 1 2 (by decide) rfl rfl
 refine aa (ag Ae rfl) (eH h 15 [(I6 ((mJ + 1))), (I6 zX), v47, v51, u79, (.slice none 0 0)] rfl qi rfl rfl rfl rfl (h.fM 22 rfl).one fun w h => ay (au ?_))
 replace h := h.zh 22 18 rfl
 exact bP (Y5.2.at_, Y5.2.ok, u79, Y5.1) ⟨h.cn _, hs⟩
 refine aI (au ?_)
 replace h := h.bM 18 (fP.nil (R := eZ))
 exact bP (El, tY, (.slice none 0 0), []) ⟨h.cn _, hs⟩
 refine nG (aa (ag ko rfl) (aa (aA h 15 rfl aU rfl rfl) (aa (bD rfl rfl) (nN (aH hs rfl (fun c84 hs => ?_) (fun c84 hs => ?_))))))
 refine aB (aa (eU (k := 0) h 8 rfl Nk rfl rfl) ?_)
 replace h := h.pair 1 2 (by decide)
 obtain ⟨l85a, l85b, l85c⟩ := h.kC 1 (C := (.two (.blk ba [(I6 QF)]) (.blk bo [(.bool (QG))]) : Chunk)) rfl ⟨trivial, trivial⟩
 obtain ⟨Nr, e87, hs⟩ := aJ hs
 refine aR R9 rfl rfl (LG N _ _ l85c (hT.VE h.keep hG) ba bo bw bwd bf (⟨QF, QG⟩ : dP) l85a l85b vW W (h.Er 1 3 rfl rfl) vF F (h.YJ 1 4 rfl rfl) (by obtain ⟨E, hE⟩ := hbw; exact ⟨E, h.keep.blk hE Qz⟩) WS (by obtain ⟨E, hE⟩ := Ns; exact ⟨E, h.keep.blk hE JK⟩) JJ (by obtain ⟨E, hE⟩ := hbf; exact ⟨E, h.keep.blk hE QA⟩) WT (h.Ju hT hG 1 (C := (.two (.blk ba [(I6 QF)]) (.blk bo [(.bool (QG))]) : Chunk)) rfl) _ e87) ?_
 rintro _ w ⟨k90, u88, rfl, h91, h92, g89⟩
 refine ⟨_, rfl, ?_⟩
 replace h := h.back 1 (C := (.two (.blk ba [(I6 QF)]) (.blk bo [(.bool (QG))]) : Chunk)) (C' := (.two (.blk ba [(I6 Nr.2.at_)]) (.blk bo [(.bool (Nr.2.ok))]) : Chunk)) rfl ⟨trivial, trivial⟩ h91 k90 h92
 replace h := h.bM 23 (kg g89)
 replace h := h.bN 1 2 (by decide) rfl rfl
 refine aa (ag CL rfl) (eH h 15 [(I6 ((mJ + 1))), (I6 zX), v47, u88, (.slice none 0 0), (.slice none 0 0)] rfl yz rfl rfl rfl rfl (h.fM 23 rfl).one fun w h => ay (au ?_))
 replace h := h.zh 23 17 rfl
 exact bP (Nr.2.at_, Nr.2.ok, u88, Nr.1) ⟨h.cn _, hs⟩
 refine aI (au ?_)
 replace h := h.bM 17 (fP.nil (R := kR))
 exact bP (QF, QG, (.slice none 0 0), []) ⟨h.cn _, hs⟩
 refine nG (aa (ag ko rfl) (aa (aA h 15 rfl aU rfl rfl) (aa (iP rfl rfl) (nN (aH hs rfl (fun c93 hs => ?_) (fun c93 hs => ?_))))))
 refine aB (aa (eU (k := 0) h 8 rfl Nk rfl rfl) ?_)
 replace h := h.pair 1 2 (by decide)
 obtain ⟨l94a, l94b, l94c⟩ := h.kC 1 (C := (.two (.blk ba [(I6 tq)]) (.blk bo [(.bool (BK))]) : Chunk)) rfl ⟨trivial, trivial⟩
 obtain ⟨y95, e96, hs⟩ := aJ hs
 refine aR R9 rfl rfl (LG N _ _ l94c (hT.VE h.keep hG) ba bo bw bwd bf (⟨tq, BK⟩ : dP) l94a l94b vW W (h.Er 1 3 rfl rfl) vF F (h.YJ 1 4 rfl rfl) (by obtain ⟨E, hE⟩ := hbw; exact ⟨E, h.keep.blk hE Qz⟩) WS (by obtain ⟨E, hE⟩ := Ns; exact ⟨E, h.keep.blk hE JK⟩) JJ (by obtain ⟨E, hE⟩ := hbf; exact ⟨E, h.keep.blk hE QA⟩) WT (h.Ju hT hG 1 (C := (.two (.blk ba [(I6 tq)]) (.blk bo [(.bool (BK))]) : Chunk)) rfl) _ e96) ?_
 rintro _ w ⟨k99, TK, rfl, h100, h101, g98⟩
 refine ⟨_, rfl, ?_⟩
 replace h := h.back 1 (C := (.two (.blk ba [(I6 tq)]) (.blk bo [(.bool (BK))]) : Chunk)) (C' := (.two (.blk ba [(I6 y95.2.at_)]) (.blk bo [(.bool (y95.2.ok))]) : Chunk)) rfl ⟨trivial, trivial⟩ h100 k99 h101
 replace h := h.bM 24 (kg g98)
 replace h := h.bN 1 2 (by decide) rfl rfl
 refine aa (ag Ad rfl) (eH h 15 [(I6 ((mJ + 1))), (I6 zX), TK, (.slice none 0 0), (.slice none 0 0), (.slice none 0 0)] rfl yz rfl rfl rfl rfl (h.fM 24 rfl).one fun w h => ay (au ?_))
 replace h := h.zh 24 16 rfl
 exact bP (y95.2.at_, y95.2.ok, TK, y95.1) ⟨h.cn _, hs⟩
 refine aI (au ?_)
 replace h := h.bM 16 (fP.nil (R := kR))
 exact bP (tq, BK, (.slice none 0 0), []) ⟨h.cn _, hs⟩
 refine nG (aa (ag ko rfl) (aa (aA h 15 rfl aU rfl rfl) (aa (Fs rfl rfl) (nN (aH hs rfl (fun WW hs => ?_) (fun WW hs => ?_))))))
 refine aB (aa (eU (k := 0) h 6 rfl BJ rfl rfl) (jP (args := [(.pointer (some ⟨ba, 0, none⟩)), (.pointer (some ⟨bw, 0, none⟩)), (.pointer (some ⟨bo, 0, none⟩))]) BH rfl rfl (aL (args := [(.pointer (some ⟨ba, 0, none⟩)), (.pointer (some ⟨bw, 0, none⟩)), (.pointer (some ⟨bo, 0, none⟩))]) Tryz.func103 rfl Tryz.ntmps103 (bC rfl) (nG (aa (ae (v := (aV [])) rfl) (nK (aa (aA h 1 rfl aU rfl rfl) (aa (eU (k := 0) h 5 rfl nM rfl rfl) (aa (bT fe rfl (h.mM 3 rfl)) (aa (qy rfl rfl) (nN (aH hs rfl (fun c103 hs => ?_) (fun c103 hs => ?_)))))))))))))
 refine nG (eH h 2 [(.bool (false))] rfl xz rfl rfl rfl rfl rfl fun w h => nJ (aa (ae (v := (aV [])) rfl) (nR (az (bR (v := (aV [])) Tryz.results103 rfl (⟨_, rfl, ?_⟩))))))
 obtain ⟨y104, Nu, hs⟩ := aJ hs
 refine aR FK rfl rfl (qJ _ _ h.lt (hT.VE h.keep hG) [] _ Nu) ?_
 rintro _ w ⟨K4, OV, rfl, g107⟩
 refine ⟨_, rfl, ?_⟩
 replace h := h.grow K4
 refine aa (ah (v := (.tuple #[(I6 y104.1), OV])) rfl) (aa (aY rfl rfl) (aa (aY rfl rfl) (aa (ag wO rfl) (eH h 15 [(I6 ((mJ + 1))), (I6 y104.1), (.slice none 0 0), (.slice none 0 0), (.slice none 0 0), (.slice none 0 0)] rfl aU rfl rfl rfl rfl rfl fun w h => ay (au ?_)))))
 exact bP (y28, false, y104.1) ⟨h.cn _, hs⟩
 refine nS (aa (aA h 1 rfl aU rfl rfl) ?_)
 obtain ⟨a109, hs⟩ := bu hs
 refine aa (dm rfl rfl a109) (eH h 1 [(I6 ((y28 + 1)))] rfl aU rfl rfl rfl rfl rfl fun w h => nJ (aa (eU (k := 0) h 5 rfl nM rfl rfl) (aa (aA h 1 rfl aU rfl rfl) ?_)))
 obtain ⟨a110, hs⟩ := bu hs
 refine aa (oO rfl rfl a110) ?_
 obtain ⟨QH, e112, hs⟩ := aJ hs
 obtain ⟨b114, o115, cs116, h, r117, i113⟩ := h.Fw 3 25 rfl fe rfl (aG e112).1 (aG e112).2
 obtain rfl := r117
 refine aa (i113 _ _ _ _ _ _ _ _ _ rfl rfl) (aa (eU (k := 0) h 25 rfl Ah rfl rfl) (aa (ae (v := (aV QH)) rfl) (nR (bR (v := (aV QH)) Tryz.results103 rfl (⟨_, rfl, ?_⟩)))))
 obtain ⟨QI, e119, hs⟩ := aJ hs
 refine aR FK rfl rfl (qJ _ _ h.lt (hT.VE h.keep hG) QH _ e119) ?_
 rintro _ w ⟨k122, u120, rfl, g121⟩
 refine ⟨_, rfl, ?_⟩
 replace h := h.grow k122
 refine aa (ah (v := (.tuple #[(I6 QI.1), u120])) rfl) (aa (aY rfl rfl) (aa (aY rfl rfl) (aa (ag wO rfl) (eH h 15 [(I6 ((mJ + 1))), (I6 QI.1), (.slice none 0 0), (.slice none 0 0), (.slice none 0 0), (.slice none 0 0)] rfl aU rfl rfl rfl rfl rfl fun w h => ay (au ?_)))))
 exact bP ((y28 + 1), (y29 && decide ((0 : Int) < (mJ + 1))), QI.1) ⟨h.cn _, hs⟩
 refine aI (au ?_)
 exact bP (y28, (y29 && decide ((0 : Int) < (mJ + 1))), 0) ⟨h.cn _, hs⟩
 refine aB (aa (eU (k := 0) h 6 rfl BJ rfl rfl) (jP (args := [(.pointer (some ⟨ba, 0, none⟩)), (.pointer (some ⟨bw, 0, none⟩)), (.pointer (some ⟨bo, 0, none⟩))]) BH rfl rfl (aL (args := [(.pointer (some ⟨ba, 0, none⟩)), (.pointer (some ⟨bw, 0, none⟩)), (.pointer (some ⟨bo, 0, none⟩))]) Tryz.func103 rfl Tryz.ntmps103 (bC rfl) (nG (aa (ae (v := (aV [])) rfl) (nK (aa (aA h 1 rfl aU rfl rfl) (aa (eU (k := 0) h 5 rfl nM rfl rfl) (aa (bT fe rfl (h.mM 3 rfl)) (aa (qy rfl rfl) (nN (aH hs rfl (fun c123 hs => ?_) (fun c123 hs => ?_)))))))))))))
 refine nG (eH h 2 [(.bool (false))] rfl xz rfl rfl rfl rfl rfl fun w h => nJ (aa (ae (v := (aV [])) rfl) (nR (az (bR (v := (aV [])) Tryz.results103 rfl (⟨_, rfl, ?_⟩))))))
 refine aa (ae (v := (aV [])) rfl) (ay (au ?_))
 exact bP ([], I5, false) ⟨h.cn _, hs⟩
 refine nS (aa (aA h 1 rfl aU rfl rfl) ?_)
 obtain ⟨a124, hs⟩ := bu hs
 refine aa (dm rfl rfl a124) (eH h 1 [(I6 ((I5 + 1)))] rfl aU rfl rfl rfl rfl rfl fun w h => nJ (aa (eU (k := 0) h 5 rfl nM rfl rfl) (aa (aA h 1 rfl aU rfl rfl) ?_)))
 obtain ⟨a125, hs⟩ := bu hs
 refine aa (oO rfl rfl a125) ?_
 obtain ⟨JM, e127, hs⟩ := aJ hs
 obtain ⟨b129, o130, cs131, h, r132, i128⟩ := h.Fw 3 26 rfl fe rfl (aG e127).1 (aG e127).2
 obtain rfl := r132
 refine aa (i128 _ _ _ _ _ _ _ _ _ rfl rfl) (aa (eU (k := 0) h 26 rfl Ah rfl rfl) (aa (ae (v := (aV JM)) rfl) (nR (bR (v := (aV JM)) Tryz.results103 rfl (⟨_, rfl, ?_⟩)))))
 refine aa (ae (v := (aV JM)) rfl) (ay (au ?_))
 exact bP (JM, (I5 + 1), KU) ⟨h.cn _, hs⟩
 refine nE (aa (ae (v := (.slice none 0 0)) rfl) (nR (bR (v := (.slice none 0 0)) Tryz.results109 rfl ?_)))
 replace h := h.pair 1 2 (by decide)
 obtain rfl := fI hs
 subst yB
 obtain ⟨o1, o2, o3⟩ := h.o8 1 (C := (.two (.blk ba [(I6 I5)]) (.blk bo [(.bool (KU))]) : Chunk)) rfl ⟨trivial, trivial⟩
 exact ⟨o2, .slice none 0 0, rfl, o1, o3, fP.nil⟩
 refine bX (σ := Bool × Int × Bool) (inl (rg 10 7)) (fun ⟨Ex, I7, Nt⟩ => [(16, (.bool (Ex)))]) (fun ⟨Ex, I7, Nt⟩ w => SH w0 M K0 w (hset [(1, .blk ba [(I6 I7)]), (2, .blk bo [(.bool (Nt))]), (3, .rd oN vW W), (4, .sr jc vF F), (5, .pt bw 0 [vW]), (6, .pt bwd 0 [(.func (.func 103) #[] #[(.pointer (some ⟨ba, 0, none⟩)), (.pointer (some ⟨bw, 0, none⟩)), (.pointer (some ⟨bo, 0, none⟩))])]), (7, .pt bf 0 [vF]), (8, .pt be 0 [(.func (.func 104) #[] #[(.pointer (some ⟨bo, 0, none⟩)), (.pointer (some ⟨bwd, 0, none⟩)), (.pointer (some ⟨bf, 0, none⟩))])]), (9, .pt bb 0 [(.func (.func 109) #[] #[(.pointer (some ⟨bwd, 0, none⟩)), (.pointer (some ⟨bo, 0, none⟩)), (.pointer (some ⟨be, 0, none⟩)), (.pointer (some ⟨bb, 0, none⟩))])])]) ∧ uY N F0 W F a Ex I7 Nt = some r) ?_ ?_
 rintro ⟨Ex, I7, Nt⟩ w dz ⟨h, hs⟩
 refine aH hs rfl (fun c136 hs => ?_) (fun c136 hs => ?_)
 refine aB (eH h 2 [(.bool (false))] rfl xz rfl rfl rfl rfl rfl fun w h => ay (au ?_))
 exact bP (I7, false) ⟨h.cn _, hs⟩
 refine aI (au ?_)
 exact bP (I7, Nt) ⟨h.cn _, hs⟩
 refine aB (aa (eU (k := 0) h 6 rfl BJ rfl rfl) (jP (args := [(.pointer (some ⟨ba, 0, none⟩)), (.pointer (some ⟨bw, 0, none⟩)), (.pointer (some ⟨bo, 0, none⟩))]) BH rfl rfl (aL (args := [(.pointer (some ⟨ba, 0, none⟩)), (.pointer (some ⟨bw, 0, none⟩)), (.pointer (some ⟨bo, 0, none⟩))]) Tryz.func103 rfl Tryz.ntmps103 (bC rfl) (nG (aa (ae (v := (aV [])) rfl) (nK (aa (aA h 1 rfl aU rfl rfl) (aa (eU (k := 0) h 5 rfl nM rfl rfl) (aa (bT fe rfl (h.mM 3 rfl)) (aa (qy rfl rfl) (nN (aH hs rfl (fun c137 hs => ?_) (fun c137 hs => ?_)))))))))))))
 refine nG (eH h 2 [(.bool (false))] rfl xz rfl rfl rfl rfl rfl fun w h => nJ (aa (ae (v := (aV [])) rfl) (nR (az (bR (v := (aV [])) Tryz.results103 rfl (⟨_, rfl, ?_⟩))))))
 refine aa (Js rfl rfl) (aa (ah (v := (.bool (true))) rfl) (nL (b' := true) rfl rfl rfl (nL (b' := true) rfl rfl rfl (aa (dJ (b := true) (v := (.bool (true))) rfl rfl) (ay (au ?_))))))
 exact bP (true, sx.at_, false) ⟨h.cn _, hs⟩
 refine nS (aa (aA h 1 rfl aU rfl rfl) ?_)
 obtain ⟨a138, hs⟩ := bu hs
 refine aa (dm rfl rfl a138) (eH h 1 [(I6 ((sx.at_ + 1)))] rfl aU rfl rfl rfl rfl rfl fun w h => nJ (aa (eU (k := 0) h 5 rfl nM rfl rfl) (aa (aA h 1 rfl aU rfl rfl) ?_)))
 obtain ⟨a139, hs⟩ := bu hs
 refine aa (oO rfl rfl a139) ?_
 obtain ⟨OU, e141, hs⟩ := aJ hs
 obtain ⟨b143, o144, cs145, h, r146, i142⟩ := h.Fw 3 27 rfl fe rfl (aG e141).1 (aG e141).2
 obtain rfl := r146
 refine aa (i142 _ _ _ _ _ _ _ _ _ rfl rfl) (aa (eU (k := 0) h 27 rfl Ah rfl rfl) (aa (ae (v := (aV OU)) rfl) (nR (bR (v := (aV OU)) Tryz.results103 rfl (⟨_, rfl, ?_⟩)))))
 refine aa (Js rfl rfl) (aa (ah (v := (.bool (decide ((OU : Str) ≠ [123])))) rfl) (aC rfl rfl (fun q => ah (v := (I6 a)) rfl) (aC rfl rfl (fun q => j5 (dE q) rfl) (aa (iy rfl rfl nQ) (ay (au ?_))))))
 exact bP ((decide ((OU : Str) ≠ [123]) || decide ((6 : Int) < a)), (sx.at_ + 1), sx.ok) ⟨h.cn _, hs⟩
def l8 (K5 : List fB → Option (List fB × Int)) (y24 : List fB) : Option (List fB × Int) :=
  K5 y24
def l9 (y1 : List Str) (i17 : Int) (lh : List fB) (K5 : List fB → Option (List fB × Int)) (x30 : Bool) : Option (List fB × Int) :=
  bif x30 then (idx y1 (i17 + 1)).bind fun x32 => (CF x32).bind fun y39 => gJ (jI (i17 + 2)) ((idx y1 (i17 + 2)).bind fun x45 => (CF x45).bind fun vG => gJ (Room 40 lh [(⟨y39.1, vG.1, []⟩ : fB)]) (l8 K5 (lh ++ [(⟨y39.1, vG.1, []⟩ : fB)]))) else l8 K5 lh
def iB (N : Nat) (y1 : List Str) (rY : List fB) (i101 : Int) (ll : (List fB × Int × Bool) → Option (List fB × Int)) (I8 : Int) (y112 : Bool) : Option (List fB × Int) :=
  (wU N (⟨I8, y112⟩ : dP) y1 rY 1).bind fun kE => (idx rY i101).bind fun yj => ll ((rY.set (i101).toNat { yj with body := kE.1 }), kE.2.at_, kE.2.ok)
def iC (N : Nat) (y1 : List Str) (rY : List fB) (i101 : Int) (ll : (List fB × Int × Bool) → Option (List fB × Int)) (qd : Int) (Nv : Bool) : Option (List fB × Int) :=
  bif decide (((y1.length : Int) : Int) ≤ qd) then iB N y1 rY i101 ll qd false else gJ (jI (qd + 1)) (gJ (jI ((qd + 1) - 1)) ((idx y1 ((qd + 1) - 1)).bind fun Y6 => iB N y1 rY i101 ll (qd + 1) Nv))
def iD (N : Nat) (y1 : List Str) (rY : List fB) (i101 : Int) (ll : (List fB × Int × Bool) → Option (List fB × Int)) (qf : Int) (Nw : Bool) : Option (List fB × Int) :=
  bif decide (((y1.length : Int) : Int) ≤ qf) then iC N y1 rY i101 ll qf false else gJ (jI (qf + 1)) (gJ (jI ((qf + 1) - 1)) ((idx y1 ((qf + 1) - 1)).bind fun Y7 => iC N y1 rY i101 ll (qf + 1) Nw))
def iE (N : Nat) (y1 : List Str) (rY : List fB) (i101 : Int) (ll : (List fB × Int × Bool) → Option (List fB × Int)) (OW : Bool) (I9 : Int) (Ny : Bool) : Option (List fB × Int) :=
  bif OW then iD N y1 rY i101 ll I9 false else iD N y1 rY i101 ll I9 Ny
def jr (rY : List fB) (x159 : Bool) : Option (List fB × Int) :=
  bif x159 then some ([], 1) else some (rY, 0)
def iF (N : Nat) (y1 : List Str) (i101 : Int) (s : List fB × Int × Bool) (ll : List fB × Int × Bool → Option (List fB × Int)) : Option (List fB × Int) :=
  match s with | (rY, y98, y99) => bif decide (((y1.length : Int) : Int) ≤ y98) then iE N y1 rY i101 ll true y98 false else gJ (jI (y98 + 1)) (gJ (jI ((y98 + 1) - 1)) ((idx y1 ((y98 + 1) - 1)).bind fun x152 => iE N y1 rY i101 ll (decide ((x152 : Str) ≠ [102, 117, 110])) (y98 + 1) y99))
def jv (N : Nat) (y1 : List Str) (a : Str) (s : List fB × Int × Bool) : Option (List fB × Int) :=
  match s with | (rY, y98, y99) => bif ((!y99) || decide ((y98 : Int) < (y1.length : Int))) then jr rY true else (uf N rY).bind fun WX => bif decide ((WX : Int) ≠ 0) then jr rY true else (uQ N rY).bind fun Y8 => jr rY (decide ((Y8 : Str) ≠ a))
def jw (lh : List fB) (i64 : Int) (s : Unit) (nx67 : Unit → Option (List fB × Int)) : Option (List fB × Int) :=
  (idx lh i64).bind fun Y9 => bif (!(aW Y9.params 0 3)) then some ([], 1) else nx67 ()
def iG (N : Nat) (y1 : List Str) (a : Str) (lh : List fB) (s : Unit) : Option (List fB × Int) :=
  upto (iF N y1) (jv N y1 a) 0 ((lh.length : Int)).toNat (lh, 0, true)
def jy (y1 : List Str) (i17 : Int) (Bn : Str) (lh : List fB) (K5 : List fB → Option (List fB × Int)) : Option (List fB × Int) :=
  bif decide ((Bn : Str) = [102, 117, 110]) then gJ (jI (i17 + 2)) (l9 y1 i17 lh K5 (decide (((i17 + 2) : Int) < (y1.length : Int)))) else l9 y1 i17 lh K5 false
def iH (N : Nat) (y1 : List Str) (a : Str) (lh : List fB) : Option (List fB × Int) :=
  bif (decide (((lh.length : Int) : Int) = 0) || decide ((4 : Int) < (lh.length : Int))) then some ([], 1) else upto (jw lh) (iG N y1 a lh) 0 ((lh.length : Int)).toNat ()
def kV (N : Nat) (a : Str) : Option (List fB × Int) :=
  (M0 a [32]).bind fun y1 => fq (jy y1) (iH N y1 a) 0 y1 []
end
end Go.Proofs.YtfclkapelkhlpaaGreatDoor
