/-
  What the law SnapSays needs of our own library and of the walks, no more.
-/
import Derived.Test.YtfclkapelkhlpaaGreatDoorProg
import Derived.Test.YtfclkapelkhlpaaGreatDoorSnapSaysTb
set_option linter.unusedSimpArgs false
set_option linter.unusedVariables false
set_option maxRecDepth 10000
namespace Go.LX
open Go Go.Proofs
abbrev I6 (n : Int) : Value := .int .i64 n
def rg (a : Nat) : Nat → List Nat
  | 0 => []
  | n + 1 => a :: rg (a + 1) n
abbrev cT (p : Nat) (v0 v1 : Value) (st wh : Int) (f : List Frame) (w0 : List Value) (c : List (List Val)) (w1 : List Value) : Chunk := (.two (.two (.two (.two (.blk p [v0, v1, .int .i64 st, .int .i64 wh]) (.own fo.raw 49 v0 (List.zip f w0))) (.jv (fw aY 51 hn w0 (List.map fo.sub f)))) (.own (gW Val).raw 47 v1 (List.zip c w1))) (.jv (fw aY 51 hn w1 (List.map (gW Val).sub c))) : Chunk)
abbrev cU (v0 v1 : Value) (f : List Frame) (w0 : List Value) (c : List (List Val)) (w1 : List Value) : Chunk := (.two (.two (.two (.own fo.raw 49 v0 (List.zip f w0)) (.jv (fw aY 51 hn w0 (List.map fo.sub f)))) (.own (gW Val).raw 47 v1 (List.zip c w1))) (.jv (fw aY 51 hn w1 (List.map (gW Val).sub c))) : Chunk)
theorem gK {α : Type} {a b : α} (h : some a = some b) : a = b := Option.some.inj h
theorem cB {x y : Bool} (c : x = y) : Value.bool x = Value.bool y := congrArg Value.bool c
theorem kQ {p : Prop} [Decidable p] (h : decide p = true) : p := of_decide_eq_true h
theorem Rj {a b c : Bool} (h : (a && (b && c)) = true) : a = true ∧ b = true ∧ c = true := by simpa using h
theorem bH {n m : Nat} (h : Nat.ble n m = true) : n ≤ m := Nat.le_of_ble_eq_true h
section
variable {P : Program} {ops : Array Oper} {Q : Exit → Act → World → Prop} {rest : List Oper} {n : Nat} {env : Nat → Value} {w : World} {d : Option Nat} {op : Op} {ty : TypeId} {pos : String} {af : Array Edge}
theorem Oy {j dj : Nat} {b : Bool} (hd : (ops[j]?).bind (·.dst) = some dj) (hv : ev n env (.tmp dj) = .bool true) (hb : (true == b) = false) (h : WL P ops Q rest n (lu env d undef) w) : WL P ops Q (⟨d, op, ty, pos, af, some (j, b)⟩ :: rest) n env w := lG hd hv hb h
theorem qc {j dj : Nat} {b : Bool} (hd : (ops[j]?).bind (·.dst) = some dj) (hv : ev n env (.tmp dj) = .bool false) (hb : (false == b) = false) (h : WL P ops Q rest n (lu env d undef) w) : WL P ops Q (⟨d, op, ty, pos, af, some (j, b)⟩ :: rest) n env w := lG hd hv hb h
end
section
variable {P : Program} {Q Q' : Exit → Act → World → Prop} {K1 K2 : Act → World → Prop} {n : Nat} {env : Nat → Value} {w : World} {x y : Code} {l : List Oper} {ops : Array Oper} {id i : Nat}
theorem nG (h : WL P l.toArray (Exit.then (y.wp P Q) Q) l n env w) : WC P (Code.seq (Code.region id l.toArray false) y) Q n env w := aJ (ay h)
theorem nN (h : WC P y Q n env w) : WL P ops (Exit.then (y.wp P Q) Q') [] n env w := aC (aj h)
theorem nR (h : Q .ret (act n env) w) : WL P ops (Exit.then (Code.ret.wp P Q) Q') [] n env w := aC (aj (YI h))
theorem nJ (h : WL P l.toArray (Exit.then (y.wp P Q) Q) l n env w) : WL P ops (Exit.then ((Code.seq (Code.region id l.toArray false) y).wp P Q) Q') [] n env w := nN (nG h)
theorem nK (h : WL P l.toArray (Exit.then (x.wp P (Exit.then (y.wp P Q) Q)) (Exit.then (y.wp P Q) Q)) l n env w) : WL P ops (Exit.then ((Code.seq (Code.seq (Code.region id l.toArray false) x) y).wp P Q) Q') [] n env w := nN (aJ (nG h))
theorem nS (h : WL P l.toArray (Exit.then (y.wp P Q) Q) l n env w) : WC P .skip (Exit.then ((Code.seq (Code.region id l.toArray false) y).wp P Q) Q') n env w := aG (aj (nG h))
theorem nE (h : WL P l.toArray (Exit.then (y.wp P Q) Q) l n env w) : WC P (.exit i) (Exit.then K1 (Exit.then K2 (Exit.inBlock i (Exit.then ((Code.seq (Code.region id l.toArray false) y).wp P Q) Q')))) n env w := iI (bC (bC (dV (aj (nG h)))))
end
section
variable {P : Program} {ops : Array Oper} {Q : Exit → Act → World → Prop} {n : Nat} {env : Nat → Value} {w ws : World} {d : Option Nat} {op : Op} {ty : TypeId} {pos : String} {af : Array Edge} {fuel : Nat} {listed : Array Bool} {v : Value} {L : BS}
theorem zJ (i : Nat) (hS : Grow ws w) (hi : ops[i]? = some ⟨d, op, ty, pos, af, none⟩) (h3 : (Region.noSelect ops && (Region.free .any ops listed i && (Region.ready .any ops listed).contains i)) = true) (he : ∀ wq, Grow ws wq → (execOp (ev n env) ⟨d, op, ty, pos, af, none⟩).run P wq = .ok (.value v) wq) (h : WH P ops ws Q fuel (listed.setIfInBounds i true) n (lu env d v) w) : WH P ops ws Q (fuel + 1) listed n env w := ni i hS hi aA (Rj h3).1 (Rj h3).2.1 (Rj h3).2.2 he h
theorem iQ (i : Nat) (hS : aQ L ws w) (hi : ops[i]? = some ⟨d, op, ty, pos, af, none⟩) (h3 : (Region.noSelect ops && (Region.free .any ops listed i && (Region.ready .any ops listed).contains i)) = true) (he : ∀ wq, aQ L ws wq → (execOp (ev n env) ⟨d, op, ty, pos, af, none⟩).run P wq = .ok (.value v) wq) (h : Ra P ops L ws Q fuel (listed.setIfInBounds i true) n (lu env d v) w) : Ra P ops L ws Q (fuel + 1) listed n env w := dW i hS hi aA (Rj h3).1 (Rj h3).2.1 (Rj h3).2.2 he h
end
end Go.LX
namespace Go.Proofs.YtfclkapelkhlpaaGreatDoor
open Go Go.Proofs Go.LX
noncomputable section
theorem Kl : qG Tryz.prog 111 147 6 112 := ⟨Tryz.underlying111, vw (z := (.agg #[(I6 0), (I6 0), (.slice none 0 0), (.slice none 0 0), (.slice none 0 0), (.slice none 0 0)])) (by kernel_rfl) rfl⟩
theorem Km : qG Tryz.prog 145 160 2 16 := ⟨Tryz.underlying145, vw (z := (.agg #[(I6 0), (I6 0)])) (by kernel_rfl) rfl⟩
theorem Kn : qG Tryz.prog 153 9 1 16 := ⟨Tryz.underlying153, vw (z := (aN [])) (by kernel_rfl) rfl⟩
theorem Rk : qG Tryz.prog 204 111 1 24 := ⟨Tryz.underlying204, vw (z := (.slice none 0 0)) (by kernel_rfl) rfl⟩
theorem M8 : qG Tryz.prog 22 57 3 40 := ⟨Tryz.underlying22, vw (z := (.agg #[(I6 0), (I6 0), (.slice none 0 0)])) (by kernel_rfl) rfl⟩
theorem vC : qG Tryz.prog 23 49 4 48 := ⟨Tryz.underlying23, vw (z := (.agg #[(I6 0), (I6 0), (.slice none 0 0), (I6 0)])) (by kernel_rfl) rfl⟩
theorem jB : qG Tryz.prog 24 47 1 24 := ⟨Tryz.underlying24, vw (z := (.slice none 0 0)) (by kernel_rfl) rfl⟩
theorem fq : qG Tryz.prog 27 3 1 8 := ⟨Tryz.underlying27, vw (z := (I6 0)) (by kernel_rfl) rfl⟩
theorem nk : qG Tryz.prog 47 51 2 16 := ⟨Tryz.underlying47, vw (z := (.agg #[(I6 0), (I6 0)])) (by kernel_rfl) rfl⟩
theorem gz : qG Tryz.prog 55 93 5 56 := ⟨Tryz.underlying55, vw (z := (.agg #[(I6 0), (I6 0), (I6 0), (I6 0), (.slice none 0 0)])) (by kernel_rfl) rfl⟩
theorem M9 : qG Tryz.prog 67 113 3 40 := ⟨Tryz.underlying67, vw (z := (.agg #[(I6 0), (I6 0), (.slice none 0 0)])) (by kernel_rfl) rfl⟩
theorem xh : iy Tryz.prog 113 0 0 := ⟨_, _, 0, Tryz.underlying113, rfl, rfl, by kernel_rfl⟩
theorem Ab : iy Tryz.prog 113 1 1 := ⟨_, _, 0, Tryz.underlying113, rfl, rfl, by kernel_rfl⟩
theorem Cu : iy Tryz.prog 113 2 2 := ⟨_, _, 0, Tryz.underlying113, rfl, rfl, by kernel_rfl⟩
theorem lI : iy Tryz.prog 147 0 0 := ⟨_, _, 0, Tryz.underlying147, rfl, rfl, by kernel_rfl⟩
theorem xk : iy Tryz.prog 147 1 1 := ⟨_, _, 0, Tryz.underlying147, rfl, rfl, by kernel_rfl⟩
theorem Ac : iy Tryz.prog 147 2 2 := ⟨_, _, 0, Tryz.underlying147, rfl, rfl, by kernel_rfl⟩
theorem Cv : iy Tryz.prog 147 3 3 := ⟨_, _, 0, Tryz.underlying147, rfl, rfl, by kernel_rfl⟩
theorem Ad : iy Tryz.prog 147 4 4 := ⟨_, _, 0, Tryz.underlying147, rfl, rfl, by kernel_rfl⟩
theorem Ae : iy Tryz.prog 147 5 5 := ⟨_, _, 0, Tryz.underlying147, rfl, rfl, by kernel_rfl⟩
theorem EW : iy Tryz.prog 160 0 0 := ⟨_, _, 0, Tryz.underlying160, rfl, rfl, by kernel_rfl⟩
theorem qd : iy Tryz.prog 160 1 1 := ⟨_, _, 0, Tryz.underlying160, rfl, rfl, by kernel_rfl⟩
theorem gQ : iy Tryz.prog 26 0 0 := ⟨_, _, 0, Tryz.underlying26, rfl, rfl, by kernel_rfl⟩
theorem gL : iy Tryz.prog 26 1 1 := ⟨_, _, 0, Tryz.underlying26, rfl, rfl, by kernel_rfl⟩
theorem qI : iy Tryz.prog 26 2 2 := ⟨_, _, 0, Tryz.underlying26, rfl, rfl, by kernel_rfl⟩
theorem sZ : iy Tryz.prog 26 3 3 := ⟨_, _, 0, Tryz.underlying26, rfl, rfl, by kernel_rfl⟩
theorem tq : iy Tryz.prog 49 0 0 := ⟨_, _, 0, Tryz.underlying49, rfl, rfl, by kernel_rfl⟩
theorem vD : iy Tryz.prog 49 1 1 := ⟨_, _, 0, Tryz.underlying49, rfl, rfl, by kernel_rfl⟩
theorem ko : iy Tryz.prog 49 2 2 := ⟨_, _, 0, Tryz.underlying49, rfl, rfl, by kernel_rfl⟩
theorem uw : iy Tryz.prog 49 3 3 := ⟨_, _, 0, Tryz.underlying49, rfl, rfl, by kernel_rfl⟩
theorem rV : iy Tryz.prog 51 0 0 := ⟨_, _, 0, Tryz.underlying51, rfl, rfl, by kernel_rfl⟩
theorem jF : iy Tryz.prog 51 1 1 := ⟨_, _, 0, Tryz.underlying51, rfl, rfl, by kernel_rfl⟩
theorem yh : iy Tryz.prog 57 0 0 := ⟨_, _, 0, Tryz.underlying57, rfl, rfl, by kernel_rfl⟩
theorem wT : iy Tryz.prog 57 1 1 := ⟨_, _, 0, Tryz.underlying57, rfl, rfl, by kernel_rfl⟩
theorem qJ : iy Tryz.prog 57 2 2 := ⟨_, _, 0, Tryz.underlying57, rfl, rfl, by kernel_rfl⟩
theorem rW : iy Tryz.prog 93 0 0 := ⟨_, _, 0, Tryz.underlying93, rfl, rfl, by kernel_rfl⟩
theorem zu : iy Tryz.prog 93 1 1 := ⟨_, _, 0, Tryz.underlying93, rfl, rfl, by kernel_rfl⟩
theorem kK : iy Tryz.prog 93 2 2 := ⟨_, _, 0, Tryz.underlying93, rfl, rfl, by kernel_rfl⟩
theorem uy : iy Tryz.prog 93 3 3 := ⟨_, _, 0, Tryz.underlying93, rfl, rfl, by kernel_rfl⟩
theorem wU : iy Tryz.prog 93 4 4 := ⟨_, _, 0, Tryz.underlying93, rfl, rfl, by kernel_rfl⟩
theorem LB : gu Tryz.prog 100 := ⟨_, Tryz.func100, by kernel_rfl, rfl⟩
theorem WS : gu Tryz.prog 101 := ⟨_, Tryz.func101, by kernel_rfl, rfl⟩
theorem EX : gu Tryz.prog 102 := ⟨_, Tryz.func102, by kernel_rfl, rfl⟩
theorem Bo : gu Tryz.prog 103 := ⟨_, Tryz.func103, by kernel_rfl, rfl⟩
theorem Qy : gu Tryz.prog 104 := ⟨_, Tryz.func104, by kernel_rfl, rfl⟩
theorem WT : gu Tryz.prog 105 := ⟨_, Tryz.func105, by kernel_rfl, rfl⟩
theorem LC : gu Tryz.prog 106 := ⟨_, Tryz.func106, by kernel_rfl, rfl⟩
theorem Qz : gu Tryz.prog 107 := ⟨_, Tryz.func107, by kernel_rfl, rfl⟩
theorem LD : gu Tryz.prog 108 := ⟨_, Tryz.func108, by kernel_rfl, rfl⟩
theorem LF : gu Tryz.prog 109 := ⟨_, Tryz.func109, by kernel_rfl, rfl⟩
theorem WU : gu Tryz.prog 110 := ⟨_, Tryz.func110, by kernel_rfl, rfl⟩
theorem QA : gu Tryz.prog 111 := ⟨_, Tryz.func111, by kernel_rfl, rfl⟩
theorem WV : gu Tryz.prog 112 := ⟨_, Tryz.func112, by kernel_rfl, rfl⟩
theorem WW : gu Tryz.prog 113 := ⟨_, Tryz.func113, by kernel_rfl, rfl⟩
theorem WX : gu Tryz.prog 114 := ⟨_, Tryz.func114, by kernel_rfl, rfl⟩
theorem WY : gu Tryz.prog 115 := ⟨_, Tryz.func115, by kernel_rfl, rfl⟩
theorem Hq : gu Tryz.prog 116 := ⟨_, Tryz.func116, by kernel_rfl, rfl⟩
theorem WZ : gu Tryz.prog 124 := ⟨_, Tryz.func124, by kernel_rfl, rfl⟩
theorem Hr : gu Tryz.prog 125 := ⟨_, Tryz.func125, by kernel_rfl, rfl⟩
theorem QB : gu Tryz.prog 128 := ⟨_, Tryz.func128, by kernel_rfl, rfl⟩
theorem LG : gu Tryz.prog 129 := ⟨_, Tryz.func129, by kernel_rfl, rfl⟩
theorem LH : gu Tryz.prog 130 := ⟨_, Tryz.func130, by kernel_rfl, rfl⟩
theorem W9 : gu Tryz.prog 131 := ⟨_, Tryz.func131, by kernel_rfl, rfl⟩
theorem Xa : gu Tryz.prog 141 := ⟨_, Tryz.func141, by kernel_rfl, rfl⟩
theorem Bp : gu Tryz.prog 144 := ⟨_, Tryz.func144, by kernel_rfl, rfl⟩
theorem Dj : gu Tryz.prog 145 := ⟨_, Tryz.func145, by kernel_rfl, rfl⟩
theorem QC : gu Tryz.prog 146 := ⟨_, Tryz.func146, by kernel_rfl, rfl⟩
theorem QD : gu Tryz.prog 147 := ⟨_, Tryz.func147, by kernel_rfl, rfl⟩
theorem Xb : gu Tryz.prog 164 := ⟨_, Tryz.func164, by kernel_rfl, rfl⟩
theorem Zb : gu Tryz.prog 18 := ⟨_, Tryz.func18, by kernel_rfl, rfl⟩
theorem TN : gu Tryz.prog 19 := ⟨_, Tryz.func19, by kernel_rfl, rfl⟩
theorem TP : gu Tryz.prog 20 := ⟨_, Tryz.func20, by kernel_rfl, rfl⟩
theorem Zc : gu Tryz.prog 21 := ⟨_, Tryz.func21, by kernel_rfl, rfl⟩
theorem TQ : gu Tryz.prog 22 := ⟨_, Tryz.func22, by kernel_rfl, rfl⟩
theorem OU : gu Tryz.prog 24 := ⟨_, Tryz.func24, by kernel_rfl, rfl⟩
theorem TR : gu Tryz.prog 27 := ⟨_, Tryz.func27, by kernel_rfl, rfl⟩
theorem Zd : gu Tryz.prog 29 := ⟨_, Tryz.func29, by kernel_rfl, rfl⟩
theorem TS : gu Tryz.prog 31 := ⟨_, Tryz.func31, by kernel_rfl, rfl⟩
theorem Ze : gu Tryz.prog 39 := ⟨_, Tryz.func39, by kernel_rfl, rfl⟩
theorem Zf : gu Tryz.prog 40 := ⟨_, Tryz.func40, by kernel_rfl, rfl⟩
theorem Zg : gu Tryz.prog 44 := ⟨_, Tryz.func44, by kernel_rfl, rfl⟩
theorem TT : gu Tryz.prog 45 := ⟨_, Tryz.func45, by kernel_rfl, rfl⟩
theorem Zh : gu Tryz.prog 46 := ⟨_, Tryz.func46, by kernel_rfl, rfl⟩
theorem LJ : gu Tryz.prog 47 := ⟨_, Tryz.func47, by kernel_rfl, rfl⟩
theorem Zi : gu Tryz.prog 48 := ⟨_, Tryz.func48, by kernel_rfl, rfl⟩
theorem Zj : gu Tryz.prog 49 := ⟨_, Tryz.func49, by kernel_rfl, rfl⟩
theorem TU : gu Tryz.prog 50 := ⟨_, Tryz.func50, by kernel_rfl, rfl⟩
theorem pU : gu Tryz.prog 51 := ⟨_, Tryz.func51, by kernel_rfl, rfl⟩
theorem Zk : gu Tryz.prog 52 := ⟨_, Tryz.func52, by kernel_rfl, rfl⟩
theorem LK : gu Tryz.prog 53 := ⟨_, Tryz.func53, by kernel_rfl, rfl⟩
theorem Zl : gu Tryz.prog 54 := ⟨_, Tryz.func54, by kernel_rfl, rfl⟩
theorem yK : gu Tryz.prog 55 := ⟨_, Tryz.func55, by kernel_rfl, rfl⟩
theorem TV : gu Tryz.prog 56 := ⟨_, Tryz.func56, by kernel_rfl, rfl⟩
theorem Zm : gu Tryz.prog 58 := ⟨_, Tryz.func58, by kernel_rfl, rfl⟩
theorem Zn : gu Tryz.prog 59 := ⟨_, Tryz.func59, by kernel_rfl, rfl⟩
theorem TW : gu Tryz.prog 63 := ⟨_, Tryz.func63, by kernel_rfl, rfl⟩
theorem Zo : gu Tryz.prog 64 := ⟨_, Tryz.func64, by kernel_rfl, rfl⟩
theorem Zp : gu Tryz.prog 66 := ⟨_, Tryz.func66, by kernel_rfl, rfl⟩
theorem TY : gu Tryz.prog 67 := ⟨_, Tryz.func67, by kernel_rfl, rfl⟩
theorem OV : gu Tryz.prog 68 := ⟨_, Tryz.func68, by kernel_rfl, rfl⟩
theorem Zq : gu Tryz.prog 69 := ⟨_, Tryz.func69, by kernel_rfl, rfl⟩
theorem LM : gu Tryz.prog 76 := ⟨_, Tryz.func76, by kernel_rfl, rfl⟩
theorem Zr : gu Tryz.prog 77 := ⟨_, Tryz.func77, by kernel_rfl, rfl⟩
theorem Zt : gu Tryz.prog 78 := ⟨_, Tryz.func78, by kernel_rfl, rfl⟩
theorem Zu : gu Tryz.prog 79 := ⟨_, Tryz.func79, by kernel_rfl, rfl⟩
theorem TZ : gu Tryz.prog 80 := ⟨_, Tryz.func80, by kernel_rfl, rfl⟩
theorem OW : gu Tryz.prog 81 := ⟨_, Tryz.func81, by kernel_rfl, rfl⟩
theorem T9 : gu Tryz.prog 82 := ⟨_, Tryz.func82, by kernel_rfl, rfl⟩
theorem OX : gu Tryz.prog 83 := ⟨_, Tryz.func83, by kernel_rfl, rfl⟩
theorem OY : gu Tryz.prog 84 := ⟨_, Tryz.func84, by kernel_rfl, rfl⟩
theorem Ua : gu Tryz.prog 85 := ⟨_, Tryz.func85, by kernel_rfl, rfl⟩
theorem Zv : gu Tryz.prog 86 := ⟨_, Tryz.func86, by kernel_rfl, rfl⟩
theorem Zw : gu Tryz.prog 92 := ⟨_, Tryz.func92, by kernel_rfl, rfl⟩
theorem Rl : Tq Tryz.prog 156 := ⟨by kernel_rfl⟩
theorem oC : zD Tryz.prog 113 [(I6 0), (I6 0), (.slice none 0 0)] := ⟨⟨_, Tryz.underlying113, trivial⟩, by kernel_rfl⟩
theorem qK : zD Tryz.prog 147 [(I6 0), (I6 0), (.slice none 0 0), (.slice none 0 0), (.slice none 0 0), (.slice none 0 0)] := ⟨⟨_, Tryz.underlying147, trivial⟩, by kernel_rfl⟩
theorem lS : zD Tryz.prog 160 [(I6 0), (I6 0)] := ⟨⟨_, Tryz.underlying160, trivial⟩, by kernel_rfl⟩
theorem bM : zD Tryz.prog 26 [(.slice none 0 0), (.slice none 0 0), (I6 0), (I6 0)] := ⟨⟨_, Tryz.underlying26, trivial⟩, by kernel_rfl⟩
theorem fF : zD Tryz.prog 49 [(I6 0), (I6 0), (.slice none 0 0), (I6 0)] := ⟨⟨_, Tryz.underlying49, trivial⟩, by kernel_rfl⟩
theorem dR : zD Tryz.prog 51 [(I6 0), (I6 0)] := ⟨⟨_, Tryz.underlying51, trivial⟩, by kernel_rfl⟩
theorem qL : zD Tryz.prog 57 [(I6 0), (I6 0), (.slice none 0 0)] := ⟨⟨_, Tryz.underlying57, trivial⟩, by kernel_rfl⟩
theorem uC : zD Tryz.prog 93 [(I6 0), (I6 0), (I6 0), (I6 0), (.slice none 0 0)] := ⟨⟨_, Tryz.underlying93, trivial⟩, by kernel_rfl⟩
theorem EY : MapOf Tryz.prog 125 (.bool (false)) := ⟨_, _, Tryz.underlying125, Tryz.underlying3, by kernel_rfl⟩
theorem gM : MapOf Tryz.prog 131 (aN []) := ⟨_, _, Tryz.underlying131, Tryz.underlying3, by kernel_rfl⟩
theorem QE : MapOf Tryz.prog 89 (I6 0) := ⟨_, _, Tryz.underlying89, Tryz.underlying3, by kernel_rfl⟩
theorem rH : One Tryz.prog 111 (.slice none 0 0) := ⟨⟨_, Tryz.underlying111, trivial⟩, by kernel_rfl, rfl⟩
theorem FT : One Tryz.prog 125 (.map none) := ⟨⟨_, Tryz.underlying125, trivial⟩, by kernel_rfl, rfl⟩
theorem yL : One Tryz.prog 145 (.slice none 0 0) := ⟨⟨_, Tryz.underlying145, trivial⟩, by kernel_rfl, rfl⟩
theorem pV : One Tryz.prog 153 (.slice none 0 0) := ⟨⟨_, Tryz.underlying153, trivial⟩, by kernel_rfl, rfl⟩
theorem Bq : One Tryz.prog 159 .nilFunc := ⟨⟨_, Tryz.underlying159, trivial⟩, by kernel_rfl, rfl⟩
theorem LP : One Tryz.prog 165 .nilFunc := ⟨⟨_, Tryz.underlying165, trivial⟩, by kernel_rfl, rfl⟩
theorem Iq : One Tryz.prog 166 .nilFunc := ⟨⟨_, Tryz.underlying166, trivial⟩, by kernel_rfl, rfl⟩
theorem lJ : One Tryz.prog 23 (.slice none 0 0) := ⟨⟨_, Tryz.underlying23, trivial⟩, by kernel_rfl, rfl⟩
theorem jL : One Tryz.prog 24 (.slice none 0 0) := ⟨⟨_, Tryz.underlying24, trivial⟩, by kernel_rfl, rfl⟩
theorem jc : One Tryz.prog 27 (.slice none 0 0) := ⟨⟨_, Tryz.underlying27, trivial⟩, by kernel_rfl, rfl⟩
theorem aP : One Tryz.prog 3 (I6 0) := ⟨⟨_, Tryz.underlying3, trivial⟩, by kernel_rfl, rfl⟩
theorem vE : One Tryz.prog 4 (.bool (false)) := ⟨⟨_, Tryz.underlying4, trivial⟩, by kernel_rfl, rfl⟩
theorem kr : One Tryz.prog 47 (.slice none 0 0) := ⟨⟨_, Tryz.underlying47, trivial⟩, by kernel_rfl, rfl⟩
theorem yM : One Tryz.prog 55 (.slice none 0 0) := ⟨⟨_, Tryz.underlying55, trivial⟩, by kernel_rfl, rfl⟩
theorem Af : One Tryz.prog 67 (.slice none 0 0) := ⟨⟨_, Tryz.underlying67, trivial⟩, by kernel_rfl, rfl⟩
theorem QF : One Tryz.prog 89 (.map none) := ⟨⟨_, Tryz.underlying89, trivial⟩, by kernel_rfl, rfl⟩
theorem Ag : One Tryz.prog 9 (aN []) := ⟨⟨_, Tryz.underlying9, trivial⟩, by kernel_rfl, rfl⟩
theorem Xc : Tg Tryz.prog 51 := ⟨⟨_, _, Tryz.underlying51, by decide, by decide, rfl, rfl, Tryz.underlying3, Tryz.underlying3, by kernel_rfl, by kernel_rfl⟩, by kernel_rfl, by kernel_rfl⟩
theorem nu : SliceOf Tryz.prog 111 147 6 := ⟨Tryz.underlying111, by kernel_rfl⟩
theorem lX : SliceOf Tryz.prog 145 160 2 := ⟨Tryz.underlying145, by kernel_rfl⟩
theorem fU : SliceOf Tryz.prog 153 9 1 := ⟨Tryz.underlying153, by kernel_rfl⟩
theorem Ir : SliceOf Tryz.prog 204 111 1 := ⟨Tryz.underlying204, by kernel_rfl⟩
theorem iM : SliceOf Tryz.prog 22 57 3 := ⟨Tryz.underlying22, by kernel_rfl⟩
theorem dI : SliceOf Tryz.prog 23 49 4 := ⟨Tryz.underlying23, by kernel_rfl⟩
theorem dO : SliceOf Tryz.prog 24 47 1 := ⟨Tryz.underlying24, by kernel_rfl⟩
theorem bN : SliceOf Tryz.prog 27 3 1 := ⟨Tryz.underlying27, by kernel_rfl⟩
theorem di : SliceOf Tryz.prog 47 51 2 := ⟨Tryz.underlying47, by kernel_rfl⟩
theorem iU : SliceOf Tryz.prog 55 93 5 := ⟨Tryz.underlying55, by kernel_rfl⟩
theorem jw : SliceOf Tryz.prog 67 113 3 := ⟨Tryz.underlying67, by kernel_rfl⟩
theorem Rm : Struct Tryz.prog 113 [(I6 0), (I6 0), (.slice none 0 0)] [(0, 1), (1, 1), (2, 1)] := ⟨by kernel_rfl, _, Tryz.underlying113, by kernel_rfl⟩
theorem Rn : Struct Tryz.prog 147 [(I6 0), (I6 0), (.slice none 0 0), (.slice none 0 0), (.slice none 0 0), (.slice none 0 0)] [(0, 1), (1, 1), (2, 1), (3, 1), (4, 1), (5, 1)] := ⟨by kernel_rfl, _, Tryz.underlying147, by kernel_rfl⟩
theorem Ah : Struct Tryz.prog 160 [(I6 0), (I6 0)] [(0, 1), (1, 1)] := ⟨by kernel_rfl, _, Tryz.underlying160, by kernel_rfl⟩
theorem qf : Struct Tryz.prog 26 [(.slice none 0 0), (.slice none 0 0), (I6 0), (I6 0)] [(0, 1), (1, 1), (2, 1), (3, 1)] := ⟨by kernel_rfl, _, Tryz.underlying26, by kernel_rfl⟩
theorem Iu : Struct Tryz.prog 49 [(I6 0), (I6 0), (.slice none 0 0), (I6 0)] [(0, 1), (1, 1), (2, 1), (3, 1)] := ⟨by kernel_rfl, _, Tryz.underlying49, by kernel_rfl⟩
theorem Na : Struct Tryz.prog 51 [(I6 0), (I6 0)] [(0, 1), (1, 1)] := ⟨by kernel_rfl, _, Tryz.underlying51, by kernel_rfl⟩
theorem Ub : Struct Tryz.prog 57 [(I6 0), (I6 0), (.slice none 0 0)] [(0, 1), (1, 1), (2, 1)] := ⟨by kernel_rfl, _, Tryz.underlying57, by kernel_rfl⟩
theorem pg : Struct Tryz.prog 93 [(I6 0), (I6 0), (I6 0), (I6 0), (.slice none 0 0)] [(0, 1), (1, 1), (2, 1), (3, 1), (4, 1)] := ⟨by kernel_rfl, _, Tryz.underlying93, by kernel_rfl⟩
theorem mixed : Tryz.prog.follows .mixedOrders = true := by kernel_rfl
theorem GZ (w0 : World) (M : BS) (hM : ∀ b, M b → b < w0.heap.size) (hT : xg Tryz.prog 4 w0) (a : Str) (b : Str) (r : List Str) (hs : Lj a b = some r) :
    Calls Tryz.prog 101 #[aN a, aN b] w0 (fun e w' => Grow w0 w' ∧ ∃ u, e = .returned u ∧ gF qD w' M u r) :=
  Wz Tryz.strings_Split hM hT hs
theorem si (w0 : World) (M : BS) (hM : ∀ b, M b → b < w0.heap.size) (hT : xg Tryz.prog 4 w0) (a : Str) (r : Int × Bool) (hs : Cn a = some r) :
    Calls Tryz.prog 102 #[aN a] w0 (fun e w' => Grow w0 w' ∧ ∃ u, e = .returned (.tuple #[.int .i64 r.1, u]) ∧ MV u r.2) :=
  YW Tryz.strconv_Atoi_ok Tryz.strconv_Atoi_syntax_var Tryz.strconv_Atoi_range_var hT hs
def aI (a : Int) (b : Int) (c : Int) : Bool :=
  (decide ((b : Int) ≤ a) && decide ((a : Int) ≤ c))
theorem dD (w0 : World) (M : BS) (hM : ∀ b, M b → b < w0.heap.size) (a : Int) (b : Int) (c : Int) (r : Bool) (hs : aI a b c = r) :
    Calls Tryz.prog 51 #[(I6 a), (I6 b), (I6 c)] w0 (fun e w' => Grow w0 w' ∧ e = .returned (.bool r)) := by
 refine aL (args := [(I6 a), (I6 b), (I6 c)]) Tryz.func51 rfl Tryz.ntmps51 (bH rfl) ?_
 have h := SH.init hM
 refine nG (aa (ae (v := (.bool (false))) rfl) (nJ (aa (ag (v := (I6 b)) rfl) (aa (ag (v := (I6 a)) rfl) (aa (Gt rfl rfl) (aa (ag (v := (.bool (decide ((b : Int) ≤ a)))) rfl) (az rfl rfl (fun q => ag (v := (I6 a)) rfl) (az rfl rfl (fun q => ag (v := (I6 c)) rfl) (az rfl rfl (fun q => Gt (dE q) (dE q)) (aa (fB rfl rfl lW) (aa (ae (v := (.bool ((decide ((b : Int) ≤ a) && decide ((a : Int) ≤ c))))) rfl) (nR (bI (v := (.bool ((decide ((b : Int) ≤ a) && decide ((a : Int) ≤ c))))) Tryz.results51 rfl ?_)))))))))))))
 obtain rfl := hs
 exact ⟨h.grown, rfl⟩
def qM (Ro : Int → Option (Int × Bool)) (x40 : Int) : Option (Int × Bool) :=
  Ro x40
def qN (F0 : List bG → Int → Option (Int × Bool)) (b : Int) (Ba : List bG) (x32 : Int) (Ro : Int → Option (Int × Bool)) : Option (Int × Bool) :=
  bif decide ((0 : Int) < (Ba.length : Int)) then iA (jN (b - 1)) ((F0 Ba (b - 1)).bind fun uO => iA (jN (x32 + uO.1)) (bif ((!uO.2) || decide ((30 : Int) < (x32 + uO.1))) then some (0, false) else qM Ro (x32 + uO.1))) else qM Ro x32
def qO (LQ : Int → Option (Int × Bool)) (x32 : Int) : Option (Int × Bool) :=
  bif decide ((30 : Int) < x32) then some (0, false) else LQ x32
def qP (F0 : List bG → Int → Option (Int × Bool)) (b : Int) (a : List bG) (x8 : bG) (x5 : Int) (LQ : Int → Option (Int × Bool)) : Option (Int × Bool) :=
  iA (jN (x5 + 1)) (each (qN F0 b) (qO LQ) [x8.a, x8.b] (x5 + 1))
def qQ (x5 : Int) : Option (Int × Bool) :=
  some (x5, true)
def xY (F0 : List bG → Int → Option (Int × Bool)) (a : List bG) (b : Int) : Option (Int × Bool) :=
  bif decide ((b : Int) < 1) then some (0, false) else each (qP F0 b a) qQ a 0
def pq : Nat → List bG → Int → Option (Int × Bool)
  | 0 => fun _ _ => none
  | N + 1 => xY (pq N)
theorem DC : ∀ (N : Nat) (w0 : World) (M : BS) (hM : ∀ b, M b → b < w0.heap.size) (va : Value) (a : List bG) (ha : fK fT w0 BE M va a) (b : Int) (r : Int × Bool) (hs : pq N a b = some r),
    Calls Tryz.prog 128 #[va, (I6 b)] w0 (fun e w' => Grow w0 w' ∧ e = .returned (.tuple #[.int .i64 r.1, .bool r.2])) := by
 intro N
 induction N with
 | zero => intro w0 M hM va a ha b r hs; cases hs
 | succ N ih =>
 intro w0 M hM va a ha b r hs
 replace hs : xY (pq N) a b = some r := hs
 generalize pq N = F0 at hs ih
 refine aL (args := [va, (I6 b)]) Tryz.func128 rfl Tryz.ntmps128 (bH rfl) ?_
 have h := SH.init hM
 replace h := h.eu 1 ha aT
 have tQ := ha.bD
 refine nG (aa (ae (v := (I6 0)) rfl) (aa (ae (v := (.bool (false))) rfl) (nK (aa (ag (v := (I6 b)) rfl) (aa (dK rfl rfl) (nN (aK hs rfl (fun c1 hs => ?_) (fun c1 hs => ?_))))))))
 refine nG (aa (ae (v := (I6 0)) rfl) (aa (ae (v := (.bool (false))) rfl) (nR (ax (Dz (v1 := (I6 0)) (v2 := (.bool (false))) Tryz.results128 rfl rfl ?_)))))
 obtain rfl := gK hs
 exact ⟨h.grown, rfl⟩
 refine nS (aa (ae (v := (I6 0)) rfl) (nK (aa (ag (v := va) rfl) (aa (aX nu rfl (h.fQ 1 rfl)) (aa (ag (v := (I6 0)) rfl) (nN (aH (eF (σ := Nat × Int × Int) (inl ([4, 5, 6, 8, 10, 11, 12] ++ rg 17 39)) (fun ⟨k6, i7, x5⟩ => [(6, (I6 x5)), (17, (I6 i7))]) (fun ⟨k6, i7, x5⟩ w => SH w0 M BE w (hset [(1, .sr fT va a)]) ∧ i7 = (k6 : Int) ∧ each (qP F0 b a) qQ (a.drop k6) x5 = some r) (fun ⟨k6, i7, x5⟩ => a.length - k6) ⟨0, 0, 0⟩ ⟨rfl, rfl, trivial⟩ ?_ ?_))))))))
 exact ⟨h.cn _, rfl, hs⟩
 rintro ⟨k6, i7, x5⟩ w dC ⟨h, hik, hs⟩
 refine nG ?_
 refine aa (dK rfl rfl) (nN ?_)
 refine aJ (fD rfl (fun e11 => ?_) (fun e11 => ?_))
 refine aG (aj ?_)
 obtain ⟨x8, Zx, Zy⟩ := eU (hik ▸ e11)
 rw [Zy, df] at hs
 generalize Uc : each (qP F0 b a) qQ (a.drop (k6 + 1)) = LQ at hs
 have Zz := eZ ((h.fQ 1 rfl)).bD hik e11
 refine aJ (aH (nG ?_))
 obtain ⟨b14, o15, cs16, h, r17, i13⟩ := h.vo 1 2 rfl nu rfl (gB hik) (eY hik Zx)
 obtain ⟨SA, u20, u22, u24, rfl, g19, g21, g23, ZA⟩ := Bj r17
 replace h := h.bK 3 g19.up
 replace h := h.bK 4 g21.up.up
 replace h := h.bK 5 g23.up.up.up
 replace h := h.bK 6 ZA.up.up.up.up
 refine aa (i13 _ _ _ _ _ _ _ _ _ rfl rfl) (aa (iD (k := 0) (vs := [(I6 x8.kind), (I6 x8.n), SA, u20, u22, u24]) h 2 rfl qK rfl rfl rfl (bH rfl)) (bu h 7 qK fun w ZB h => dN (vs := [(I6 x8.kind), (I6 x8.n), SA, u20, u22, u24]) h 7 [(I6 x8.kind), (I6 x8.n), SA, u20, u22, u24] rfl qK rfl rfl rfl rfl rfl (ai rfl (ai rfl (ai (h.gy 3 rfl).one (ai (h.gy 4 rfl).one (ai (h.gy 5 rfl).one (ai (h.gy 6 rfl).one aS)))))) fun w h => nJ (aa (ag (v := (I6 x5)) rfl) ?_)))
 obtain ⟨a27, hs⟩ := bE hs
 refine aa (dz rfl rfl a27) (aa (ae (v := (I6 ((x5 + 1)))) rfl) (nK (aa (ah Ad rfl) (aa (aB h 7 rfl rH rfl rfl) (aa (ah Ae rfl) (aa (aB h 7 rfl rH rfl rfl) (mX (R := (kW fT)) (vs := [u22, u24]) (xs := [x8.a, x8.b]) h 8 Rk rfl rfl rfl ⟨(h.gy 5 rfl).Ww, ⟨(h.gy 6 rfl).Ww, trivial⟩⟩ rfl fun w u28 h => aa (aX Ir rfl (h.dJ 8 rfl)) (aa (ag (v := (I6 0)) rfl) (nN (aH ?_))))))))))
 replace h := h.freeze 8 rfl
 refine eF (σ := Nat × Int × Int) (inl ([4, 5, 6, 10, 11, 12] ++ rg 29 24)) (fun ⟨QG, i34, x32⟩ => [(6, (I6 x32)), (29, (I6 i34))]) (fun ⟨QG, i34, x32⟩ w => SH w0 M BE w (hset [(1, .sr fT va a), (8, .rd (kW fT) u28 [x8.a, x8.b])]) ∧ i34 = (QG : Int) ∧ each (qN F0 b) (qO LQ) ([x8.a, x8.b].drop QG) x32 = some r) (fun ⟨QG, i34, x32⟩ => [x8.a, x8.b].length - QG) ⟨0, 0, (x5 + 1)⟩ ⟨rfl, rfl, trivial⟩ ?_ ?_
 exact ⟨h.cn _, rfl, hs⟩
 rintro ⟨QG, i34, x32⟩ w dC ⟨h, hik, hs⟩
 refine nG ?_
 refine aa (dK rfl rfl) (nN ?_)
 refine aJ (fD rfl (fun e38 => ?_) (fun e38 => ?_))
 refine aG (aj ?_)
 obtain ⟨Ba, e39a, e39b⟩ := eU (hik ▸ e38)
 rw [e39b, df] at hs
 generalize hnx37 : each (qN F0 b) (qO LQ) ([x8.a, x8.b].drop (QG + 1)) = Ro at hs
 have e39r := eZ ((h.lF 8 rfl)).bD hik e38
 refine dm (σ := Int) (inl ([4, 5, 6, 10, 11, 12] ++ rg 31 21)) (fun x40 => [(6, (I6 x40))]) (fun x40 w => SH w0 M BE w (hset [(1, .sr fT va a), (8, .rd (kW fT) u28 [x8.a, x8.b])]) ∧ qM Ro x40 = some r) ?_ ?_
 rintro x40 w dC ⟨h, hs⟩
 refine ay (aa (dz rfl rfl e39r) (aa (ag (v := (I6 ((i34 + 1)))) rfl) (aC (ak ?_))))
 subst hnx37
 exact iw ⟨QG + 1, i34 + 1, x40⟩ ⟨h.cn _, by omega, hs⟩ (by have := kQ e38; dsimp only; omega)
 refine aH (nG ?_)
 obtain ⟨b42, o43, cs44, h, r45, i41⟩ := h.FH 8 9 rfl Ir rfl (gB hik) (eY hik e39a)
 obtain ⟨u46, rfl, g47⟩ := r45
 replace h := h.bK 10 g47.up
 refine aa (i41 _ _ _ _ _ _ _ _ _ rfl rfl) (aa (eQ (k := 0) h 9 rfl rH rfl rfl) (aa (ae (v := u46) rfl) (nJ (aa (ag (v := u46) rfl) (aa (aX nu rfl (h.lF 10 rfl)) (aa (jK rfl rfl) (nN (aK hs rfl (fun c48 hs => ?_) (fun c48 hs => ?_)))))))))
 refine nG (aa (ag (v := u46) rfl) (aa (ag (v := (I6 b)) rfl) ?_))
 obtain ⟨a49, hs⟩ := bE hs
 refine aa (tY rfl rfl a49) ?_
 obtain ⟨uO, e51, hs⟩ := aM hs
 refine aO QB rfl rfl (ih _ _ h.lt u46 Ba (h.lF 10 rfl) (b - 1) _ e51) ?_
 rintro _ w ⟨k52, rfl⟩
 refine ⟨_, rfl, ?_⟩
 replace h := h.grow k52
 refine aa (ag (v := (.tuple #[(I6 uO.1), (.bool (uO.2))])) rfl) (aa (bJ rfl rfl) (aa (bJ rfl rfl) (aa (ae (v := (I6 uO.1)) rfl) (aa (ae (v := (.bool (uO.2))) rfl) (nJ (aa (ag (v := (I6 x32)) rfl) (aa (ag (v := (I6 uO.1)) rfl) ?_)))))))
 obtain ⟨a53, hs⟩ := bE hs
 refine aa (dz rfl rfl a53) (aa (ae (v := (I6 ((x32 + uO.1)))) rfl) (nJ (aa (ag (v := (.bool (uO.2))) rfl) (aa (dU rfl) (aa (ag (v := (.bool ((!uO.2)))) rfl) (az rfl rfl (fun q => ag (v := (I6 ((x32 + uO.1)))) rfl) (az rfl rfl (fun q => jK (dE q) rfl) (aa (iO rfl rfl lW) (nN (aK hs rfl (fun c54 hs => ?_) (fun c54 hs => ?_)))))))))))
 refine nG (aa (ae (v := (I6 0)) rfl) (aa (ae (v := (.bool (false))) rfl) (nR (aD (ax (ax (aD (ax (aD (ax (ax (aD (ax (Dz (v1 := (I6 0)) (v2 := (.bool (false))) Tryz.results128 rfl rfl ?_))))))))))))))
 obtain rfl := gK hs
 exact ⟨h.grown, rfl⟩
 refine aG (au (ak ?_))
 exact cO (x32 + uO.1) ⟨h.cn _, hs⟩
 refine aG (au (ak ?_))
 exact cO x32 ⟨h.cn _, hs⟩
 rw [eX (hik ▸ e38), dZ] at hs
 refine nE (aa (ag (v := (I6 x32)) rfl) (aa (jK rfl rfl) (nN (aK hs rfl (fun c55 hs => ?_) (fun c55 hs => ?_)))))
 refine nG (aa (ae (v := (I6 0)) rfl) (aa (ae (v := (.bool (false))) rfl) (nR (aD (ax (ax (aD (ax (Dz (v1 := (I6 0)) (v2 := (.bool (false))) Tryz.results128 rfl rfl ?_)))))))))
 obtain rfl := gK hs
 exact ⟨h.grown, rfl⟩
 refine aG (au (aj (ay (aa (dz rfl rfl Zz) (aa (ag (v := (I6 ((i7 + 1)))) rfl) (aC (ak ?_)))))))
 subst Uc
 exact iw ⟨k6 + 1, i7 + 1, x32⟩ ⟨h.cn _, by omega, hs⟩ (by have := kQ e11; dsimp only; omega)
 rw [eX (hik ▸ e11), dZ] at hs
 refine nE (aa (ag (v := (I6 x5)) rfl) (aa (ae (v := (I6 x5)) rfl) (aa (ae (v := (.bool (true))) rfl) (nR (Dz (v1 := (I6 x5)) (v2 := (.bool (true))) Tryz.results128 rfl rfl ?_)))))
 obtain rfl := gK hs
 exact ⟨h.grown, rfl⟩
theorem kY (w0 : World) (M : BS) (hM : ∀ b, M b → b < w0.heap.size) (a : Str) (b : UInt8) (r : Bool) (hs : hasB a b = r) :
    Calls Tryz.prog 145 #[(aN a), (aN [b])] w0 (fun e w' => Grow w0 w' ∧ e = .returned (.bool r)) := by
  refine (Tryz.strings_Contains_one ⟨a.toArray⟩ b w0).mono ?_
  rintro e w' ⟨rfl, rfl⟩
  subst hs
  exact ⟨aQ.refl _ _, by simp [hasB]⟩
def aF (a : Int) (b : Int) : Bool :=
  (decide ((0 : Int) ≤ a) && decide ((a : Int) < b))
theorem fG (w0 : World) (M : BS) (hM : ∀ b, M b → b < w0.heap.size) (a : Int) (b : Int) (r : Bool) (hs : aF a b = r) :
    Calls Tryz.prog 55 #[(I6 a), (I6 b)] w0 (fun e w' => Grow w0 w' ∧ e = .returned (.bool r)) := by
 refine aL (args := [(I6 a), (I6 b)]) Tryz.func55 rfl Tryz.ntmps55 (bH rfl) ?_
 have h := SH.init hM
 refine nG (aa (ae (v := (.bool (false))) rfl) (nJ (aa (ag (v := (I6 a)) rfl) (aa (qE rfl rfl) (aa (ag (v := (.bool (decide ((0 : Int) ≤ a)))) rfl) (az rfl rfl (fun q => ag (v := (I6 a)) rfl) (az rfl rfl (fun q => ag (v := (I6 b)) rfl) (az rfl rfl (fun q => dK (dE q) (dE q)) (aa (fB rfl rfl lW) (aa (ae (v := (.bool ((decide ((0 : Int) ≤ a) && decide ((a : Int) < b))))) rfl) (nR (bI (v := (.bool ((decide ((0 : Int) ≤ a) && decide ((a : Int) < b))))) Tryz.results55 rfl ?_))))))))))))
 obtain rfl := hs
 exact ⟨h.grown, rfl⟩
def ed (a : Int) : Bool :=
  (aI a (-1000000000) 1000000000)
theorem qR (w0 : World) (M : BS) (hM : ∀ b, M b → b < w0.heap.size) (a : Int) (r : Bool) (hs : ed a = r) :
    Calls Tryz.prog 53 #[(I6 a)] w0 (fun e w' => Grow w0 w' ∧ e = .returned (.bool r)) := by
 refine aL (args := [(I6 a)]) Tryz.func53 rfl Tryz.ntmps53 (bH rfl) ?_
 have h := SH.init hM
 refine nG (aa (ae (v := (.bool (false))) rfl) (nJ (aa (ag (v := (I6 a)) rfl) (aO pU rfl rfl (dD _ _ h.lt a (-1000000000) 1000000000 _ rfl) ?_))))
 rintro _ w ⟨k1, rfl⟩
 refine ⟨_, rfl, ?_⟩
 replace h := h.grow k1
 refine aa (ae (v := (.bool ((aI a (-1000000000) 1000000000)))) rfl) (nR (bI (v := (.bool ((aI a (-1000000000) 1000000000)))) Tryz.results53 rfl ?_))
 obtain rfl := hs
 exact ⟨h.grown, rfl⟩
def ib (x2 : Bool) : Int :=
  bif (!x2) then 3 else 0
def fO (a : Tok) (b : List gG) (c : Int) : Int :=
  bif decide ((a.kind : Int) = 1) then ib (ed a.n) else bif decide ((a.kind : Int) = 2) then ib (aF a.n c) else bif decide ((a.kind : Int) = 3) then ib (aI a.n 1 5) else bif decide ((a.kind : Int) = 4) then ib (aI a.n 0 3) else bif decide ((a.kind : Int) = 5) then ib (aI a.n 1 4) else bif decide ((a.kind : Int) = 6) then bif (!(aF a.n (b.length : Int))) then 5 else ib true else 4
theorem vG (w0 : World) (M : BS) (hM : ∀ b, M b → b < w0.heap.size) (a : Tok) (vb : Value) (b : List gG) (hb : fK jM w0 BE M vb b) (c : Int) (r : Int) (hs : fO a b c = r) :
    Calls Tryz.prog 107 #[(.agg #[(I6 a.kind), (I6 a.n)]), vb, (I6 c)] w0 (fun e w' => Grow w0 w' ∧ e = .returned (.int .i64 r)) := by
 refine aL (args := [(.agg #[(I6 a.kind), (I6 a.n)]), vb, (I6 c)]) Tryz.func107 rfl Tryz.ntmps107 (bH rfl) ?_
 have h := SH.init hM
 replace h := h.eu 1 hb aT
 have FU := hb.bD
 refine nG (l7 (cs := [(I6 a.kind), (I6 a.n)]) h 2 rfl rfl fun w b1 h => aa (ae (v := (I6 0)) rfl) (nJ (aa (ae (v := (.bool (false))) rfl) (nN (dm (σ := Bool) (inl (rg 6 38)) (fun x2 => [(7, (.bool (x2)))]) (fun x2 w => SH w0 M BE w (hset []) ∧ ib x2 = r) ?_ ?_)))))
 rintro x2 w dC ⟨h, hs⟩
 refine aJ (nG (aa (ag (v := (.bool (x2))) rfl) (aa (dU rfl) (nN (aK hs rfl (fun c3 hs => ?_) (fun c3 hs => ?_))))))
 refine nG (aa (ae (v := (I6 3)) rfl) (nR (ax (bI (v := (I6 3)) Tryz.results107 rfl ?_))))
 obtain rfl := hs
 exact ⟨h.grown, rfl⟩
 refine nS (aa (ae (v := (I6 0)) rfl) (nR (bI (v := (I6 0)) Tryz.results107 rfl ?_)))
 obtain rfl := hs
 exact ⟨h.grown, rfl⟩
 refine nG (aa (ah EW rfl) (aa (aB h 2 rfl aP rfl rfl) (nN (aH (nG (aa (bW rfl rfl) (aa (ae (v := (.bool (decide ((a.kind : Int) = 1)))) rfl) (nN (aK hs rfl (fun c4 hs => ?_) (fun c4 hs => ?_))))))))))
 refine ay (aa (ah qd rfl) (aa (aB h 2 rfl aP rfl rfl) (aO LK rfl rfl (qR _ _ h.lt a.n _ rfl) ?_)))
 rintro _ w ⟨k5, rfl⟩
 refine ⟨_, rfl, ?_⟩
 replace h := h.grow k5
 refine aa (ae (v := (.bool ((ed a.n)))) rfl) (aC (au (ak ?_)))
 exact cO (ed a.n) ⟨h.cn _, hs⟩
 refine nG (aa (bW rfl rfl) (aa (ae (v := (.bool (decide ((a.kind : Int) = 2)))) rfl) (nN (aK hs rfl (fun c6 hs => ?_) (fun c6 hs => ?_)))))
 refine ay (aa (ah qd rfl) (aa (aB h 2 rfl aP rfl rfl) (aa (ag (v := (I6 c)) rfl) (aO yK rfl rfl (fG _ _ h.lt a.n c _ rfl) ?_))))
 rintro _ w ⟨k7, rfl⟩
 refine ⟨_, rfl, ?_⟩
 replace h := h.grow k7
 refine aa (ae (v := (.bool ((aF a.n c)))) rfl) (aC (au (ak ?_)))
 exact cO (aF a.n c) ⟨h.cn _, hs⟩
 refine nG (aa (bW rfl rfl) (aa (ae (v := (.bool (decide ((a.kind : Int) = 3)))) rfl) (nN (aK hs rfl (fun c8 hs => ?_) (fun c8 hs => ?_)))))
 refine ay (aa (ah qd rfl) (aa (aB h 2 rfl aP rfl rfl) (aO pU rfl rfl (dD _ _ h.lt a.n 1 5 _ rfl) ?_)))
 rintro _ w ⟨k9, rfl⟩
 refine ⟨_, rfl, ?_⟩
 replace h := h.grow k9
 refine aa (ae (v := (.bool ((aI a.n 1 5)))) rfl) (aC (au (ak ?_)))
 exact cO (aI a.n 1 5) ⟨h.cn _, hs⟩
 refine nG (aa (bW rfl rfl) (aa (ae (v := (.bool (decide ((a.kind : Int) = 4)))) rfl) (nN (aK hs rfl (fun c10 hs => ?_) (fun c10 hs => ?_)))))
 refine ay (aa (ah qd rfl) (aa (aB h 2 rfl aP rfl rfl) (aO pU rfl rfl (dD _ _ h.lt a.n 0 3 _ rfl) ?_)))
 rintro _ w ⟨k11, rfl⟩
 refine ⟨_, rfl, ?_⟩
 replace h := h.grow k11
 refine aa (ae (v := (.bool ((aI a.n 0 3)))) rfl) (aC (au (ak ?_)))
 exact cO (aI a.n 0 3) ⟨h.cn _, hs⟩
 refine nG (aa (bW rfl rfl) (aa (ae (v := (.bool (decide ((a.kind : Int) = 5)))) rfl) (nN (aK hs rfl (fun c12 hs => ?_) (fun c12 hs => ?_)))))
 refine ay (aa (ah qd rfl) (aa (aB h 2 rfl aP rfl rfl) (aO pU rfl rfl (dD _ _ h.lt a.n 1 4 _ rfl) ?_)))
 rintro _ w ⟨k13, rfl⟩
 refine ⟨_, rfl, ?_⟩
 replace h := h.grow k13
 refine aa (ae (v := (.bool ((aI a.n 1 4)))) rfl) (aC (au (ak ?_)))
 exact cO (aI a.n 1 4) ⟨h.cn _, hs⟩
 refine nG (aa (bW rfl rfl) (aa (ae (v := (.bool (decide ((a.kind : Int) = 6)))) rfl) (nN (aK hs rfl (fun c14 hs => ?_) (fun c14 hs => ?_)))))
 refine aJ (nG (aa (ah qd rfl) (aa (aB h 2 rfl aP rfl rfl) (aa (ag (v := vb) rfl) (aa (aX jw rfl (h.fQ 1 rfl)) (aO yK rfl rfl (fG _ _ h.lt a.n (b.length : Int) _ rfl) ?_))))))
 rintro _ w ⟨k15, rfl⟩
 refine ⟨_, rfl, ?_⟩
 replace h := h.grow k15
 refine aa (dU rfl) (nN (aK hs rfl (fun c16 hs => ?_) (fun c16 hs => ?_)))
 refine nG (aa (ae (v := (I6 5)) rfl) (nR (ax (aD (ax (bI (v := (I6 5)) Tryz.results107 rfl ?_))))))
 obtain rfl := hs
 exact ⟨h.grown, rfl⟩
 refine aG (aj (ay (aa (ae (v := (.bool (true))) rfl) (aC (au (ak ?_))))))
 exact cO true ⟨h.cn _, hs⟩
 refine nG (aa (ae (v := (I6 4)) rfl) (nR (aD (ax (bI (v := (I6 4)) Tryz.results107 rfl ?_)))))
 obtain rfl := hs
 exact ⟨h.grown, rfl⟩
def tu (a : Tok) (b : List gG) : Option Int :=
  bif decide ((a.kind : Int) = 3) then some 2 else bif decide ((a.kind : Int) = 4) then some 1 else bif decide ((a.kind : Int) = 6) then (idx b a.n).bind fun x5 => some x5.params else some 0
theorem uD (w0 : World) (M : BS) (hM : ∀ b, M b → b < w0.heap.size) (a : Tok) (vb : Value) (b : List gG) (hb : fK jM w0 BE M vb b) (r : Int) (hs : tu a b = some r) :
    Calls Tryz.prog 108 #[(.agg #[(I6 a.kind), (I6 a.n)]), vb] w0 (fun e w' => Grow w0 w' ∧ e = .returned (.int .i64 r)) := by
 refine aL (args := [(.agg #[(I6 a.kind), (I6 a.n)]), vb]) Tryz.func108 rfl Tryz.ntmps108 (bH rfl) ?_
 have h := SH.init hM
 replace h := h.eu 1 hb aT
 have FU := hb.bD
 refine nG (l7 (cs := [(I6 a.kind), (I6 a.n)]) h 2 rfl rfl fun w b1 h => aa (ae (v := (I6 0)) rfl) (nK (aa (ah EW rfl) (aa (aB h 2 rfl aP rfl rfl) (nN (aH (nG (aa (bW rfl rfl) (aa (ae (v := (.bool (decide ((a.kind : Int) = 3)))) rfl) (nN (aK hs rfl (fun c2 hs => ?_) (fun c2 hs => ?_))))))))))))
 refine nG (aa (ae (v := (I6 2)) rfl) (nR (aD (ax (bI (v := (I6 2)) Tryz.results108 rfl ?_)))))
 obtain rfl := gK hs
 exact ⟨h.grown, rfl⟩
 refine nG (aa (bW rfl rfl) (aa (ae (v := (.bool (decide ((a.kind : Int) = 4)))) rfl) (nN (aK hs rfl (fun c3 hs => ?_) (fun c3 hs => ?_)))))
 refine nG (aa (ae (v := (I6 1)) rfl) (nR (aD (ax (bI (v := (I6 1)) Tryz.results108 rfl ?_)))))
 obtain rfl := gK hs
 exact ⟨h.grown, rfl⟩
 refine nG (aa (bW rfl rfl) (aa (ae (v := (.bool (decide ((a.kind : Int) = 6)))) rfl) (nN (aK hs rfl (fun c4 hs => ?_) (fun c4 hs => ?_)))))
 refine nG (aa (ag (v := vb) rfl) (aa (ah qd rfl) (aa (aB h 2 rfl aP rfl rfl) ?_)))
 obtain ⟨x5, e6, hs⟩ := aM hs
 obtain ⟨b8, o9, cs10, h, r11, i7⟩ := h.vo 1 3 rfl jw rfl (aR e6).1 (aR e6).2
 obtain ⟨SB, rfl, g13⟩ := uN r11
 replace h := h.bK 4 g13.up
 refine aa (i7 _ _ _ _ _ _ _ _ _ rfl rfl) (aa (ah xh rfl) (aa (eQ (k := 0) h 3 rfl aP rfl rfl) (aa (ae (v := (I6 x5.params)) rfl) (nR (aD (ax (bI (v := (I6 x5.params)) Tryz.results108 rfl ?_)))))))
 obtain rfl := gK hs
 exact ⟨h.grown, rfl⟩
 refine aG (au (aj (nG (aa (ae (v := (I6 0)) rfl) (nR (bI (v := (I6 0)) Tryz.results108 rfl ?_))))))
 obtain rfl := gK hs
 exact ⟨h.grown, rfl⟩
def vH (a : List Int) (s : Int × Int) (Ud : Int × Int → Option Int) : Option Int :=
  match s with | (vJ, p8) => bif decide ((p8 : Int) < (a.length : Int)) then (idx a p8).bind fun x25 => iA (jN (p8 + 1)) (Ud ((max vJ x25), (p8 + 1))) else some vJ
def slices_Max_int (N : Nat) (a : List Int) : Option Int :=
  bif decide (((a.length : Int) : Int) < 1) then none else (idx a 0).bind fun x2 => again (vH a) N (x2, 1)
theorem FV (N : Nat) (w0 : World) (M : BS) (hM : ∀ b, M b → b < w0.heap.size) (va : Value) (a : List Int) (ha : fK dw w0 BE M va a) (r : Int) (hs : slices_Max_int N a = some r) :
    Calls Tryz.prog 164 #[va] w0 (fun e w' => Grow w0 w' ∧ e = .returned (.int .i64 r)) := by
 refine aL (args := [va]) Tryz.func164 rfl Tryz.ntmps164 (bH rfl) ?_
 have h := SH.init hM
 replace h := h.eu 1 ha aT
 have tQ := ha.bD
 refine nG (aa (ae (v := (I6 0)) rfl) (nK (aa (ag (v := va) rfl) (aa (aX bN rfl (h.fQ 1 rfl)) (aa (dK rfl rfl) (nN (aK hs rfl (fun c1 hs => ?_) (fun c1 hs => ?_))))))))
 cases hs
 refine nS (aa (ag (v := va) rfl) ?_)
 obtain ⟨x2, e3, hs⟩ := aM hs
 obtain ⟨b5, o6, cs7, h, r8, i4⟩ := h.vo 1 2 rfl bN rfl (aR e3).1 (aR e3).2
 obtain rfl := r8
 refine aa (i4 _ _ _ _ _ _ _ _ _ rfl rfl) (aa (eQ (k := 0) h 2 rfl aP rfl rfl) (aa (ae (v := (I6 x2)) rfl) (nK (aa (ae (v := (I6 1)) rfl) (nN (aH (eF (σ := Nat × Int × Int) (inl ([3, 4] ++ rg 12 12)) (fun ⟨m20, vJ, p8⟩ => [(3, (I6 vJ)), (4, (I6 p8))]) (fun ⟨m20, vJ, p8⟩ w => SH w0 M BE w (hset [(1, .sr dw va a)]) ∧ again (vH a) m20 (vJ, p8) = some r) (fun ⟨m20, vJ, p8⟩ => m20) ⟨N, x2, 1⟩ ⟨rfl, rfl, trivial⟩ ?_ ?_)))))))
 exact ⟨h.cn _, hs⟩
 rintro ⟨m20, vJ, p8⟩ w dC ⟨h, hs⟩
 obtain ⟨m201, m20e, m20h⟩ := lQ hs
 subst m20e
 replace hs := m20h
 generalize Ue : again (vH a) m201 = Ud at hs
 refine aJ (nG (aa (ag (v := (I6 p8)) rfl) (aa (ag (v := va) rfl) (aa (aX bN rfl (h.fQ 1 rfl)) (aa (dK rfl rfl) (nN (aK hs rfl (fun c24 hs => ?_) (fun c24 hs => ?_))))))))
 refine aG (aj (aJ (aH (ay (aa (ag (v := (I6 vJ)) rfl) (aa (ag (v := va) rfl) (aa (ag (v := (I6 p8)) rfl) ?_)))))))
 obtain ⟨x25, e26, hs⟩ := aM hs
 obtain ⟨b28, o29, cs30, h, r31, i27⟩ := h.vo 1 3 rfl bN rfl (aR e26).1 (aR e26).2
 obtain rfl := r31
 refine aa (i27 _ _ _ _ _ _ _ _ _ rfl rfl) (aa (eQ (k := 0) h 3 rfl aP rfl rfl) (aa (Tf rfl rfl) (aa (ae (v := (I6 ((max vJ x25)))) rfl) (aC (au (aj (ay (aa (ag (v := (I6 p8)) rfl) ?_))))))))
 obtain ⟨a32, hs⟩ := bE hs
 refine aa (dz rfl rfl a32) (aa (ae (v := (I6 ((p8 + 1)))) rfl) (aC (ak ?_)))
 subst Ue
 exact iw ⟨m201, (max vJ x25), (p8 + 1)⟩ ⟨h.cn _, hs⟩
 refine nE (aa (ag (v := (I6 vJ)) rfl) (aa (ae (v := (I6 vJ)) rfl) (nR (bI (v := (I6 vJ)) Tryz.results164 rfl ?_))))
 obtain rfl := gK hs
 exact ⟨h.grown, rfl⟩
def ny (x29 : Tok) (b : List gG) (wF : List Int → Option Int) (x66 : List Int) : Option Int :=
  (tu x29 b).bind fun EZ => iA (Room 8 x66 [EZ]) (wF (x66 ++ [EZ]))
def nz (xM : List Int) (Iw : List Int → Option Int) (i28 : Int) (x29 : Tok) (b : List gG) (wF : List Int → Option Int) (x57 : Bool) : Option Int :=
  bif x57 then iA (jN ((xM.length : Int) - 1)) ((sub? xM 0 ((xM.length : Int) - 1)).bind fun FI => Iw (xM.take (((xM.length : Int) - 1)).toNat)) else bif (decide ((0 : Int) < i28) && decide (((xM.length : Int) : Int) = 0)) then some 4 else bif decide ((0 : Int) < i28) then iA (jN ((xM.length : Int) - 1)) ((idx xM ((xM.length : Int) - 1)).bind fun x75 => iA (jN (x75 - 1)) (ny x29 b wF (xM.set (((xM.length : Int) - 1)).toNat (x75 - 1)))) else ny x29 b wF xM
def nA (i28 : Int) (x29 : Tok) (b : List gG) (wF : List Int → Option Int) (xM : List Int) (Iw : List Int → Option Int) : Option Int :=
  bif decide ((0 : Int) < (xM.length : Int)) then iA (jN ((xM.length : Int) - 1)) ((idx xM ((xM.length : Int) - 1)).bind fun x89 => nz xM Iw i28 x29 b wF (decide ((x89 : Int) = 0))) else nz xM Iw i28 x29 b wF false
def nC (GA : Bool) : Option Int :=
  bif GA then some 4 else some 0
def nD (N : Nat) (b : List gG) (c : Int) (i28 : Int) (x29 : Tok) (Br : List Int) (wF : List Int → Option Int) : Option Int :=
  bif decide (((fO x29 b c) : Int) ≠ 0) then some (fO x29 b c) else again (nA i28 x29 b wF) N Br
def nH (N : Nat) (a : List Tok) (Br : List Int) : Option Int :=
  bif decide (((a.length : Int) : Int) = 0) then nC true else iA (Room 8 [0] Br) ((slices_Max_int N ([0] ++ Br)).bind fun xm => nC (decide ((0 : Int) < xm)))
def nI (x4 : gG) (s : Unit) (D5 : Unit → Option Int) : Option Int :=
  bif (!(aI x4.params 0 3)) then some 3 else D5 ()
def nL (N : Nat) (b : List gG) (c : Int) (a : List Tok) (s : Unit) : Option Int :=
  dQ (nD N b c) (nH N a) 0 a []
def rJ (N : Nat) (a : List Tok) (b : List gG) (c : Int) : Option Int :=
  bif decide ((24 : Int) < (a.length : Int)) then some 2 else each nI (nL N b c a) b ()
theorem uP (N : Nat) (w0 : World) (M : BS) (hM : ∀ b, M b → b < w0.heap.size) (va : Value) (a : List Tok) (ha : fK mi w0 BE M va a) (vb : Value) (b : List gG) (hb : fK jM w0 BE M vb b) (c : Int) (r : Int) (hs : rJ N a b c = some r) :
    Calls Tryz.prog 146 #[va, vb, (I6 c)] w0 (fun e w' => Grow w0 w' ∧ e = .returned (.int .i64 r)) := by
 refine aL (args := [va, vb, (I6 c)]) Tryz.func146 rfl Tryz.ntmps146 (bH rfl) ?_
 have h := SH.init hM
 replace h := h.eu 1 ha aT
 replace h := h.eu 2 hb (aW aT)
 have tQ := ha.bD
 have FU := hb.bD
 refine nG (aa (ae (v := (I6 0)) rfl) (nK (aa (ag (v := va) rfl) (aa (aX lX rfl (h.fQ 1 rfl)) (aa (jK rfl rfl) (nN (aK hs rfl (fun c1 hs => ?_) (fun c1 hs => ?_))))))))
 refine nG (aa (ae (v := (I6 2)) rfl) (nR (ax (bI (v := (I6 2)) Tryz.results146 rfl ?_))))
 obtain rfl := gK hs
 exact ⟨h.grown, rfl⟩
 refine aG (aj (aJ (nG (aa (ag (v := vb) rfl) (aa (aX jw rfl (h.fQ 2 rfl)) (aa (ag (v := (I6 0)) rfl) (nN (aH (eF (σ := Nat × Int) (inl ([6, 8] ++ rg 18 9)) (fun ⟨k2, i3⟩ => [(18, (I6 i3))]) (fun ⟨k2, i3⟩ w => SH w0 M BE w (hset [(1, .sr mi va a), (2, .sr jM vb b)]) ∧ i3 = (k2 : Int) ∧ each nI (nL N b c a) (b.drop k2) () = some r) (fun ⟨k2, i3⟩ => b.length - k2) ⟨0, 0⟩ ⟨rfl, trivial⟩ ?_ ?_)))))))))
 exact ⟨h.cn _, rfl, hs⟩
 rintro ⟨k2, i3⟩ w dC ⟨h, hik, hs⟩
 refine nG ?_
 refine aa (dK rfl rfl) (nN ?_)
 refine aJ (fD rfl (fun e7 => ?_) (fun e7 => ?_))
 refine aG (aj ?_)
 obtain ⟨x4, Xd, Xe⟩ := eU (hik ▸ e7)
 rw [Xe, df] at hs
 generalize D6 : each nI (nL N b c a) (b.drop (k2 + 1)) = D5 at hs
 have OZ := eZ ((h.fQ 2 rfl)).bD hik e7
 refine aJ (aH (nG ?_))
 obtain ⟨b10, o11, Xf, h, Xg, i9⟩ := h.vo 2 3 rfl jw rfl (gB hik) (eY hik Xd)
 obtain ⟨G5, rfl, g15⟩ := uN Xg
 replace h := h.bK 4 g15.up
 refine aa (i9 _ _ _ _ _ _ _ _ _ rfl rfl) (aa (iD (k := 0) (vs := [(I6 x4.params), (I6 x4.locals), G5]) h 3 rfl oC rfl rfl rfl (bH rfl)) (bu h 5 oC fun w b16 h => dN (vs := [(I6 x4.params), (I6 x4.locals), G5]) h 5 [(I6 x4.params), (I6 x4.locals), G5] rfl oC rfl rfl rfl rfl rfl (ai rfl (ai rfl (ai (h.gy 4 rfl).one aS))) fun w h => nJ (aa (ah xh rfl) (aa (aB h 5 rfl aP rfl rfl) (aO pU rfl rfl (dD _ _ h.lt x4.params 0 3 _ rfl) ?_)))))
 rintro _ w ⟨k17, rfl⟩
 refine ⟨_, rfl, ?_⟩
 replace h := h.grow k17
 refine aa (dU rfl) (nN (aK hs rfl (fun c18 hs => ?_) (fun c18 hs => ?_)))
 refine nG (aa (ae (v := (I6 3)) rfl) (nR (aD (ax (ax (aD (ax (bI (v := (I6 3)) Tryz.results146 rfl ?_))))))))
 obtain rfl := gK hs
 exact ⟨h.grown, rfl⟩
 refine aG (au (aj (ay (aa (dz rfl rfl OZ) (aa (ag (v := (I6 ((i3 + 1)))) rfl) (aC (ak ?_)))))))
 subst D6
 exact iw ⟨k2 + 1, i3 + 1⟩ ⟨h.cn _, by omega, hs⟩ (by have := kQ e7; dsimp only; omega)
 rw [eX (hik ▸ e7), dZ] at hs
 refine nE (aa (ae (v := (.slice none 0 0)) rfl) (nK (aa (ag (v := va) rfl) (aa (aX lX rfl (h.fQ 1 rfl)) (aa (ag (v := (I6 0)) rfl) (nN (aH ?_)))))))
 replace h := h.uZ (R := dw) (E := 3) 9
 refine eF (σ := Nat × Int × Value × List Int) (inl ([6, 9, 10, 11, 12] ++ rg 29 53)) (fun ⟨k27, i28, v25, Br⟩ => [(9, v25), (29, (I6 i28))]) (fun ⟨k27, i28, v25, Br⟩ w => SH w0 M BE w (hset [(1, .sr mi va a), (2, .sr jM vb b), (9, .own dw 3 v25 Br)]) ∧ i28 = (k27 : Int) ∧ dQ (nD N b c) (nH N a) i28 (a.drop k27) Br = some r) (fun ⟨k27, i28, v25, Br⟩ => a.length - k27) ⟨0, 0, (.slice none 0 0), []⟩ ⟨rfl, rfl, trivial⟩ ?_ ?_
 exact ⟨h.cn _, rfl, hs⟩
 rintro ⟨k27, i28, v25, Br⟩ w dC ⟨h, hik, hs⟩
 refine nG ?_
 refine aa (dK rfl rfl) (nN ?_)
 refine aJ (fD rfl (fun e32 => ?_) (fun e32 => ?_))
 refine aG (aj ?_)
 obtain ⟨x29, e33a, e33b⟩ := eU (hik ▸ e32)
 rw [e33b, jC] at hs
 generalize Nb : dQ (nD N b c) (nH N a) (i28 + 1) (a.drop (k27 + 1)) = wF at hs
 have e33r := eZ ((h.fQ 1 rfl)).bD hik e32
 refine aJ (aH (nG (aa (ag (v := (I6 i28)) rfl) ?_)))
 obtain ⟨b35, o36, cs37, h, r38, i34⟩ := h.vo 1 10 rfl lX rfl (gB hik) (eY hik e33a)
 obtain rfl := r38
 refine aa (i34 _ _ _ _ _ _ _ _ _ rfl rfl) (aa (iD (k := 0) (vs := [(I6 x29.kind), (I6 x29.n)]) h 10 rfl lS rfl rfl rfl (bH rfl)) (bu h 11 lS fun w b39 h => aa (ae (v := (I6 i28)) rfl) (dN (vs := [(I6 x29.kind), (I6 x29.n)]) h 11 [(I6 x29.kind), (I6 x29.n)] rfl lS rfl rfl rfl rfl rfl (ai rfl (ai rfl aS)) fun w h => nK (aa (eB (vs := [(I6 x29.kind), (I6 x29.n)]) h 11 rfl lS rfl rfl rfl) (aa (ag (v := vb) rfl) (aa (ag (v := (I6 c)) rfl) (aO Qz rfl rfl (vG _ _ h.lt x29 vb b (h.fQ 2 rfl) c _ rfl) ?_)))))))
 rintro _ w ⟨k40, rfl⟩
 refine ⟨_, rfl, ?_⟩
 replace h := h.grow k40
 refine aa (ae (v := (I6 ((fO x29 b c)))) rfl) (nJ (aa (ag (v := (I6 ((fO x29 b c)))) rfl) (aa (gV rfl rfl) (nN (aK hs rfl (fun Uf hs => ?_) (fun Uf hs => ?_))))))
 refine nG (aa (ag (v := (I6 ((fO x29 b c)))) rfl) (aa (ae (v := (I6 ((fO x29 b c)))) rfl) (nR (ax (aD (ax (ax (aD (ax (bI (v := (I6 ((fO x29 b c)))) Tryz.results146 rfl ?_))))))))))
 obtain rfl := gK hs
 exact ⟨h.grown, rfl⟩
 refine aG (aj (aJ (aH (eF (σ := Nat × Value × List Int) (inl ([9] ++ rg 41 17)) (fun ⟨m53, v48, xM⟩ => [(9, v48)]) (fun ⟨m53, v48, xM⟩ w => SH w0 M BE w (hset [(1, .sr mi va a), (2, .sr jM vb b), (9, .own dw 3 v48 xM), (11, .blk b39 [(I6 x29.kind), (I6 x29.n)])]) ∧ again (nA i28 x29 b wF) m53 xM = some r) (fun ⟨m53, v48, xM⟩ => m53) ⟨N, v25, Br⟩ ⟨rfl, trivial⟩ ?_ ?_))))
 exact ⟨h.cn _, hs⟩
 rintro ⟨m53, v48, xM⟩ w dC ⟨h, hs⟩
 obtain ⟨m531, m53e, m53h⟩ := lQ hs
 subst m53e
 replace hs := m53h
 generalize Ug : again (nA i28 x29 b wF) m531 = Iw at hs
 refine aJ (dm (σ := Bool) (inl (rg 41 12)) (fun x57 => [(52, (.bool (x57)))]) (fun x57 w => SH w0 M BE w (hset [(1, .sr mi va a), (2, .sr jM vb b), (9, .own dw 3 v48 xM), (11, .blk b39 [(I6 x29.kind), (I6 x29.n)])]) ∧ nz xM Iw i28 x29 b wF x57 = some r) ?_ ?_)
 rintro x57 w dC ⟨h, hs⟩
 refine aK hs rfl (fun c58 hs => ?_) (fun c58 hs => ?_)
 refine aG (aj (aH (ay (aa (ag (v := v48) rfl) (aa (ag (v := v48) rfl) (aa (aX bN rfl (h.dJ 9 rfl)) ?_))))))
 obtain ⟨a59, hs⟩ := bE hs
 refine aa (tY rfl rfl a59) ?_
 obtain ⟨FI, e61, hs⟩ := aM hs
 obtain ⟨e64, e64a, e64b, e64c⟩ := Qj e61
 obtain ⟨Wo, h, i63⟩ := h.cutO 9 rfl bN rfl e64b e64c
 refine aa (i63 _ _ _ _ _ _ _ _ _ _ rfl (.inl ⟨rfl, rfl⟩) (.inr (congrArg some rfl))) (aa (ae (v := Wo) rfl) (aC (au (ak ?_))))
 subst Ug
 exact iw ⟨m531, Wo, (xM.take (((xM.length : Int) - 1)).toNat)⟩ ⟨h.cn _, hs⟩
 refine iI (bC (bC (dV (aj (aJ (nG (aa (ag (v := (I6 i28)) rfl) (aa (jK rfl rfl) (aa (ag (v := (.bool (decide ((0 : Int) < i28)))) rfl) (az rfl rfl (fun q => ag (v := v48) rfl) (az rfl rfl (fun q => aX bN (dE q) (h.dJ 9 rfl)) (az rfl rfl (fun q => bW (dE q) rfl) (aa (fB rfl rfl lW) (nN (aK hs rfl (fun LU hs => ?_) (fun LU hs => ?_))))))))))))))))
 refine nG (aa (ae (v := (I6 4)) rfl) (nR (ax (aD (ax (ax (aD (ax (bI (v := (I6 4)) Tryz.results146 rfl ?_)))))))))
 obtain rfl := gK hs
 exact ⟨h.grown, rfl⟩
 refine aG (aj (dm (σ := List Int) (inl (rg 65 10)) (fun x66 => []) (fun x66 w => SH w0 M BE w (hset [(1, .sr mi va a), (2, .sr jM vb b), (9, .own dw 3 v48 x66), (11, .blk b39 [(I6 x29.kind), (I6 x29.n)])]) ∧ ny x29 b wF x66 = some r) ?_ ?_))
 rintro x66 w dC ⟨h, hs⟩
 refine ay (aa (ag (v := v48) rfl) (aa (eB (vs := [(I6 x29.kind), (I6 x29.n)]) h 11 rfl lS rfl rfl rfl) (aa (ag (v := vb) rfl) ?_)))
 obtain ⟨EZ, Xh, hs⟩ := aM hs
 refine aO LD rfl rfl (uD _ _ h.lt x29 vb b (h.fQ 2 rfl) _ Xh) ?_
 rintro _ w ⟨k69, rfl⟩
 refine ⟨_, rfl, ?_⟩
 replace h := h.grow k69
 refine mX (R := dw) (vs := [(I6 EZ)]) (xs := [EZ]) h 13 fq rfl rfl rfl ⟨rfl, trivial⟩ rfl fun w u70 h => ?_
 obtain ⟨a71, hs⟩ := bE hs
 refine jb (R := dw) (m := [EZ]) h 9 rfl (h.dJ 13 rfl) fq rfl rfl rfl a71.1 a71.2 fun w u72 h => aa (ae (v := u72) rfl) (aC (au (aj (ay (aa (dz rfl rfl e33r) (aa (ag (v := (I6 ((i28 + 1)))) rfl) (aC (ak ?_))))))))
 subst Nb
 exact iw ⟨k27 + 1, i28 + 1, u72, (x66 ++ [EZ])⟩ ⟨h.cn _, by omega, hs⟩ (by have := kQ e32; dsimp only; omega)
 refine nG (aa (ag (v := (I6 i28)) rfl) (aa (jK rfl rfl) (nN (aK hs rfl (fun c73 hs => ?_) (fun c73 hs => ?_)))))
 refine ay (aa (ag (v := v48) rfl) (aa (ag (v := v48) rfl) (aa (aX bN rfl (h.dJ 9 rfl)) ?_)))
 obtain ⟨a74, hs⟩ := bE hs
 refine aa (tY rfl rfl a74) ?_
 obtain ⟨x75, Yc, hs⟩ := aM hs
 obtain ⟨b78, q79, i77⟩ := h.FL 9 rfl bN rfl (aR Yc).1 (aR Yc).2
 refine aa (i77 _ _ _ _ _ _ _ _ _ rfl rfl) ?_
 obtain ⟨cs80, m81, r82⟩ := h.JU 9 rfl q79 (aR Yc).2
 obtain rfl := r82
 refine aa (zX (k := 0) m81 aP rfl rfl) ?_
 obtain ⟨a83, hs⟩ := bE hs
 refine aa (tY rfl rfl a83) ?_
 obtain ⟨JM, q86, i84⟩ := h.FL 9 rfl bN rfl (aR Yc).1 (aR Yc).2
 refine aa (i84 _ _ _ _ _ _ _ _ _ rfl rfl) (Td (off := 0) (a' := (x75 - 1)) h 9 rfl q86 rfl (aR Yc).2 aP rfl rfl rfl rfl (fun cs hq => set1 rfl hq rfl rfl) fun w h => aC (ak ?_))
 exact cO (xM.set (((xM.length : Int) - 1)).toNat (x75 - 1)) ⟨h.cn _, hs⟩
 refine aG (ak ?_)
 exact cO xM ⟨h.cn _, hs⟩
 refine ay (aa (ag (v := v48) rfl) (aa (aX bN rfl (h.dJ 9 rfl)) (aa (jK rfl rfl) (aa (ag (v := (.bool (decide ((0 : Int) < (xM.length : Int))))) rfl) (jT (b := decide ((0 : Int) < (xM.length : Int))) hs (fun c87 hs => ?_) (fun c87 hs => ?_))))))
 refine dx rfl (cB c87) (aa (ag (v := v48) rfl) (dx rfl (cB c87) (aa (ag (v := v48) rfl) (dx rfl (cB c87) (aa (aX bN rfl (h.dJ 9 rfl)) (dx rfl (cB c87) ?_))))))
 obtain ⟨a88, hs⟩ := bE hs
 refine aa (tY rfl rfl a88) (dx rfl (cB c87) ?_)
 obtain ⟨x89, e90, hs⟩ := aM hs
 obtain ⟨b92, q93, i91⟩ := h.FL 9 rfl bN rfl (aR e90).1 (aR e90).2
 refine aa (i91 _ _ _ _ _ _ _ _ _ rfl rfl) (dx rfl (cB c87) ?_)
 obtain ⟨cs94, m95, r96⟩ := h.JU 9 rfl q93 (aR e90).2
 obtain rfl := r96
 refine aa (zX (k := 0) m95 aP rfl rfl) (dx rfl (cB c87) (aa (bW rfl rfl) (aa (eO (b := true) (v := (.bool (decide ((x89 : Int) = 0)))) (cB c87) rfl) (aC (ak ?_)))))
 exact cO (decide ((x89 : Int) = 0)) ⟨h.cn _, hs⟩
 refine qc rfl (cB c87) rfl (qc rfl (cB c87) rfl (qc rfl (cB c87) rfl (qc rfl (cB c87) rfl (qc rfl (cB c87) rfl (qc rfl (cB c87) rfl (qc rfl (cB c87) rfl (aa (eO (b := false) (v := (.bool (false))) (cB c87) rfl) (aC (ak ?_)))))))))
 exact cO false ⟨h.cn _, hs⟩
 rw [eX (hik ▸ e32), mY] at hs
 refine iI (bC (bC (dV (aj (aJ (dm (σ := Bool) (inl (rg 82 10)) (fun GA => [(91, (.bool (GA)))]) (fun GA w => SH w0 M BE w (hset []) ∧ nC GA = some r) ?_ ?_))))))
 rintro GA w dC ⟨h, hs⟩
 refine aK hs rfl (fun c98 hs => ?_) (fun c98 hs => ?_)
 refine nG (aa (ae (v := (I6 4)) rfl) (nR (ax (bI (v := (I6 4)) Tryz.results146 rfl ?_))))
 obtain rfl := gK hs
 exact ⟨h.grown, rfl⟩
 refine nS (aa (ae (v := (I6 0)) rfl) (nR (bI (v := (I6 0)) Tryz.results146 rfl ?_)))
 obtain rfl := gK hs
 exact ⟨h.grown, rfl⟩
 refine ay (aa (ag (v := va) rfl) (aa (aX lX rfl (h.fQ 1 rfl)) (aa (bW rfl rfl) (aa (ag (v := (.bool (decide (((a.length : Int) : Int) = 0)))) rfl) (jT (b := decide (((a.length : Int) : Int) = 0)) hs (fun Rp hs => ?_) (fun Rp hs => ?_))))))
 refine Oy rfl (cB Rp) rfl (Oy rfl (cB Rp) rfl (Oy rfl (cB Rp) rfl (Oy rfl (cB Rp) rfl (Oy rfl (cB Rp) rfl (aa (eO (b := true) (v := (.bool (true))) (cB Rp) rfl) (aC (ak ?_)))))))
 exact cO true ⟨h.cn _, hs⟩
 refine dx rfl (cB Rp) (mX (R := dw) (vs := [(I6 0)]) (xs := [0]) h 14 fq rfl rfl rfl ⟨rfl, trivial⟩ rfl fun w Xi h => dx rfl (cB Rp) (aa (ag (v := v25) rfl) (dx rfl (cB Rp) ?_)))
 obtain ⟨O0, hs⟩ := bE hs
 refine jb (R := dw) (m := Br) h 14 rfl (h.dJ 9 rfl) fq rfl rfl rfl O0.1 O0.2 fun w Xj h => dx rfl (cB Rp) ?_
 obtain ⟨xm, Xk, hs⟩ := aM hs
 refine aO Xb rfl rfl (FV N _ _ h.lt Xj ([0] ++ Br) (h.dJ 14 rfl) _ Xk) ?_
 rintro _ w ⟨k105, rfl⟩
 refine ⟨_, rfl, ?_⟩
 replace h := h.grow k105
 refine dx rfl (cB Rp) (aa (jK rfl rfl) (aa (eO (b := false) (v := (.bool (decide ((0 : Int) < xm)))) (cB Rp) rfl) (aC (ak ?_))))
 exact cO (decide ((0 : Int) < xm)) ⟨h.cn _, hs⟩
def bg (lN : Str) : Bool :=
  (hasB lN 78)
theorem xn (w0 : World) (M : BS) (hM : ∀ b, M b → b < w0.heap.size) (lN : Str) (q0 : Nat) (hq0 : ∃ E, w0.heap[q0]? = some (.cells #[(aN lN)] E (0, 0))) (r : Bool) (hs : bg lN = r) :
    Calls Tryz.prog 144 #[(aN [78]), (.pointer (some ⟨q0, 0, none⟩))] w0 (fun e w' => Grow w0 w' ∧ e = .returned (.bool r)) := by
 refine aL (args := [(aN [78]), (.pointer (some ⟨q0, 0, none⟩))]) Tryz.func144 rfl Tryz.ntmps144 (bH rfl) ?_
 have h := SH.init hM
 replace h := h.Ie 1 (cs := [(aN lN)]) hq0 aT
 refine nG (aa (ae (v := (.bool (false))) rfl) (nJ (aa (eQ (k := 0) h 1 rfl Ag rfl rfl) (aa (ag (v := (aN [78])) rfl) (aO Dj rfl rfl (kY _ _ h.lt lN 78 _ rfl) ?_)))))
 rintro _ w ⟨k1, rfl⟩
 refine ⟨_, rfl, ?_⟩
 replace h := h.grow k1
 refine aa (ae (v := (.bool ((hasB lN 78)))) rfl) (nR (bI (v := (.bool ((hasB lN 78)))) Tryz.results144 rfl ?_))
 obtain rfl := hs
 exact ⟨h.grown, rfl⟩
def bX (lN : Str) : Bool :=
  (hasB lN 69)
theorem xq (w0 : World) (M : BS) (hM : ∀ b, M b → b < w0.heap.size) (lN : Str) (q0 : Nat) (hq0 : ∃ E, w0.heap[q0]? = some (.cells #[(aN lN)] E (0, 0))) (r : Bool) (hs : bX lN = r) :
    Calls Tryz.prog 144 #[(aN [69]), (.pointer (some ⟨q0, 0, none⟩))] w0 (fun e w' => Grow w0 w' ∧ e = .returned (.bool r)) := by
 refine aL (args := [(aN [69]), (.pointer (some ⟨q0, 0, none⟩))]) Tryz.func144 rfl Tryz.ntmps144 (bH rfl) ?_
 have h := SH.init hM
 replace h := h.Ie 1 (cs := [(aN lN)]) hq0 aT
 refine nG (aa (ae (v := (.bool (false))) rfl) (nJ (aa (eQ (k := 0) h 1 rfl Ag rfl rfl) (aa (ag (v := (aN [69])) rfl) (aO Dj rfl rfl (kY _ _ h.lt lN 69 _ rfl) ?_)))))
 rintro _ w ⟨k1, rfl⟩
 refine ⟨_, rfl, ?_⟩
 replace h := h.grow k1
 refine aa (ae (v := (.bool ((hasB lN 69)))) rfl) (nR (bI (v := (.bool ((hasB lN 69)))) Tryz.results144 rfl ?_))
 obtain rfl := hs
 exact ⟨h.grown, rfl⟩
def dG (lN : Str) : Bool :=
  (hasB lN 70)
theorem qF (w0 : World) (M : BS) (hM : ∀ b, M b → b < w0.heap.size) (lN : Str) (q0 : Nat) (hq0 : ∃ E, w0.heap[q0]? = some (.cells #[(aN lN)] E (0, 0))) (r : Bool) (hs : dG lN = r) :
    Calls Tryz.prog 144 #[(aN [70]), (.pointer (some ⟨q0, 0, none⟩))] w0 (fun e w' => Grow w0 w' ∧ e = .returned (.bool r)) := by
 refine aL (args := [(aN [70]), (.pointer (some ⟨q0, 0, none⟩))]) Tryz.func144 rfl Tryz.ntmps144 (bH rfl) ?_
 have h := SH.init hM
 replace h := h.Ie 1 (cs := [(aN lN)]) hq0 aT
 refine nG (aa (ae (v := (.bool (false))) rfl) (nJ (aa (eQ (k := 0) h 1 rfl Ag rfl rfl) (aa (ag (v := (aN [70])) rfl) (aO Dj rfl rfl (kY _ _ h.lt lN 70 _ rfl) ?_)))))
 rintro _ w ⟨k1, rfl⟩
 refine ⟨_, rfl, ?_⟩
 replace h := h.grow k1
 refine aa (ae (v := (.bool ((hasB lN 70)))) rfl) (nR (bI (v := (.bool ((hasB lN 70)))) Tryz.results144 rfl ?_))
 obtain rfl := hs
 exact ⟨h.grown, rfl⟩
def gT (lN : Str) : Bool :=
  (hasB lN 65)
theorem xu (w0 : World) (M : BS) (hM : ∀ b, M b → b < w0.heap.size) (lN : Str) (q0 : Nat) (hq0 : ∃ E, w0.heap[q0]? = some (.cells #[(aN lN)] E (0, 0))) (r : Bool) (hs : gT lN = r) :
    Calls Tryz.prog 144 #[(aN [65]), (.pointer (some ⟨q0, 0, none⟩))] w0 (fun e w' => Grow w0 w' ∧ e = .returned (.bool r)) := by
 refine aL (args := [(aN [65]), (.pointer (some ⟨q0, 0, none⟩))]) Tryz.func144 rfl Tryz.ntmps144 (bH rfl) ?_
 have h := SH.init hM
 replace h := h.Ie 1 (cs := [(aN lN)]) hq0 aT
 refine nG (aa (ae (v := (.bool (false))) rfl) (nJ (aa (eQ (k := 0) h 1 rfl Ag rfl rfl) (aa (ag (v := (aN [65])) rfl) (aO Dj rfl rfl (kY _ _ h.lt lN 65 _ rfl) ?_)))))
 rintro _ w ⟨k1, rfl⟩
 refine ⟨_, rfl, ?_⟩
 replace h := h.grow k1
 refine aa (ae (v := (.bool ((hasB lN 65)))) rfl) (nR (bI (v := (.bool ((hasB lN 65)))) Tryz.results144 rfl ?_))
 obtain rfl := hs
 exact ⟨h.grown, rfl⟩
def rX (lN : Str) : Bool :=
  (hasB lN 66)
theorem xw (w0 : World) (M : BS) (hM : ∀ b, M b → b < w0.heap.size) (lN : Str) (q0 : Nat) (hq0 : ∃ E, w0.heap[q0]? = some (.cells #[(aN lN)] E (0, 0))) (r : Bool) (hs : rX lN = r) :
    Calls Tryz.prog 144 #[(aN [66]), (.pointer (some ⟨q0, 0, none⟩))] w0 (fun e w' => Grow w0 w' ∧ e = .returned (.bool r)) := by
 refine aL (args := [(aN [66]), (.pointer (some ⟨q0, 0, none⟩))]) Tryz.func144 rfl Tryz.ntmps144 (bH rfl) ?_
 have h := SH.init hM
 replace h := h.Ie 1 (cs := [(aN lN)]) hq0 aT
 refine nG (aa (ae (v := (.bool (false))) rfl) (nJ (aa (eQ (k := 0) h 1 rfl Ag rfl rfl) (aa (ag (v := (aN [66])) rfl) (aO Dj rfl rfl (kY _ _ h.lt lN 66 _ rfl) ?_)))))
 rintro _ w ⟨k1, rfl⟩
 refine ⟨_, rfl, ?_⟩
 replace h := h.grow k1
 refine aa (ae (v := (.bool ((hasB lN 66)))) rfl) (nR (bI (v := (.bool ((hasB lN 66)))) Tryz.results144 rfl ?_))
 obtain rfl := hs
 exact ⟨h.grown, rfl⟩
def nM (GD : Unit → Option Int) (qC : Int) : Option Int :=
  bif decide ((qC : Int) ≠ 0) then some qC else GD ()
def nO (F0 : List bG → List gG → Int → Option Int) (x3 : bG) (b : List gG) (c : Int) (GD : Unit → Option Int) (Ba : Int) : Option Int :=
  bif decide ((Ba : Int) = 0) then (F0 x3.b b c).bind fun y39 => nM GD y39 else nM GD Ba
def nP (F0 : List bG → List gG → Int → Option Int) (x3 : bG) (a : List bG) (b : List gG) (c : Int) (GD : Unit → Option Int) (x34 : Int) : Option Int :=
  bif decide ((x34 : Int) = 0) then (F0 x3.a b c).bind fun sS => nO F0 x3 b c GD sS else nO F0 x3 b c GD x34
def nQ (N : Nat) (F0 : List bG → List gG → Int → Option Int) (x3 : bG) (b : List gG) (c : Int) (a : List bG) (GD : Unit → Option Int) (ED : Int) : Option Int :=
  bif (decide ((ED : Int) = 0) && (dG ((lk x3.kind ([(1, [78, 69]), (2, [78, 69, 70]), (3, [69]), (4, []), (5, [69]), (6, [69, 65, 66]), (7, [69, 65]), (8, [69])] : List (Int × Str))).getD []))) then (rJ N x3.f b c).bind fun sU => nP F0 x3 a b c GD sU else nP F0 x3 a b c GD ED
def nT (N : Nat) (F0 : List bG → List gG → Int → Option Int) (a : List bG) (b : List gG) (c : Int) (x3 : bG) (s : Unit) (GD : Unit → Option Int) : Option Int :=
  bif ((((((!(lk x3.kind ([(1, [78, 69]), (2, [78, 69, 70]), (3, [69]), (4, []), (5, [69]), (6, [69, 65, 66]), (7, [69, 65]), (8, [69])] : List (Int × Str))).isSome) || (decide ((x3.n : Int) ≠ 0) && (!(bg ((lk x3.kind ([(1, [78, 69]), (2, [78, 69, 70]), (3, [69]), (4, []), (5, [69]), (6, [69, 65, 66]), (7, [69, 65]), (8, [69])] : List (Int × Str))).getD []))))) || (decide ((0 : Int) < (x3.e.length : Int)) && (!(bX ((lk x3.kind ([(1, [78, 69]), (2, [78, 69, 70]), (3, [69]), (4, []), (5, [69]), (6, [69, 65, 66]), (7, [69, 65]), (8, [69])] : List (Int × Str))).getD []))))) || (decide ((0 : Int) < (x3.f.length : Int)) && (!(dG ((lk x3.kind ([(1, [78, 69]), (2, [78, 69, 70]), (3, [69]), (4, []), (5, [69]), (6, [69, 65, 66]), (7, [69, 65]), (8, [69])] : List (Int × Str))).getD []))))) || (decide ((0 : Int) < (x3.a.length : Int)) && (!(gT ((lk x3.kind ([(1, [78, 69]), (2, [78, 69, 70]), (3, [69]), (4, []), (5, [69]), (6, [69, 65, 66]), (7, [69, 65]), (8, [69])] : List (Int × Str))).getD []))))) || (decide ((0 : Int) < (x3.b.length : Int)) && (!(rX ((lk x3.kind ([(1, [78, 69]), (2, [78, 69, 70]), (3, [69]), (4, []), (5, [69]), (6, [69, 65, 66]), (7, [69, 65]), (8, [69])] : List (Int × Str))).getD []))))) then some 4 else bif ((decide ((x3.kind : Int) = 1) && (!(aF x3.n c))) || (decide ((x3.kind : Int) = 2) && (!(aI x3.n 0 3)))) then some 3 else bif (hasB ((lk x3.kind ([(1, [78, 69]), (2, [78, 69, 70]), (3, [69]), (4, []), (5, [69]), (6, [69, 65, 66]), (7, [69, 65]), (8, [69])] : List (Int × Str))).getD []) 69) then (rJ N x3.e b c).bind fun GG => nQ N F0 x3 b c a GD GG else nQ N F0 x3 b c a GD 0
def nU (s : Unit) : Option Int :=
  some 0
def uh (N : Nat) (F0 : List bG → List gG → Int → Option Int) (a : List bG) (b : List gG) (c : Int) : Option Int :=
  each (nT N F0 a b c) nU a ()
def ku : Nat → List bG → List gG → Int → Option Int
  | 0 => fun _ _ _ => none
  | N + 1 => uh N (ku N)
theorem zK : ∀ (N : Nat) (w0 : World) (M : BS) (hM : ∀ b, M b → b < w0.heap.size) (va : Value) (a : List bG) (ha : fK fT w0 BE M va a) (vb : Value) (b : List gG) (hb : fK jM w0 BE M vb b) (c : Int) (r : Int) (hs : ku N a b c = some r),
    Calls Tryz.prog 129 #[va, vb, (I6 c)] w0 (fun e w' => Grow w0 w' ∧ e = .returned (.int .i64 r)) := by
 intro N
 induction N with
 | zero => intro w0 M hM va a ha vb b hb c r hs; cases hs
 | succ N ih =>
 intro w0 M hM va a ha vb b hb c r hs
 replace hs : uh N (ku N) a b c = some r := hs
 generalize ku N = F0 at hs ih
 refine aL (args := [va, vb, (I6 c)]) Tryz.func129 rfl Tryz.ntmps129 (bH rfl) ?_
 have h := SH.init hM
 replace h := h.eu 1 ha aT
 replace h := h.eu 2 hb (aW aT)
 have tQ := ha.bD
 have FU := hb.bD
 refine nG (aa (ae (v := (I6 0)) rfl) (nK (aa (ag (v := va) rfl) (aa (aX nu rfl (h.fQ 1 rfl)) (aa (ag (v := (I6 0)) rfl) (nN (aH (eF (σ := Nat × Int) (inl ([6, 8, 9, 10, 11, 12] ++ rg 15 126)) (fun ⟨k1, i2⟩ => [(15, (I6 i2))]) (fun ⟨k1, i2⟩ w => SH w0 M BE w (hset [(1, .sr fT va a), (2, .sr jM vb b)]) ∧ i2 = (k1 : Int) ∧ each (nT N F0 a b c) nU (a.drop k1) () = some r) (fun ⟨k1, i2⟩ => a.length - k1) ⟨0, 0⟩ ⟨rfl, trivial⟩ ?_ ?_))))))))
 exact ⟨h.cn _, rfl, hs⟩
 rintro ⟨k1, i2⟩ w dC ⟨h, hik, hs⟩
 refine nG ?_
 refine aa (dK rfl rfl) (nN ?_)
 refine aJ (fD rfl (fun e6 => ?_) (fun e6 => ?_))
 refine aG (aj ?_)
 obtain ⟨x3, e7a, e7b⟩ := eU (hik ▸ e6)
 rw [e7b, df] at hs
 generalize Uh : each (nT N F0 a b c) nU (a.drop (k1 + 1)) = GD at hs
 have e7r := eZ ((h.fQ 1 rfl)).bD hik e6
 refine aJ (aH (nG ?_))
 obtain ⟨b9, o10, cs11, h, r12, i8⟩ := h.vo 1 3 rfl nu rfl (gB hik) (eY hik e7a)
 obtain ⟨Ui, Dk, G6, Nc, rfl, g14, g16, g18, g20⟩ := Bj r12
 replace h := h.bK 4 g14.up
 replace h := h.bK 5 g16.up.up
 replace h := h.bK 6 g18.up.up.up
 replace h := h.bK 7 g20.up.up.up.up
 refine aa (i8 _ _ _ _ _ _ _ _ _ rfl rfl) (aa (iD (k := 0) (vs := [(I6 x3.kind), (I6 x3.n), Ui, Dk, G6, Nc]) h 3 rfl qK rfl rfl rfl (bH rfl)) (bu h 8 qK fun w Iy h => dN (vs := [(I6 x3.kind), (I6 x3.n), Ui, Dk, G6, Nc]) h 8 [(I6 x3.kind), (I6 x3.n), Ui, Dk, G6, Nc] rfl qK rfl rfl rfl rfl rfl (ai rfl (ai rfl (ai (h.gy 4 rfl).one (ai (h.gy 5 rfl).one (ai (h.gy 6 rfl).one (ai (h.gy 7 rfl).one aS)))))) fun w h => nJ (z8 h 9 fun w b22 h => iE (kP := [(1, (aN [78, 69]))]) h 9 rfl gM rfl rfl rfl rfl fun w h => iE (kP := [(1, (aN [78, 69])), (2, (aN [78, 69, 70]))]) h 9 rfl gM rfl rfl rfl rfl fun w h => iE (kP := [(1, (aN [78, 69])), (2, (aN [78, 69, 70])), (3, (aN [69]))]) h 9 rfl gM rfl rfl rfl rfl fun w h => iE (kP := [(1, (aN [78, 69])), (2, (aN [78, 69, 70])), (3, (aN [69])), (4, (aN []))]) h 9 rfl gM rfl rfl rfl rfl fun w h => iE (kP := [(1, (aN [78, 69])), (2, (aN [78, 69, 70])), (3, (aN [69])), (4, (aN [])), (5, (aN [69]))]) h 9 rfl gM rfl rfl rfl rfl fun w h => iE (kP := [(1, (aN [78, 69])), (2, (aN [78, 69, 70])), (3, (aN [69])), (4, (aN [])), (5, (aN [69])), (6, (aN [69, 65, 66]))]) h 9 rfl gM rfl rfl rfl rfl fun w h => iE (kP := [(1, (aN [78, 69])), (2, (aN [78, 69, 70])), (3, (aN [69])), (4, (aN [])), (5, (aN [69])), (6, (aN [69, 65, 66])), (7, (aN [69, 65]))]) h 9 rfl gM rfl rfl rfl rfl fun w h => iE (kP := [(1, (aN [78, 69])), (2, (aN [78, 69, 70])), (3, (aN [69])), (4, (aN [])), (5, (aN [69])), (6, (aN [69, 65, 66])), (7, (aN [69, 65])), (8, (aN [69]))]) h 9 rfl gM rfl rfl rfl rfl fun w h => aa (ag (v := (.map (some b22))) rfl) (aa (ah lI rfl) (aa (aB h 8 rfl aP rfl rfl) (aa (X3 (f := aN) (zz := []) ([(1, [78, 69]), (2, [78, 69, 70]), (3, [69]), (4, []), (5, [69]), (6, [69, 65, 66]), (7, [69, 65]), (8, [69])] : List (Int × Str)) h 9 rfl gM rfl rfl rfl rfl) (aa (ag (v := (.tuple #[(aN ((lk x3.kind ([(1, [78, 69]), (2, [78, 69, 70]), (3, [69]), (4, []), (5, [69]), (6, [69, 65, 66]), (7, [69, 65]), (8, [69])] : List (Int × Str))).getD [])), (.bool ((lk x3.kind ([(1, [78, 69]), (2, [78, 69, 70]), (3, [69]), (4, []), (5, [69]), (6, [69, 65, 66]), (7, [69, 65]), (8, [69])] : List (Int × Str))).isSome))])) rfl) (aa (bJ rfl rfl) (aa (bJ rfl rfl) ?_)))))))))
 refine lZ h 10 Ag fun w Dl h => dS h 10 [(aN ((lk x3.kind ([(1, [78, 69]), (2, [78, 69, 70]), (3, [69]), (4, []), (5, [69]), (6, [69, 65, 66]), (7, [69, 65]), (8, [69])] : List (Int × Str))).getD []))] rfl Ag rfl rfl rfl rfl rfl fun w h => aa (ae (v := (.bool ((lk x3.kind ([(1, [78, 69]), (2, [78, 69, 70]), (3, [69]), (4, []), (5, [69]), (6, [69, 65, 66]), (7, [69, 65]), (8, [69])] : List (Int × Str))).isSome))) rfl) (nJ (aa (ng (c1 := []) (c2 := [(.pointer (some ⟨Dl, 0, none⟩))]) rfl rfl) (aa (ae (v := (.func (.func 144) #[] #[(.pointer (some ⟨Dl, 0, none⟩))])) rfl) (nK (aa (ag (v := (.bool ((lk x3.kind ([(1, [78, 69]), (2, [78, 69, 70]), (3, [69]), (4, []), (5, [69]), (6, [69, 65, 66]), (7, [69, 65]), (8, [69])] : List (Int × Str))).isSome))) rfl) (aa (dU rfl) (aa (ag (v := (.bool ((!(lk x3.kind ([(1, [78, 69]), (2, [78, 69, 70]), (3, [69]), (4, []), (5, [69]), (6, [69, 65, 66]), (7, [69, 65]), (8, [69])] : List (Int × Str))).isSome)))) rfl) (az rfl rfl (fun q => ah xk rfl) (az rfl rfl (fun q => aB h 8 rfl aP (dE q) rfl) (az rfl rfl (fun q => gV (dE q) rfl) (az rfl rfl (fun q => ag (v := (.bool (decide ((x3.n : Int) ≠ 0)))) (dE q)) (kN ((!(lk x3.kind ([(1, [78, 69]), (2, [78, 69, 70]), (3, [69]), (4, []), (5, [69]), (6, [69, 65, 66]), (7, [69, 65]), (8, [69])] : List (Int × Str))).isSome) == false) rfl rfl (fun q => ag (v := (.func (.func 144) #[] #[(.pointer (some ⟨Dl, 0, none⟩))])) rfl) (Db [(.pointer (some ⟨Dl, 0, none⟩))] ((!(lk x3.kind ([(1, [78, 69]), (2, [78, 69, 70]), (3, [69]), (4, []), (5, [69]), (6, [69, 65, 66]), (7, [69, 65]), (8, [69])] : List (Int × Str))).isSome) == false) rfl rfl Bp (fun q => (dE q)) (fun q => iB rfl rfl) (xn _ _ h.lt ((lk x3.kind ([(1, [78, 69]), (2, [78, 69, 70]), (3, [69]), (4, []), (5, [69]), (6, [69, 65, 66]), (7, [69, 65]), (8, [69])] : List (Int × Str))).getD []) Dl (h.lH 10 rfl) _ rfl) fun w k24 => ?_)))))))))))))
 replace h := h.grow k24
 refine kN ((!(lk x3.kind ([(1, [78, 69]), (2, [78, 69, 70]), (3, [69]), (4, []), (5, [69]), (6, [69, 65, 66]), (7, [69, 65]), (8, [69])] : List (Int × Str))).isSome) == false) rfl rfl (fun q => dU (dE q)) (az rfl rfl (fun q => fB (dE q) (Qo q) lW) (aa (iO rfl rfl lW) (aa (ag (v := (.bool (((!(lk x3.kind ([(1, [78, 69]), (2, [78, 69, 70]), (3, [69]), (4, []), (5, [69]), (6, [69, 65, 66]), (7, [69, 65]), (8, [69])] : List (Int × Str))).isSome) || (decide ((x3.n : Int) ≠ 0) && (!(bg ((lk x3.kind ([(1, [78, 69]), (2, [78, 69, 70]), (3, [69]), (4, []), (5, [69]), (6, [69, 65, 66]), (7, [69, 65]), (8, [69])] : List (Int × Str))).getD [])))))))) rfl) (az rfl rfl (fun q => ah Ac rfl) (az rfl rfl (fun q => aB h 8 rfl yL (dE q) rfl) (az rfl rfl (fun q => aX lX (dE q) (h.lF 4 rfl)) (az rfl rfl (fun q => jK (dE q) rfl) (az rfl rfl (fun q => ag (v := (.bool (decide ((0 : Int) < (x3.e.length : Int))))) (dE q)) (kN (((!(lk x3.kind ([(1, [78, 69]), (2, [78, 69, 70]), (3, [69]), (4, []), (5, [69]), (6, [69, 65, 66]), (7, [69, 65]), (8, [69])] : List (Int × Str))).isSome) || (decide ((x3.n : Int) ≠ 0) && (!(bg ((lk x3.kind ([(1, [78, 69]), (2, [78, 69, 70]), (3, [69]), (4, []), (5, [69]), (6, [69, 65, 66]), (7, [69, 65]), (8, [69])] : List (Int × Str))).getD []))))) == false) rfl rfl (fun q => ag (v := (.func (.func 144) #[] #[(.pointer (some ⟨Dl, 0, none⟩))])) rfl) (Db [(.pointer (some ⟨Dl, 0, none⟩))] (((!(lk x3.kind ([(1, [78, 69]), (2, [78, 69, 70]), (3, [69]), (4, []), (5, [69]), (6, [69, 65, 66]), (7, [69, 65]), (8, [69])] : List (Int × Str))).isSome) || (decide ((x3.n : Int) ≠ 0) && (!(bg ((lk x3.kind ([(1, [78, 69]), (2, [78, 69, 70]), (3, [69]), (4, []), (5, [69]), (6, [69, 65, 66]), (7, [69, 65]), (8, [69])] : List (Int × Str))).getD []))))) == false) rfl rfl Bp (fun q => (dE q)) (fun q => iB rfl rfl) (xq _ _ h.lt ((lk x3.kind ([(1, [78, 69]), (2, [78, 69, 70]), (3, [69]), (4, []), (5, [69]), (6, [69, 65, 66]), (7, [69, 65]), (8, [69])] : List (Int × Str))).getD []) Dl (h.lH 10 rfl) _ rfl) fun w k25 => ?_))))))))))
 replace h := h.grow k25
 refine kN (((!(lk x3.kind ([(1, [78, 69]), (2, [78, 69, 70]), (3, [69]), (4, []), (5, [69]), (6, [69, 65, 66]), (7, [69, 65]), (8, [69])] : List (Int × Str))).isSome) || (decide ((x3.n : Int) ≠ 0) && (!(bg ((lk x3.kind ([(1, [78, 69]), (2, [78, 69, 70]), (3, [69]), (4, []), (5, [69]), (6, [69, 65, 66]), (7, [69, 65]), (8, [69])] : List (Int × Str))).getD []))))) == false) rfl rfl (fun q => dU (dE q)) (az rfl rfl (fun q => fB (dE q) (Qo q) lW) (aa (iO rfl rfl lW) (aa (ag (v := (.bool ((((!(lk x3.kind ([(1, [78, 69]), (2, [78, 69, 70]), (3, [69]), (4, []), (5, [69]), (6, [69, 65, 66]), (7, [69, 65]), (8, [69])] : List (Int × Str))).isSome) || (decide ((x3.n : Int) ≠ 0) && (!(bg ((lk x3.kind ([(1, [78, 69]), (2, [78, 69, 70]), (3, [69]), (4, []), (5, [69]), (6, [69, 65, 66]), (7, [69, 65]), (8, [69])] : List (Int × Str))).getD []))))) || (decide ((0 : Int) < (x3.e.length : Int)) && (!(bX ((lk x3.kind ([(1, [78, 69]), (2, [78, 69, 70]), (3, [69]), (4, []), (5, [69]), (6, [69, 65, 66]), (7, [69, 65]), (8, [69])] : List (Int × Str))).getD [])))))))) rfl) (az rfl rfl (fun q => ah Cv rfl) (az rfl rfl (fun q => aB h 8 rfl yL (dE q) rfl) (az rfl rfl (fun q => aX lX (dE q) (h.lF 5 rfl)) (az rfl rfl (fun q => jK (dE q) rfl) (az rfl rfl (fun q => ag (v := (.bool (decide ((0 : Int) < (x3.f.length : Int))))) (dE q)) (kN ((((!(lk x3.kind ([(1, [78, 69]), (2, [78, 69, 70]), (3, [69]), (4, []), (5, [69]), (6, [69, 65, 66]), (7, [69, 65]), (8, [69])] : List (Int × Str))).isSome) || (decide ((x3.n : Int) ≠ 0) && (!(bg ((lk x3.kind ([(1, [78, 69]), (2, [78, 69, 70]), (3, [69]), (4, []), (5, [69]), (6, [69, 65, 66]), (7, [69, 65]), (8, [69])] : List (Int × Str))).getD []))))) || (decide ((0 : Int) < (x3.e.length : Int)) && (!(bX ((lk x3.kind ([(1, [78, 69]), (2, [78, 69, 70]), (3, [69]), (4, []), (5, [69]), (6, [69, 65, 66]), (7, [69, 65]), (8, [69])] : List (Int × Str))).getD []))))) == false) rfl rfl (fun q => ag (v := (.func (.func 144) #[] #[(.pointer (some ⟨Dl, 0, none⟩))])) rfl) (Db [(.pointer (some ⟨Dl, 0, none⟩))] ((((!(lk x3.kind ([(1, [78, 69]), (2, [78, 69, 70]), (3, [69]), (4, []), (5, [69]), (6, [69, 65, 66]), (7, [69, 65]), (8, [69])] : List (Int × Str))).isSome) || (decide ((x3.n : Int) ≠ 0) && (!(bg ((lk x3.kind ([(1, [78, 69]), (2, [78, 69, 70]), (3, [69]), (4, []), (5, [69]), (6, [69, 65, 66]), (7, [69, 65]), (8, [69])] : List (Int × Str))).getD []))))) || (decide ((0 : Int) < (x3.e.length : Int)) && (!(bX ((lk x3.kind ([(1, [78, 69]), (2, [78, 69, 70]), (3, [69]), (4, []), (5, [69]), (6, [69, 65, 66]), (7, [69, 65]), (8, [69])] : List (Int × Str))).getD []))))) == false) rfl rfl Bp (fun q => (dE q)) (fun q => iB rfl rfl) (qF _ _ h.lt ((lk x3.kind ([(1, [78, 69]), (2, [78, 69, 70]), (3, [69]), (4, []), (5, [69]), (6, [69, 65, 66]), (7, [69, 65]), (8, [69])] : List (Int × Str))).getD []) Dl (h.lH 10 rfl) _ rfl) fun w k26 => ?_))))))))))
 replace h := h.grow k26
 refine kN ((((!(lk x3.kind ([(1, [78, 69]), (2, [78, 69, 70]), (3, [69]), (4, []), (5, [69]), (6, [69, 65, 66]), (7, [69, 65]), (8, [69])] : List (Int × Str))).isSome) || (decide ((x3.n : Int) ≠ 0) && (!(bg ((lk x3.kind ([(1, [78, 69]), (2, [78, 69, 70]), (3, [69]), (4, []), (5, [69]), (6, [69, 65, 66]), (7, [69, 65]), (8, [69])] : List (Int × Str))).getD []))))) || (decide ((0 : Int) < (x3.e.length : Int)) && (!(bX ((lk x3.kind ([(1, [78, 69]), (2, [78, 69, 70]), (3, [69]), (4, []), (5, [69]), (6, [69, 65, 66]), (7, [69, 65]), (8, [69])] : List (Int × Str))).getD []))))) == false) rfl rfl (fun q => dU (dE q)) (az rfl rfl (fun q => fB (dE q) (Qo q) lW) (aa (iO rfl rfl lW) (aa (ag (v := (.bool (((((!(lk x3.kind ([(1, [78, 69]), (2, [78, 69, 70]), (3, [69]), (4, []), (5, [69]), (6, [69, 65, 66]), (7, [69, 65]), (8, [69])] : List (Int × Str))).isSome) || (decide ((x3.n : Int) ≠ 0) && (!(bg ((lk x3.kind ([(1, [78, 69]), (2, [78, 69, 70]), (3, [69]), (4, []), (5, [69]), (6, [69, 65, 66]), (7, [69, 65]), (8, [69])] : List (Int × Str))).getD []))))) || (decide ((0 : Int) < (x3.e.length : Int)) && (!(bX ((lk x3.kind ([(1, [78, 69]), (2, [78, 69, 70]), (3, [69]), (4, []), (5, [69]), (6, [69, 65, 66]), (7, [69, 65]), (8, [69])] : List (Int × Str))).getD []))))) || (decide ((0 : Int) < (x3.f.length : Int)) && (!(dG ((lk x3.kind ([(1, [78, 69]), (2, [78, 69, 70]), (3, [69]), (4, []), (5, [69]), (6, [69, 65, 66]), (7, [69, 65]), (8, [69])] : List (Int × Str))).getD [])))))))) rfl) (az rfl rfl (fun q => ah Ad rfl) (az rfl rfl (fun q => aB h 8 rfl rH (dE q) rfl) (az rfl rfl (fun q => aX nu (dE q) (h.lF 6 rfl)) (az rfl rfl (fun q => jK (dE q) rfl) (az rfl rfl (fun q => ag (v := (.bool (decide ((0 : Int) < (x3.a.length : Int))))) (dE q)) (kN (((((!(lk x3.kind ([(1, [78, 69]), (2, [78, 69, 70]), (3, [69]), (4, []), (5, [69]), (6, [69, 65, 66]), (7, [69, 65]), (8, [69])] : List (Int × Str))).isSome) || (decide ((x3.n : Int) ≠ 0) && (!(bg ((lk x3.kind ([(1, [78, 69]), (2, [78, 69, 70]), (3, [69]), (4, []), (5, [69]), (6, [69, 65, 66]), (7, [69, 65]), (8, [69])] : List (Int × Str))).getD []))))) || (decide ((0 : Int) < (x3.e.length : Int)) && (!(bX ((lk x3.kind ([(1, [78, 69]), (2, [78, 69, 70]), (3, [69]), (4, []), (5, [69]), (6, [69, 65, 66]), (7, [69, 65]), (8, [69])] : List (Int × Str))).getD []))))) || (decide ((0 : Int) < (x3.f.length : Int)) && (!(dG ((lk x3.kind ([(1, [78, 69]), (2, [78, 69, 70]), (3, [69]), (4, []), (5, [69]), (6, [69, 65, 66]), (7, [69, 65]), (8, [69])] : List (Int × Str))).getD []))))) == false) rfl rfl (fun q => ag (v := (.func (.func 144) #[] #[(.pointer (some ⟨Dl, 0, none⟩))])) rfl) (Db [(.pointer (some ⟨Dl, 0, none⟩))] (((((!(lk x3.kind ([(1, [78, 69]), (2, [78, 69, 70]), (3, [69]), (4, []), (5, [69]), (6, [69, 65, 66]), (7, [69, 65]), (8, [69])] : List (Int × Str))).isSome) || (decide ((x3.n : Int) ≠ 0) && (!(bg ((lk x3.kind ([(1, [78, 69]), (2, [78, 69, 70]), (3, [69]), (4, []), (5, [69]), (6, [69, 65, 66]), (7, [69, 65]), (8, [69])] : List (Int × Str))).getD []))))) || (decide ((0 : Int) < (x3.e.length : Int)) && (!(bX ((lk x3.kind ([(1, [78, 69]), (2, [78, 69, 70]), (3, [69]), (4, []), (5, [69]), (6, [69, 65, 66]), (7, [69, 65]), (8, [69])] : List (Int × Str))).getD []))))) || (decide ((0 : Int) < (x3.f.length : Int)) && (!(dG ((lk x3.kind ([(1, [78, 69]), (2, [78, 69, 70]), (3, [69]), (4, []), (5, [69]), (6, [69, 65, 66]), (7, [69, 65]), (8, [69])] : List (Int × Str))).getD []))))) == false) rfl rfl Bp (fun q => (dE q)) (fun q => iB rfl rfl) (xu _ _ h.lt ((lk x3.kind ([(1, [78, 69]), (2, [78, 69, 70]), (3, [69]), (4, []), (5, [69]), (6, [69, 65, 66]), (7, [69, 65]), (8, [69])] : List (Int × Str))).getD []) Dl (h.lH 10 rfl) _ rfl) fun w k27 => ?_))))))))))
 replace h := h.grow k27
 refine kN (((((!(lk x3.kind ([(1, [78, 69]), (2, [78, 69, 70]), (3, [69]), (4, []), (5, [69]), (6, [69, 65, 66]), (7, [69, 65]), (8, [69])] : List (Int × Str))).isSome) || (decide ((x3.n : Int) ≠ 0) && (!(bg ((lk x3.kind ([(1, [78, 69]), (2, [78, 69, 70]), (3, [69]), (4, []), (5, [69]), (6, [69, 65, 66]), (7, [69, 65]), (8, [69])] : List (Int × Str))).getD []))))) || (decide ((0 : Int) < (x3.e.length : Int)) && (!(bX ((lk x3.kind ([(1, [78, 69]), (2, [78, 69, 70]), (3, [69]), (4, []), (5, [69]), (6, [69, 65, 66]), (7, [69, 65]), (8, [69])] : List (Int × Str))).getD []))))) || (decide ((0 : Int) < (x3.f.length : Int)) && (!(dG ((lk x3.kind ([(1, [78, 69]), (2, [78, 69, 70]), (3, [69]), (4, []), (5, [69]), (6, [69, 65, 66]), (7, [69, 65]), (8, [69])] : List (Int × Str))).getD []))))) == false) rfl rfl (fun q => dU (dE q)) (az rfl rfl (fun q => fB (dE q) (Qo q) lW) (aa (iO rfl rfl lW) (aa (ag (v := (.bool ((((((!(lk x3.kind ([(1, [78, 69]), (2, [78, 69, 70]), (3, [69]), (4, []), (5, [69]), (6, [69, 65, 66]), (7, [69, 65]), (8, [69])] : List (Int × Str))).isSome) || (decide ((x3.n : Int) ≠ 0) && (!(bg ((lk x3.kind ([(1, [78, 69]), (2, [78, 69, 70]), (3, [69]), (4, []), (5, [69]), (6, [69, 65, 66]), (7, [69, 65]), (8, [69])] : List (Int × Str))).getD []))))) || (decide ((0 : Int) < (x3.e.length : Int)) && (!(bX ((lk x3.kind ([(1, [78, 69]), (2, [78, 69, 70]), (3, [69]), (4, []), (5, [69]), (6, [69, 65, 66]), (7, [69, 65]), (8, [69])] : List (Int × Str))).getD []))))) || (decide ((0 : Int) < (x3.f.length : Int)) && (!(dG ((lk x3.kind ([(1, [78, 69]), (2, [78, 69, 70]), (3, [69]), (4, []), (5, [69]), (6, [69, 65, 66]), (7, [69, 65]), (8, [69])] : List (Int × Str))).getD []))))) || (decide ((0 : Int) < (x3.a.length : Int)) && (!(gT ((lk x3.kind ([(1, [78, 69]), (2, [78, 69, 70]), (3, [69]), (4, []), (5, [69]), (6, [69, 65, 66]), (7, [69, 65]), (8, [69])] : List (Int × Str))).getD [])))))))) rfl) (az rfl rfl (fun q => ah Ae rfl) (az rfl rfl (fun q => aB h 8 rfl rH (dE q) rfl) (az rfl rfl (fun q => aX nu (dE q) (h.lF 7 rfl)) (az rfl rfl (fun q => jK (dE q) rfl) (az rfl rfl (fun q => ag (v := (.bool (decide ((0 : Int) < (x3.b.length : Int))))) (dE q)) (kN ((((((!(lk x3.kind ([(1, [78, 69]), (2, [78, 69, 70]), (3, [69]), (4, []), (5, [69]), (6, [69, 65, 66]), (7, [69, 65]), (8, [69])] : List (Int × Str))).isSome) || (decide ((x3.n : Int) ≠ 0) && (!(bg ((lk x3.kind ([(1, [78, 69]), (2, [78, 69, 70]), (3, [69]), (4, []), (5, [69]), (6, [69, 65, 66]), (7, [69, 65]), (8, [69])] : List (Int × Str))).getD []))))) || (decide ((0 : Int) < (x3.e.length : Int)) && (!(bX ((lk x3.kind ([(1, [78, 69]), (2, [78, 69, 70]), (3, [69]), (4, []), (5, [69]), (6, [69, 65, 66]), (7, [69, 65]), (8, [69])] : List (Int × Str))).getD []))))) || (decide ((0 : Int) < (x3.f.length : Int)) && (!(dG ((lk x3.kind ([(1, [78, 69]), (2, [78, 69, 70]), (3, [69]), (4, []), (5, [69]), (6, [69, 65, 66]), (7, [69, 65]), (8, [69])] : List (Int × Str))).getD []))))) || (decide ((0 : Int) < (x3.a.length : Int)) && (!(gT ((lk x3.kind ([(1, [78, 69]), (2, [78, 69, 70]), (3, [69]), (4, []), (5, [69]), (6, [69, 65, 66]), (7, [69, 65]), (8, [69])] : List (Int × Str))).getD []))))) == false) rfl rfl (fun q => ag (v := (.func (.func 144) #[] #[(.pointer (some ⟨Dl, 0, none⟩))])) rfl) (Db [(.pointer (some ⟨Dl, 0, none⟩))] ((((((!(lk x3.kind ([(1, [78, 69]), (2, [78, 69, 70]), (3, [69]), (4, []), (5, [69]), (6, [69, 65, 66]), (7, [69, 65]), (8, [69])] : List (Int × Str))).isSome) || (decide ((x3.n : Int) ≠ 0) && (!(bg ((lk x3.kind ([(1, [78, 69]), (2, [78, 69, 70]), (3, [69]), (4, []), (5, [69]), (6, [69, 65, 66]), (7, [69, 65]), (8, [69])] : List (Int × Str))).getD []))))) || (decide ((0 : Int) < (x3.e.length : Int)) && (!(bX ((lk x3.kind ([(1, [78, 69]), (2, [78, 69, 70]), (3, [69]), (4, []), (5, [69]), (6, [69, 65, 66]), (7, [69, 65]), (8, [69])] : List (Int × Str))).getD []))))) || (decide ((0 : Int) < (x3.f.length : Int)) && (!(dG ((lk x3.kind ([(1, [78, 69]), (2, [78, 69, 70]), (3, [69]), (4, []), (5, [69]), (6, [69, 65, 66]), (7, [69, 65]), (8, [69])] : List (Int × Str))).getD []))))) || (decide ((0 : Int) < (x3.a.length : Int)) && (!(gT ((lk x3.kind ([(1, [78, 69]), (2, [78, 69, 70]), (3, [69]), (4, []), (5, [69]), (6, [69, 65, 66]), (7, [69, 65]), (8, [69])] : List (Int × Str))).getD []))))) == false) rfl rfl Bp (fun q => (dE q)) (fun q => iB rfl rfl) (xw _ _ h.lt ((lk x3.kind ([(1, [78, 69]), (2, [78, 69, 70]), (3, [69]), (4, []), (5, [69]), (6, [69, 65, 66]), (7, [69, 65]), (8, [69])] : List (Int × Str))).getD []) Dl (h.lH 10 rfl) _ rfl) fun w k28 => ?_))))))))))
 replace h := h.grow k28
 refine kN ((((((!(lk x3.kind ([(1, [78, 69]), (2, [78, 69, 70]), (3, [69]), (4, []), (5, [69]), (6, [69, 65, 66]), (7, [69, 65]), (8, [69])] : List (Int × Str))).isSome) || (decide ((x3.n : Int) ≠ 0) && (!(bg ((lk x3.kind ([(1, [78, 69]), (2, [78, 69, 70]), (3, [69]), (4, []), (5, [69]), (6, [69, 65, 66]), (7, [69, 65]), (8, [69])] : List (Int × Str))).getD []))))) || (decide ((0 : Int) < (x3.e.length : Int)) && (!(bX ((lk x3.kind ([(1, [78, 69]), (2, [78, 69, 70]), (3, [69]), (4, []), (5, [69]), (6, [69, 65, 66]), (7, [69, 65]), (8, [69])] : List (Int × Str))).getD []))))) || (decide ((0 : Int) < (x3.f.length : Int)) && (!(dG ((lk x3.kind ([(1, [78, 69]), (2, [78, 69, 70]), (3, [69]), (4, []), (5, [69]), (6, [69, 65, 66]), (7, [69, 65]), (8, [69])] : List (Int × Str))).getD []))))) || (decide ((0 : Int) < (x3.a.length : Int)) && (!(gT ((lk x3.kind ([(1, [78, 69]), (2, [78, 69, 70]), (3, [69]), (4, []), (5, [69]), (6, [69, 65, 66]), (7, [69, 65]), (8, [69])] : List (Int × Str))).getD []))))) == false) rfl rfl (fun q => dU (dE q)) (az rfl rfl (fun q => fB (dE q) (Qo q) lW) (aa (iO rfl rfl lW) (nN (aK hs rfl (fun c29 hs => ?_) (fun c29 hs => ?_)))))
 refine nG (aa (ae (v := (I6 4)) rfl) (nR (ax (aD (ax (ax (aD (ax (bI (v := (I6 4)) Tryz.results129 rfl ?_)))))))))
 obtain rfl := gK hs
 exact ⟨h.grown, rfl⟩
 refine aG (aj (aJ (nG (aa (ah lI rfl) (aa (aB h 8 rfl aP rfl rfl) (aa (bW rfl rfl) (aa (ag (v := (.bool (decide ((x3.kind : Int) = 1)))) rfl) (az rfl rfl (fun q => ah xk rfl) (az rfl rfl (fun q => aB h 8 rfl aP (dE q) rfl) (az rfl rfl (fun q => ag (v := (I6 c)) rfl) (vv rfl rfl yK rfl (fun q => iB (dE q) (iB (dE q) rfl)) (fG _ _ h.lt x3.n c _ rfl) fun w k30 => ?_)))))))))))
 replace h := h.grow k30
 refine az rfl rfl (fun q => dU (dE q)) (aa (fB rfl rfl lW) (aa (ag (v := (.bool ((decide ((x3.kind : Int) = 1) && (!(aF x3.n c)))))) rfl) (az rfl rfl (fun q => ah lI rfl) (az rfl rfl (fun q => aB h 8 rfl aP (dE q) rfl) (az rfl rfl (fun q => bW (dE q) rfl) (az rfl rfl (fun q => ag (v := (.bool (decide ((x3.kind : Int) = 2)))) (dE q)) (kN ((decide ((x3.kind : Int) = 1) && (!(aF x3.n c))) == false) rfl rfl (fun q => ah xk rfl) (kN ((decide ((x3.kind : Int) = 1) && (!(aF x3.n c))) == false) rfl rfl (fun q => aB h 8 rfl aP (dE q) rfl) (Qp ((decide ((x3.kind : Int) = 1) && (!(aF x3.n c))) == false) rfl rfl pU rfl (fun q => iB (dE q) (iB rfl (iB rfl rfl))) (dD _ _ h.lt x3.n 0 3 _ rfl) fun w k31 => ?_)))))))))
 replace h := h.grow k31
 refine kN ((decide ((x3.kind : Int) = 1) && (!(aF x3.n c))) == false) rfl rfl (fun q => dU (dE q)) (az rfl rfl (fun q => fB (dE q) (Qo q) lW) (aa (iO rfl rfl lW) (nN (aK hs rfl (fun c32 hs => ?_) (fun c32 hs => ?_)))))
 refine nG (aa (ae (v := (I6 3)) rfl) (nR (ax (aD (ax (ax (aD (ax (bI (v := (I6 3)) Tryz.results129 rfl ?_)))))))))
 obtain rfl := gK hs
 exact ⟨h.grown, rfl⟩
 refine nS (aa (ae (v := (I6 0)) rfl) (nN (dm (σ := Int) (inl ([12] ++ rg 105 7)) (fun ED => [(12, (I6 ED))]) (fun ED w => SH w0 M BE w (hset [(1, .sr fT va a), (2, .sr jM vb b), (4, .rd mi Ui x3.e), (5, .rd mi Dk x3.f), (6, .rd fT G6 x3.a), (7, .rd fT Nc x3.b), (8, .blk Iy [(I6 x3.kind), (I6 x3.n), Ui, Dk, G6, Nc]), (10, .blk Dl [(aN ((lk x3.kind ([(1, [78, 69]), (2, [78, 69, 70]), (3, [69]), (4, []), (5, [69]), (6, [69, 65, 66]), (7, [69, 65]), (8, [69])] : List (Int × Str))).getD []))])]) ∧ nQ N F0 x3 b c a GD ED = some r) ?_ ?_)))
 rintro ED w dC ⟨h, hs⟩
 refine dm (σ := Int) (inl ([12] ++ rg 112 11)) (fun x34 => [(12, (I6 x34)), (115, (gv (decide ((ED : Int) = 0) == true) (.func (.func 144) #[] #[(.pointer (some ⟨Dl, 0, none⟩))])))]) (fun x34 w => SH w0 M BE w (hset [(1, .sr fT va a), (2, .sr jM vb b), (4, .rd mi Ui x3.e), (5, .rd mi Dk x3.f), (6, .rd fT G6 x3.a), (7, .rd fT Nc x3.b), (8, .blk Iy [(I6 x3.kind), (I6 x3.n), Ui, Dk, G6, Nc]), (10, .blk Dl [(aN ((lk x3.kind ([(1, [78, 69]), (2, [78, 69, 70]), (3, [69]), (4, []), (5, [69]), (6, [69, 65, 66]), (7, [69, 65]), (8, [69])] : List (Int × Str))).getD []))])]) ∧ nP F0 x3 a b c GD x34 = some r) ?_ ?_
 rintro x34 w dC ⟨h, hs⟩
 refine dm (σ := Int) (inl ([12] ++ rg 123 7)) (fun Ba => [(12, (I6 Ba))]) (fun Ba w => SH w0 M BE w (hset [(1, .sr fT va a), (2, .sr jM vb b), (4, .rd mi Ui x3.e), (5, .rd mi Dk x3.f), (6, .rd fT G6 x3.a), (7, .rd fT Nc x3.b), (8, .blk Iy [(I6 x3.kind), (I6 x3.n), Ui, Dk, G6, Nc]), (10, .blk Dl [(aN ((lk x3.kind ([(1, [78, 69]), (2, [78, 69, 70]), (3, [69]), (4, []), (5, [69]), (6, [69, 65, 66]), (7, [69, 65]), (8, [69])] : List (Int × Str))).getD []))])]) ∧ nO F0 x3 b c GD Ba = some r) ?_ ?_
 rintro Ba w dC ⟨h, hs⟩
 refine dm (σ := Int) (inl ([12] ++ rg 130 7)) (fun qC => [(12, (I6 qC))]) (fun qC w => SH w0 M BE w (hset [(1, .sr fT va a), (2, .sr jM vb b), (10, .blk Dl [(aN ((lk x3.kind ([(1, [78, 69]), (2, [78, 69, 70]), (3, [69]), (4, []), (5, [69]), (6, [69, 65, 66]), (7, [69, 65]), (8, [69])] : List (Int × Str))).getD []))])]) ∧ nM GD qC = some r) ?_ ?_
 rintro qC w dC ⟨h, hs⟩
 refine nG (aa (ag (v := (I6 qC)) rfl) (aa (gV rfl rfl) (nN (aK hs rfl (fun c37 hs => ?_) (fun c37 hs => ?_)))))
 refine nG (aa (ag (v := (I6 qC)) rfl) (aa (ae (v := (I6 qC)) rfl) (nR (aD (ax (ax (aD (ax (bI (v := (I6 qC)) Tryz.results129 rfl ?_)))))))))
 obtain rfl := gK hs
 exact ⟨h.grown, rfl⟩
 refine aG (au (aj (ay (aa (dz rfl rfl e7r) (aa (ag (v := (I6 ((i2 + 1)))) rfl) (aC (ak ?_)))))))
 subst Uh
 exact iw ⟨k1 + 1, i2 + 1⟩ ⟨h.cn _, by omega, hs⟩ (by have := kQ e6; dsimp only; omega)
 refine nG (aa (ag (v := (I6 Ba)) rfl) (aa (bW rfl rfl) (nN (aK hs rfl (fun E5 hs => ?_) (fun E5 hs => ?_)))))
 refine ay (aa (ah Ae rfl) (aa (aB h 8 rfl rH rfl rfl) (aa (ag (v := vb) rfl) (aa (ag (v := (I6 c)) rfl) ?_))))
 obtain ⟨y39, e40, hs⟩ := aM hs
 refine aO LG rfl rfl (ih _ _ h.lt Nc x3.b (h.lF 7 rfl) vb b (h.fQ 2 rfl) c _ e40) ?_
 rintro _ w ⟨k41, rfl⟩
 refine ⟨_, rfl, ?_⟩
 replace h := h.grow k41
 refine aa (ae (v := (I6 y39)) rfl) (aC (ak ?_))
 exact cO y39 ⟨h.cn _, hs⟩
 refine aG (ak ?_)
 exact cO Ba ⟨h.cn _, hs⟩
 refine nG (aa (ag (v := (I6 x34)) rfl) (aa (bW rfl rfl) (nN (aK hs rfl (fun c42 hs => ?_) (fun c42 hs => ?_)))))
 refine ay (aa (ah Ad rfl) (aa (aB h 8 rfl rH rfl rfl) (aa (ag (v := vb) rfl) (aa (ag (v := (I6 c)) rfl) ?_))))
 obtain ⟨sS, e44, hs⟩ := aM hs
 refine aO LG rfl rfl (ih _ _ h.lt G6 x3.a (h.lF 6 rfl) vb b (h.fQ 2 rfl) c _ e44) ?_
 rintro _ w ⟨SC, rfl⟩
 refine ⟨_, rfl, ?_⟩
 replace h := h.grow SC
 refine aa (ae (v := (I6 sS)) rfl) (aC (ak ?_))
 exact cO sS ⟨h.cn _, hs⟩
 refine aG (ak ?_)
 exact cO x34 ⟨h.cn _, hs⟩
 refine nG (aa (ag (v := (I6 ED)) rfl) (aa (bW rfl rfl) (aa (ag (v := (.bool (decide ((ED : Int) = 0)))) rfl) (az rfl rfl (fun q => ag (v := (.func (.func 144) #[] #[(.pointer (some ⟨Dl, 0, none⟩))])) rfl) (Ig [(.pointer (some ⟨Dl, 0, none⟩))] rfl rfl Bp (fun q => (dE q)) (fun q => iB rfl rfl) (qF _ _ h.lt ((lk x3.kind ([(1, [78, 69]), (2, [78, 69, 70]), (3, [69]), (4, []), (5, [69]), (6, [69, 65, 66]), (7, [69, 65]), (8, [69])] : List (Int × Str))).getD []) Dl (h.lH 10 rfl) _ rfl) fun w k46 => ?_)))))
 replace h := h.grow k46
 refine aa (fB rfl rfl lW) (nN (aK hs rfl (fun c47 hs => ?_) (fun c47 hs => ?_)))
 refine ay (aa (ah Cv rfl) (aa (aB h 8 rfl yL rfl rfl) (aa (ag (v := vb) rfl) (aa (ag (v := (I6 c)) rfl) ?_))))
 obtain ⟨sU, e49, hs⟩ := aM hs
 refine aO QC rfl rfl (uP N _ _ h.lt Dk x3.f (h.lF 5 rfl) vb b (h.fQ 2 rfl) c _ e49) ?_
 rintro _ w ⟨QH, rfl⟩
 refine ⟨_, rfl, ?_⟩
 replace h := h.grow QH
 refine aa (ae (v := (I6 sU)) rfl) (aC (ak ?_))
 exact cO sU ⟨h.cn _, hs⟩
 refine aG (ak ?_)
 exact cO ED ⟨h.cn _, hs⟩
 refine nG (aa (ag (v := (.func (.func 144) #[] #[(.pointer (some ⟨Dl, 0, none⟩))])) rfl) (iL (args := [(aN [69]), (.pointer (some ⟨Dl, 0, none⟩))]) Bp rfl rfl (aL (args := [(aN [69]), (.pointer (some ⟨Dl, 0, none⟩))]) Tryz.func144 rfl Tryz.ntmps144 (bH rfl) (nG (aa (ae (v := (.bool (false))) rfl) (nJ (aa (aB h 10 rfl Ag rfl rfl) (aa (ag (v := (aN [69])) rfl) (aO Dj rfl rfl (kY _ _ h.lt ((lk x3.kind ([(1, [78, 69]), (2, [78, 69, 70]), (3, [69]), (4, []), (5, [69]), (6, [69, 65, 66]), (7, [69, 65]), (8, [69])] : List (Int × Str))).getD []) 69 _ rfl) ?_)))))))))
 rintro _ w ⟨k51, rfl⟩
 refine ⟨_, rfl, ?_⟩
 replace h := h.grow k51
 refine aa (ae (v := (.bool ((hasB ((lk x3.kind ([(1, [78, 69]), (2, [78, 69, 70]), (3, [69]), (4, []), (5, [69]), (6, [69, 65, 66]), (7, [69, 65]), (8, [69])] : List (Int × Str))).getD []) 69)))) rfl) (nR (bI (v := (.bool ((hasB ((lk x3.kind ([(1, [78, 69]), (2, [78, 69, 70]), (3, [69]), (4, []), (5, [69]), (6, [69, 65, 66]), (7, [69, 65]), (8, [69])] : List (Int × Str))).getD []) 69)))) Tryz.results144 rfl (⟨_, rfl, ?_⟩)))
 refine nN (aK hs rfl (fun D7 hs => ?_) (fun D7 hs => ?_))
 refine ay (aa (ah Ac rfl) (aa (aB h 8 rfl yL rfl rfl) (aa (ag (v := vb) rfl) (aa (ag (v := (I6 c)) rfl) ?_))))
 obtain ⟨GG, e54, hs⟩ := aM hs
 refine aO QC rfl rfl (uP N _ _ h.lt Ui x3.e (h.lF 4 rfl) vb b (h.fQ 2 rfl) c _ e54) ?_
 rintro _ w ⟨ZC, rfl⟩
 refine ⟨_, rfl, ?_⟩
 replace h := h.grow ZC
 refine aa (ae (v := (I6 GG)) rfl) (aC (ak ?_))
 exact cO GG ⟨h.cn _, hs⟩
 refine aG (ak ?_)
 exact cO 0 ⟨h.cn _, hs⟩
 rw [eX (hik ▸ e6), dZ] at hs
 refine nE (aa (ae (v := (I6 0)) rfl) (nR (bI (v := (I6 0)) Tryz.results129 rfl ?_)))
 obtain rfl := gK hs
 exact ⟨h.grown, rfl⟩
def nV (N : Nat) (a : List gG) (mZ : gG) (s : Unit) (wM : Unit → Option Int) : Option Int :=
  (pq N mZ.body 4).bind fun kJ => bif (!kJ.2) then some 2 else (ku N mZ.body a mZ.locals).bind fun QI => bif decide ((QI : Int) ≠ 0) then some QI else wM ()
def nW (s : Unit) : Option Int :=
  some 0
def nX (i4 : Int) (x5 : gG) (s : Unit) (nx7 : Unit → Option Int) : Option Int :=
  bif (((!(aI x5.params 0 3)) || (!(aI x5.locals x5.params 6))) || (decide ((i4 : Int) = 0) && decide ((x5.params : Int) ≠ 0))) then some 3 else nx7 ()
def nY (N : Nat) (a : List gG) (s : Unit) : Option Int :=
  each (nV N a) nW a ()
def uQ (N : Nat) (a : List gG) : Option Int :=
  bif (!(aI (a.length : Int) 1 4)) then some 2 else dQ nX (nY N a) 0 a ()
theorem zi (N : Nat) (w0 : World) (M : BS) (hM : ∀ b, M b → b < w0.heap.size) (va : Value) (a : List gG) (ha : fK jM w0 BE M va a) (r : Int) (hs : uQ N a = some r) :
    Calls Tryz.prog 112 #[va] w0 (fun e w' => Grow w0 w' ∧ e = .returned (.int .i64 r)) := by
 refine aL (args := [va]) Tryz.func112 rfl Tryz.ntmps112 (bH rfl) ?_
 have h := SH.init hM
 replace h := h.eu 1 ha aT
 have tQ := ha.bD
 refine nG (aa (ae (v := (I6 0)) rfl) (nK (aa (ag (v := va) rfl) (aa (aX jw rfl (h.fQ 1 rfl)) (aO pU rfl rfl (dD _ _ h.lt (a.length : Int) 1 4 _ rfl) ?_)))))
 rintro _ w ⟨k1, rfl⟩
 refine ⟨_, rfl, ?_⟩
 replace h := h.grow k1
 refine aa (dU rfl) (nN (aK hs rfl (fun c2 hs => ?_) (fun c2 hs => ?_)))
 refine nG (aa (ae (v := (I6 2)) rfl) (nR (ax (bI (v := (I6 2)) Tryz.results112 rfl ?_))))
 obtain rfl := gK hs
 exact ⟨h.grown, rfl⟩
 refine aG (aj (aJ (nG (aa (ag (v := va) rfl) (aa (aX jw rfl (h.fQ 1 rfl)) (aa (ag (v := (I6 0)) rfl) (nN (aH (eF (σ := Nat × Int) (inl ([2, 3, 4] ++ rg 16 27)) (fun ⟨k3, i4⟩ => [(16, (I6 i4))]) (fun ⟨k3, i4⟩ w => SH w0 M BE w (hset [(1, .sr jM va a)]) ∧ i4 = (k3 : Int) ∧ dQ nX (nY N a) i4 (a.drop k3) () = some r) (fun ⟨k3, i4⟩ => a.length - k3) ⟨0, 0⟩ ⟨rfl, trivial⟩ ?_ ?_)))))))))
 exact ⟨h.cn _, rfl, hs⟩
 rintro ⟨k3, i4⟩ w dC ⟨h, hik, hs⟩
 refine nG ?_
 refine aa (dK rfl rfl) (nN ?_)
 refine aJ (fD rfl (fun e8 => ?_) (fun e8 => ?_))
 refine aG (aj ?_)
 obtain ⟨x5, e9a, e9b⟩ := eU (hik ▸ e8)
 rw [e9b, jC] at hs
 generalize ZE : dQ nX (nY N a) (i4 + 1) (a.drop (k3 + 1)) = nx7 at hs
 have e9r := eZ ((h.fQ 1 rfl)).bD hik e8
 refine aJ (aH (nG (aa (ag (v := (I6 i4)) rfl) ?_)))
 obtain ⟨b11, o12, ZF, h, ZG, i10⟩ := h.vo 1 2 rfl jw rfl (gB hik) (eY hik e9a)
 obtain ⟨Dk, rfl, g16⟩ := uN ZG
 replace h := h.bK 3 g16.up
 refine aa (i10 _ _ _ _ _ _ _ _ _ rfl rfl) (aa (iD (k := 0) (vs := [(I6 x5.params), (I6 x5.locals), Dk]) h 2 rfl oC rfl rfl rfl (bH rfl)) (bu h 4 oC fun w b17 h => aa (ae (v := (I6 i4)) rfl) (dN (vs := [(I6 x5.params), (I6 x5.locals), Dk]) h 4 [(I6 x5.params), (I6 x5.locals), Dk] rfl oC rfl rfl rfl rfl rfl (ai rfl (ai rfl (ai (h.gy 3 rfl).one aS))) fun w h => nJ (aa (ah xh rfl) (aa (aB h 4 rfl aP rfl rfl) (aO pU rfl rfl (dD _ _ h.lt x5.params 0 3 _ rfl) ?_))))))
 rintro _ w ⟨k18, rfl⟩
 refine ⟨_, rfl, ?_⟩
 replace h := h.grow k18
 refine aa (dU rfl) (aa (ag (v := (.bool ((!(aI x5.params 0 3))))) rfl) (az rfl rfl (fun q => ah Ab rfl) (az rfl rfl (fun q => aB h 4 rfl aP (dE q) rfl) (az rfl rfl (fun q => ah xh rfl) (az rfl rfl (fun q => aB h 4 rfl aP (dE q) rfl) (vv rfl rfl pU rfl (fun q => iB (dE q) (iB (dE q) (iB rfl rfl))) (dD _ _ h.lt x5.locals x5.params 6 _ rfl) fun w k19 => ?_))))))
 replace h := h.grow k19
 refine az rfl rfl (fun q => dU (dE q)) (aa (iO rfl rfl lW) (aa (ag (v := (.bool (((!(aI x5.params 0 3)) || (!(aI x5.locals x5.params 6)))))) rfl) (az rfl rfl (fun q => ag (v := (I6 i4)) rfl) (az rfl rfl (fun q => bW (dE q) rfl) (az rfl rfl (fun q => ag (v := (.bool (decide ((i4 : Int) = 0)))) (dE q)) (kN (((!(aI x5.params 0 3)) || (!(aI x5.locals x5.params 6))) == false) rfl rfl (fun q => ah xh rfl) (kN (((!(aI x5.params 0 3)) || (!(aI x5.locals x5.params 6))) == false) rfl rfl (fun q => aB h 4 rfl aP (dE q) rfl) (kN (((!(aI x5.params 0 3)) || (!(aI x5.locals x5.params 6))) == false) rfl rfl (fun q => gV (dE q) rfl) (az rfl rfl (fun q => fB (dE q) (Qo q) lW) (aa (iO rfl rfl lW) (nN (aK hs rfl (fun c20 hs => ?_) (fun c20 hs => ?_)))))))))))))
 refine nG (aa (ae (v := (I6 3)) rfl) (nR (aD (ax (ax (aD (ax (bI (v := (I6 3)) Tryz.results112 rfl ?_))))))))
 obtain rfl := gK hs
 exact ⟨h.grown, rfl⟩
 refine aG (au (aj (ay (aa (dz rfl rfl e9r) (aa (ag (v := (I6 ((i4 + 1)))) rfl) (aC (ak ?_)))))))
 subst ZE
 exact iw ⟨k3 + 1, i4 + 1⟩ ⟨h.cn _, by omega, hs⟩ (by have := kQ e8; dsimp only; omega)
 rw [eX (hik ▸ e8), mY] at hs
 refine iI (bC (bC (dV (aj (aJ (nG (aa (ag (v := va) rfl) (aa (aX jw rfl (h.fQ 1 rfl)) (aa (ag (v := (I6 0)) rfl) (nN (aH (eF (σ := Nat × Int) (inl ([2, 6, 7, 8, 9] ++ rg 45 22)) (fun ⟨k21, i22⟩ => [(45, (I6 i22))]) (fun ⟨k21, i22⟩ w => SH w0 M BE w (hset [(1, .sr jM va a)]) ∧ i22 = (k21 : Int) ∧ each (nV N a) nW (a.drop k21) () = some r) (fun ⟨k21, i22⟩ => a.length - k21) ⟨0, 0⟩ ⟨rfl, trivial⟩ ?_ ?_))))))))))))
 exact ⟨h.cn _, rfl, hs⟩
 rintro ⟨k21, i22⟩ w dC ⟨h, hik, hs⟩
 refine nG ?_
 refine aa (dK rfl rfl) (nN ?_)
 refine aJ (fD rfl (fun e26 => ?_) (fun e26 => ?_))
 refine aG (aj ?_)
 obtain ⟨mZ, e27a, e27b⟩ := eU (hik ▸ e26)
 rw [e27b, df] at hs
 generalize Nf : each (nV N a) nW (a.drop (k21 + 1)) = wM at hs
 have ZH := eZ ((h.fQ 1 rfl)).bD hik e26
 refine aJ (aH (nG ?_))
 obtain ⟨b29, o30, cs31, h, r32, i28⟩ := h.vo 1 5 rfl jw rfl (gB hik) (eY hik e27a)
 obtain ⟨u33, rfl, g34⟩ := uN r32
 replace h := h.bK 6 g34.up
 refine aa (i28 _ _ _ _ _ _ _ _ _ rfl rfl) (aa (iD (k := 0) (vs := [(I6 mZ.params), (I6 mZ.locals), u33]) h 5 rfl oC rfl rfl rfl (bH rfl)) (bu h 7 oC fun w b35 h => dN (vs := [(I6 mZ.params), (I6 mZ.locals), u33]) h 7 [(I6 mZ.params), (I6 mZ.locals), u33] rfl oC rfl rfl rfl rfl rfl (ai rfl (ai rfl (ai (h.gy 6 rfl).one aS))) fun w h => nK (aa (ah Cu rfl) (aa (aB h 7 rfl rH rfl rfl) ?_))))
 obtain ⟨kJ, e37, hs⟩ := aM hs
 refine aO QB rfl rfl (DC N _ _ h.lt u33 mZ.body (h.lF 6 rfl) 4 _ e37) ?_
 rintro _ w ⟨ME, rfl⟩
 refine ⟨_, rfl, ?_⟩
 replace h := h.grow ME
 refine aa (ag (v := (.tuple #[(I6 kJ.1), (.bool (kJ.2))])) rfl) (aa (bJ rfl rfl) (aa (bJ rfl rfl) (aa (ae (v := (I6 kJ.1)) rfl) (aa (ae (v := (.bool (kJ.2))) rfl) (nJ (aa (ag (v := (.bool (kJ.2))) rfl) (aa (dU rfl) (nN (aK hs rfl (fun Uj hs => ?_) (fun Uj hs => ?_))))))))))
 refine nG (aa (ae (v := (I6 2)) rfl) (nR (ax (aD (ax (ax (aD (ax (bI (v := (I6 2)) Tryz.results112 rfl ?_)))))))))
 obtain rfl := gK hs
 exact ⟨h.grown, rfl⟩
 refine nS (aa (ah Cu rfl) (aa (aB h 7 rfl rH rfl rfl) (aa (ag (v := va) rfl) (aa (ah Ab rfl) (aa (aB h 7 rfl aP rfl rfl) ?_)))))
 obtain ⟨QI, e41, hs⟩ := aM hs
 refine aO LG rfl rfl (zK N _ _ h.lt u33 mZ.body (h.lF 6 rfl) va a (h.fQ 1 rfl) mZ.locals _ e41) ?_
 rintro _ w ⟨JX, rfl⟩
 refine ⟨_, rfl, ?_⟩
 replace h := h.grow JX
 refine aa (ae (v := (I6 QI)) rfl) (nJ (aa (ag (v := (I6 QI)) rfl) (aa (gV rfl rfl) (nN (aK hs rfl (fun Ng hs => ?_) (fun Ng hs => ?_))))))
 refine nG (aa (ag (v := (I6 QI)) rfl) (aa (ae (v := (I6 QI)) rfl) (nR (aD (ax (ax (aD (ax (bI (v := (I6 QI)) Tryz.results112 rfl ?_)))))))))
 obtain rfl := gK hs
 exact ⟨h.grown, rfl⟩
 refine aG (au (aj (ay (aa (dz rfl rfl ZH) (aa (ag (v := (I6 ((i22 + 1)))) rfl) (aC (ak ?_)))))))
 subst Nf
 exact iw ⟨k21 + 1, i22 + 1⟩ ⟨h.cn _, by omega, hs⟩ (by have := kQ e26; dsimp only; omega)
 rw [eX (hik ▸ e26), dZ] at hs
 refine nE (aa (ae (v := (I6 0)) rfl) (nR (bI (v := (I6 0)) Tryz.results112 rfl ?_)))
 obtain rfl := gK hs
 exact ⟨h.grown, rfl⟩
theorem vK (w0 : World) (M : BS) (hM : ∀ b, M b → b < w0.heap.size) (hT : xg Tryz.prog 4 w0) (a : Int) (r : Str) (hs : Ke a = some r) :
    Calls Tryz.prog 125 #[.int .i64 a] w0 (fun e w' => Grow w0 w' ∧ e = .returned (aN r)) :=
  YV Tryz.strconv_Itoa hT hs
theorem Ai (w0 : World) (M : BS) (hM : ∀ b, M b → b < w0.heap.size) (hT : xg Tryz.prog 4 w0) (a : Str) (r : List Str) (hs : ER a = some r) :
    Calls Tryz.prog 111 #[aN a] w0 (fun e w' => Grow w0 w' ∧ ∃ u, e = .returned u ∧ gF qD w' M u r) :=
  TE Tryz.strings_Fields (q := 0) (by kernel_rfl) hM hT hs
def kI (a : Tok) : Option Str :=
  (Ke a.n).bind fun y2 => bif decide ((a.kind : Int) = 2) then iA ([118].length + y2.length ≤ 9223372036854775807) (some ([118] ++ y2)) else bif decide ((a.kind : Int) = 3) then iA (jN (a.n + 1)) ((subs? [63, 43, 45, 42, 60, 61] a.n (a.n + 1)).bind fun x9 => some x9) else bif decide ((a.kind : Int) = 4) then iA ([46].length + y2.length ≤ 9223372036854775807) (some ([46] ++ y2)) else bif decide ((a.kind : Int) = 5) then iA ([110, 101, 119].length + y2.length ≤ 9223372036854775807) (some ([110, 101, 119] ++ y2)) else bif decide ((a.kind : Int) = 6) then iA ([102].length + y2.length ≤ 9223372036854775807) (some ([102] ++ y2)) else some y2
theorem rM (w0 : World) (M : BS) (hM : ∀ b, M b → b < w0.heap.size) (hT : xg Tryz.prog 4 w0) (a : Tok) (r : Str) (hs : kI a = some r) :
    Calls Tryz.prog 106 #[(.agg #[(I6 a.kind), (I6 a.n)])] w0 (fun e w' => Grow w0 w' ∧ e = .returned (aN r)) := by
 refine aL (args := [(.agg #[(I6 a.kind), (I6 a.n)])]) Tryz.func106 rfl Tryz.ntmps106 (bH rfl) ?_
 have h := SH.init hM
 refine nG (l7 (cs := [(I6 a.kind), (I6 a.n)]) h 1 rfl rfl fun w b1 h => aa (ae (v := (aN [])) rfl) (nJ (aa (ah qd rfl) (aa (aB h 1 rfl aP rfl rfl) ?_))))
 obtain ⟨y2, e3, hs⟩ := aM hs
 refine aO Hr rfl rfl (vK _ _ h.lt (hT.go h.keep) a.n _ e3) ?_
 rintro _ w ⟨k4, rfl⟩
 refine ⟨_, rfl, ?_⟩
 replace h := h.grow k4
 refine aa (ae (v := (aN y2)) rfl) (nK (aa (ah EW rfl) (aa (aB h 1 rfl aP rfl rfl) (nN (aH (nG (aa (bW rfl rfl) (aa (ae (v := (.bool (decide ((a.kind : Int) = 2)))) rfl) (nN (aK hs rfl (fun c5 hs => ?_) (fun c5 hs => ?_)))))))))))
 refine nG (aa (ag (v := (aN y2)) rfl) ?_)
 obtain ⟨a6, hs⟩ := bE hs
 refine aa (oJ rfl rfl a6) (aa (ae (v := (aN ([118] ++ y2))) rfl) (nR (aD (ax (bI (v := (aN ([118] ++ y2))) Tryz.results106 rfl ?_)))))
 obtain rfl := gK hs
 exact ⟨h.grown, rfl⟩
 refine nG (aa (bW rfl rfl) (aa (ae (v := (.bool (decide ((a.kind : Int) = 3)))) rfl) (nN (aK hs rfl (fun c7 hs => ?_) (fun c7 hs => ?_)))))
 refine nG (aa (ah qd rfl) (aa (aB h 1 rfl aP rfl rfl) (aa (ah qd rfl) (aa (aB h 1 rfl aP rfl rfl) ?_))))
 obtain ⟨a8, hs⟩ := bE hs
 refine aa (dz rfl rfl a8) ?_
 obtain ⟨x9, e10, hs⟩ := aM hs
 obtain ⟨Uk, Ul, e11c, e11⟩ := OM e10
 refine aa (OL e11 Tryz.underlying9 rfl (.inr (congrArg some rfl)) (.inr (congrArg some rfl)) Uk Ul e11c) (aa (ae (v := (aN x9)) rfl) (nR (aD (ax (bI (v := (aN x9)) Tryz.results106 rfl ?_)))))
 obtain rfl := gK hs
 exact ⟨h.grown, rfl⟩
 refine nG (aa (bW rfl rfl) (aa (ae (v := (.bool (decide ((a.kind : Int) = 4)))) rfl) (nN (aK hs rfl (fun c12 hs => ?_) (fun c12 hs => ?_)))))
 refine nG (aa (ag (v := (aN y2)) rfl) ?_)
 obtain ⟨a13, hs⟩ := bE hs
 refine aa (oJ rfl rfl a13) (aa (ae (v := (aN ([46] ++ y2))) rfl) (nR (aD (ax (bI (v := (aN ([46] ++ y2))) Tryz.results106 rfl ?_)))))
 obtain rfl := gK hs
 exact ⟨h.grown, rfl⟩
 refine nG (aa (bW rfl rfl) (aa (ae (v := (.bool (decide ((a.kind : Int) = 5)))) rfl) (nN (aK hs rfl (fun c14 hs => ?_) (fun c14 hs => ?_)))))
 refine nG (aa (ag (v := (aN y2)) rfl) ?_)
 obtain ⟨a15, hs⟩ := bE hs
 refine aa (oJ rfl rfl a15) (aa (ae (v := (aN ([110, 101, 119] ++ y2))) rfl) (nR (aD (ax (bI (v := (aN ([110, 101, 119] ++ y2))) Tryz.results106 rfl ?_)))))
 obtain rfl := gK hs
 exact ⟨h.grown, rfl⟩
 refine nG (aa (bW rfl rfl) (aa (ae (v := (.bool (decide ((a.kind : Int) = 6)))) rfl) (nN (aK hs rfl (fun c16 hs => ?_) (fun c16 hs => ?_)))))
 refine nG (aa (ag (v := (aN y2)) rfl) ?_)
 obtain ⟨a17, hs⟩ := bE hs
 refine aa (oJ rfl rfl a17) (aa (ae (v := (aN ([102] ++ y2))) rfl) (nR (aD (ax (bI (v := (aN ([102] ++ y2))) Tryz.results106 rfl ?_)))))
 obtain rfl := gK hs
 exact ⟨h.grown, rfl⟩
 refine aG (au (aj (nG (aa (ag (v := (aN y2)) rfl) (aa (ae (v := (aN y2)) rfl) (nR (bI (v := (aN y2)) Tryz.results106 rfl ?_)))))))
 obtain rfl := gK hs
 exact ⟨h.grown, rfl⟩
def qg (x7 : Tok) (x4 : Str) (Ht : Str → Option Str) : Option Str :=
  (kI x7).bind fun JN => iA ([32].length + JN.length ≤ 9223372036854775807) (iA (x4.length + ([32] ++ JN).length ≤ 9223372036854775807) (Ht (x4 ++ ([32] ++ JN))))
def qh (x4 : Str) : Option Str :=
  some x4
def sj (a : List Tok) : Option Str :=
  each qg qh a []
theorem vL (w0 : World) (M : BS) (hM : ∀ b, M b → b < w0.heap.size) (hT : xg Tryz.prog 4 w0) (va : Value) (a : List Tok) (ha : fK mi w0 BE M va a) (r : Str) (hs : sj a = some r) :
    Calls Tryz.prog 147 #[va] w0 (fun e w' => Grow w0 w' ∧ e = .returned (aN r)) := by
 refine aL (args := [va]) Tryz.func147 rfl Tryz.ntmps147 (bH rfl) ?_
 have h := SH.init hM
 replace h := h.eu 1 ha aT
 have tQ := ha.bD
 refine nG (aa (ae (v := (aN [])) rfl) (nJ (aa (ae (v := (aN [])) rfl) (nK (aa (ag (v := va) rfl) (aa (aX lX rfl (h.fQ 1 rfl)) (aa (ag (v := (I6 0)) rfl) (nN (aH (eF (σ := Nat × Int × Str) (inl ([3, 5] ++ rg 8 10)) (fun ⟨k5, i6, x4⟩ => [(3, (aN x4)), (8, (I6 i6))]) (fun ⟨k5, i6, x4⟩ w => SH w0 M BE w (hset [(1, .sr mi va a)]) ∧ i6 = (k5 : Int) ∧ each qg qh (a.drop k5) x4 = some r) (fun ⟨k5, i6, x4⟩ => a.length - k5) ⟨0, 0, []⟩ ⟨rfl, rfl, trivial⟩ ?_ ?_))))))))))
 exact ⟨h.cn _, rfl, hs⟩
 rintro ⟨k5, i6, x4⟩ w dC ⟨h, hik, hs⟩
 refine nG ?_
 refine aa (dK rfl rfl) (nN ?_)
 refine aJ (fD rfl (fun e10 => ?_) (fun e10 => ?_))
 refine aG (aj ?_)
 obtain ⟨x7, Uk, Ul⟩ := eU (hik ▸ e10)
 rw [Ul, df] at hs
 generalize Um : each qg qh (a.drop (k5 + 1)) = Ht at hs
 have Un := eZ ((h.fQ 1 rfl)).bD hik e10
 refine aJ (aH (nG ?_))
 obtain ⟨b13, o14, cs15, h, r16, i12⟩ := h.vo 1 2 rfl lX rfl (gB hik) (eY hik Uk)
 obtain rfl := r16
 refine aa (i12 _ _ _ _ _ _ _ _ _ rfl rfl) (aa (iD (k := 0) (vs := [(I6 x7.kind), (I6 x7.n)]) h 2 rfl lS rfl rfl rfl (bH rfl)) (bu h 3 lS fun w b17 h => dN (vs := [(I6 x7.kind), (I6 x7.n)]) h 3 [(I6 x7.kind), (I6 x7.n)] rfl lS rfl rfl rfl rfl rfl (ai rfl (ai rfl aS)) fun w h => nN (ay (aa (ag (v := (aN x4)) rfl) (aa (eB (vs := [(I6 x7.kind), (I6 x7.n)]) h 3 rfl lS rfl rfl rfl) ?_)))))
 obtain ⟨JN, e19, hs⟩ := aM hs
 refine aO LC rfl rfl (rM _ _ h.lt (hT.go h.keep) x7 _ e19) ?_
 rintro _ w ⟨k20, rfl⟩
 refine ⟨_, rfl, ?_⟩
 replace h := h.grow k20
 obtain ⟨a21, hs⟩ := bE hs
 refine aa (oJ rfl rfl a21) ?_
 obtain ⟨a22, hs⟩ := bE hs
 refine aa (oJ rfl rfl a22) (aa (ae (v := (aN (x4 ++ ([32] ++ JN)))) rfl) (aC (au (aj (ay (aa (dz rfl rfl Un) (aa (ag (v := (I6 ((i6 + 1)))) rfl) (aC (ak ?_)))))))))
 subst Um
 exact iw ⟨k5 + 1, i6 + 1, (x4 ++ ([32] ++ JN))⟩ ⟨h.cn _, by omega, hs⟩ (by have := kQ e10; dsimp only; omega)
 rw [eX (hik ▸ e10), dZ] at hs
 refine nE (aa (ag (v := (aN x4)) rfl) (aa (ae (v := (aN x4)) rfl) (nR (bI (v := (aN x4)) Tryz.results147 rfl ?_))))
 obtain rfl := gK hs
 exact ⟨h.grown, rfl⟩
def oK (Ht : Str → Option Str) (FJ : Str) : Option Str :=
  Ht FJ
def oL (F0 : List bG → Option Str) (x7 : bG) (Ht : Str → Option Str) (x34 : Str) : Option Str :=
  bif decide ((x7.kind : Int) = 6) then (F0 x7.b).bind fun kJ => iA ([32].length + kJ.length ≤ 9223372036854775807) (iA (x34.length + ([32] ++ kJ).length ≤ 9223372036854775807) (oK Ht (x34 ++ ([32] ++ kJ)))) else oK Ht x34
def oM (F0 : List bG → Option Str) (x7 : bG) (a : List bG) (Ht : Str → Option Str) (x30 : Str) : Option Str :=
  (sj x7.e).bind fun su => (sj x7.f).bind fun sD => iA (su.length + sD.length ≤ 9223372036854775807) (iA (x30.length + (su ++ sD).length ≤ 9223372036854775807) (bif (decide ((x7.kind : Int) = 6) || decide ((x7.kind : Int) = 7)) then (F0 x7.a).bind fun uE => iA ([32].length + uE.length ≤ 9223372036854775807) (iA ((x30 ++ (su ++ sD)).length + ([32] ++ uE).length ≤ 9223372036854775807) (oL F0 x7 Ht ((x30 ++ (su ++ sD)) ++ ([32] ++ uE)))) else oL F0 x7 Ht (x30 ++ (su ++ sD))))
def oN (F0 : List bG → Option Str) (a : List bG) (x7 : bG) (x4 : Str) (Ht : Str → Option Str) : Option Str :=
  iA (jN (x7.kind - 1)) ((ER [115, 101, 116, 32, 112, 117, 116, 32, 115, 97, 121, 32, 112, 97, 117, 115, 101, 32, 103, 111, 32, 105, 102, 32, 119, 104, 105, 108, 101, 32, 114, 101, 116, 117, 114, 110]).bind fun Nh => (idx Nh (x7.kind - 1)).bind fun sF => iA ([32].length + sF.length ≤ 9223372036854775807) (iA (x4.length + ([32] ++ sF).length ≤ 9223372036854775807) (bif decide ((x7.kind : Int) ≤ 2) then (Ke x7.n).bind fun sU => iA ([32].length + sU.length ≤ 9223372036854775807) (iA ((x4 ++ ([32] ++ sF)).length + ([32] ++ sU).length ≤ 9223372036854775807) (oM F0 x7 a Ht ((x4 ++ ([32] ++ sF)) ++ ([32] ++ sU)))) else oM F0 x7 a Ht (x4 ++ ([32] ++ sF)))))
def oO (x4 : Str) : Option Str :=
  iA (x4.length + [32, 125].length ≤ 9223372036854775807) (some (x4 ++ [32, 125]))
def uR (F0 : List bG → Option Str) (a : List bG) : Option Str :=
  each (oN F0 a) oO a [123]
def kR : Nat → List bG → Option Str
  | 0 => fun _ => none
  | N + 1 => uR (kR N)
theorem Aj : ∀ (N : Nat) (w0 : World) (M : BS) (hM : ∀ b, M b → b < w0.heap.size) (hT : xg Tryz.prog 4 w0) (va : Value) (a : List bG) (ha : fK fT w0 BE M va a) (r : Str) (hs : kR N a = some r),
    Calls Tryz.prog 130 #[va] w0 (fun e w' => Grow w0 w' ∧ e = .returned (aN r)) := by
 intro N
 induction N with
 | zero => intro w0 M hM hT va a ha r hs; cases hs
 | succ N ih =>
 intro w0 M hM hT va a ha r hs
 replace hs : uR (kR N) a = some r := hs
 generalize kR N = F0 at hs ih
 refine aL (args := [va]) Tryz.func130 rfl Tryz.ntmps130 (bH rfl) ?_
 have h := SH.init hM
 replace h := h.eu 1 ha aT
 have tQ := ha.bD
 refine nG (aa (ae (v := (aN [])) rfl) (nJ (aa (ae (v := (aN [123])) rfl) (nK (aa (ag (v := va) rfl) (aa (aX nu rfl (h.fQ 1 rfl)) (aa (ag (v := (I6 0)) rfl) (nN (aH (eF (σ := Nat × Int × Str) (inl ([3, 5] ++ rg 8 55)) (fun ⟨k5, i6, x4⟩ => [(3, (aN x4)), (8, (I6 i6))]) (fun ⟨k5, i6, x4⟩ w => SH w0 M BE w (hset [(1, .sr fT va a)]) ∧ i6 = (k5 : Int) ∧ each (oN F0 a) oO (a.drop k5) x4 = some r) (fun ⟨k5, i6, x4⟩ => a.length - k5) ⟨0, 0, [123]⟩ ⟨rfl, rfl, trivial⟩ ?_ ?_))))))))))
 exact ⟨h.cn _, rfl, hs⟩
 rintro ⟨k5, i6, x4⟩ w dC ⟨h, hik, hs⟩
 refine nG ?_
 refine aa (dK rfl rfl) (nN ?_)
 refine aJ (fD rfl (fun e10 => ?_) (fun e10 => ?_))
 refine aG (aj ?_)
 obtain ⟨x7, Uk, Ul⟩ := eU (hik ▸ e10)
 rw [Ul, df] at hs
 generalize Um : each (oN F0 a) oO (a.drop (k5 + 1)) = Ht at hs
 have Un := eZ ((h.fQ 1 rfl)).bD hik e10
 refine dm (σ := Str) (inl ([3, 5] ++ rg 10 52)) (fun FJ => [(3, (aN FJ))]) (fun FJ w => SH w0 M BE w (hset [(1, .sr fT va a)]) ∧ oK Ht FJ = some r) ?_ ?_
 rintro FJ w dC ⟨h, hs⟩
 refine ay (aa (dz rfl rfl Un) (aa (ag (v := (I6 ((i6 + 1)))) rfl) (aC (ak ?_))))
 subst Um
 exact iw ⟨k5 + 1, i6 + 1, FJ⟩ ⟨h.cn _, by omega, hs⟩ (by have := kQ e10; dsimp only; omega)
 refine aH (nG ?_)
 obtain ⟨b14, o15, cs16, h, r17, i13⟩ := h.vo 1 2 rfl nu rfl (gB hik) (eY hik Uk)
 obtain ⟨SA, u20, u22, u24, rfl, g19, g21, g23, ZA⟩ := Bj r17
 replace h := h.bK 3 g19.up
 replace h := h.bK 4 g21.up.up
 replace h := h.bK 5 g23.up.up.up
 replace h := h.bK 6 ZA.up.up.up.up
 refine aa (i13 _ _ _ _ _ _ _ _ _ rfl rfl) (aa (iD (k := 0) (vs := [(I6 x7.kind), (I6 x7.n), SA, u20, u22, u24]) h 2 rfl qK rfl rfl rfl (bH rfl)) (bu h 7 qK fun w ZB h => dN (vs := [(I6 x7.kind), (I6 x7.n), SA, u20, u22, u24]) h 7 [(I6 x7.kind), (I6 x7.n), SA, u20, u22, u24] rfl qK rfl rfl rfl rfl rfl (ai rfl (ai rfl (ai (h.gy 3 rfl).one (ai (h.gy 4 rfl).one (ai (h.gy 5 rfl).one (ai (h.gy 6 rfl).one aS)))))) fun w h => nN (aJ (EK mixed h fun w h => ni 0 (aQ.refl BE _) rfl aA (by kernel_rfl) (by kernel_rfl) (by kernel_rfl) (fun w hk => ag (v := (aN x4)) rfl) (ni 2 (aQ.refl BE _) rfl aA (by kernel_rfl) (by kernel_rfl) (by kernel_rfl) (fun w hk => ah lI rfl) (ni 3 (aQ.refl BE _) rfl aA (by kernel_rfl) (by kernel_rfl) (by kernel_rfl) (fun w hk => have h := h.grow hk; aB h 7 rfl aP rfl rfl) ?_))))))
 obtain ⟨Iz, hs⟩ := bE hs
 refine ni 4 (aQ.refl BE _) rfl aA (by kernel_rfl) (by kernel_rfl) (by kernel_rfl) (fun w hk => tY rfl rfl Iz) ?_
 obtain ⟨Uo, Ni⟩ : ∃ x, x = w := ⟨_, rfl⟩
 have u7 : Grow Uo w := Ni ▸ aQ.refl BE w
 refine Kb Ni.symm (Bi 1 (by kernel_rfl) rfl aA ?_)
 obtain ⟨Nh, Uq, hs⟩ := aM hs
 refine aO QA rfl rfl (Ai _ _ h.lt (hT.go h.keep) [115, 101, 116, 32, 112, 117, 116, 32, 115, 97, 121, 32, 112, 97, 117, 115, 101, 32, 103, 111, 32, 105, 102, 32, 119, 104, 105, 108, 101, 32, 114, 101, 116, 117, 114, 110] _ Uq) ?_
 rintro _ w ⟨Nj, uq27x1_3, rfl, Ur⟩
 refine ⟨_, rfl, ?_⟩
 replace h := h.EG 20 Nj Ur
 replace u7 := u7.trans Nj
 refine aC (yf u7 ?_)
 obtain ⟨sF, Nk, hs⟩ := aM hs
 obtain ⟨bq27x5_4, oq27x5_5, csq27x5_6, h, Us, Ut⟩ := h.FH 20 68 rfl fU rfl (aR Nk).1 (aR Nk).2
 obtain rfl := Us
 refine zJ 5 u7 rfl (by kernel_rfl) (fun w hk => Ut _ _ _ _ _ _ _ _ _ rfl rfl) (Qq u7 ?_)
 obtain ⟨Rq, O1⟩ : ∃ x, x = w := ⟨_, rfl⟩
 have hgq27x6_2 : Grow Rq w := O1 ▸ aQ.refl _ _
 refine ni 6 (aQ.refl BE _) rfl aA (by kernel_rfl) (by kernel_rfl) (by kernel_rfl) (fun w hk => have h := h.grow hk; eQ (k := 0) h 68 rfl Ag rfl rfl) ?_
 obtain ⟨Uu, hs⟩ := bE hs
 refine ni 7 (aQ.refl BE _) rfl aA (by kernel_rfl) (by kernel_rfl) (by kernel_rfl) (fun w hk => oJ rfl rfl Uu) ?_
 obtain ⟨Uv, hs⟩ := bE hs
 refine ni 8 (aQ.refl BE _) rfl aA (by kernel_rfl) (by kernel_rfl) (by kernel_rfl) (fun w hk => oJ rfl rfl Uv) (ni 9 (aQ.refl BE _) rfl aA (by kernel_rfl) (by kernel_rfl) (by kernel_rfl) (fun w hk => ae (v := (aN (x4 ++ ([32] ++ sF)))) rfl) (Da (by kernel_rfl) (aj (dm (σ := Str) (inl ([3] ++ rg 21 9)) (fun x30 => [(3, (aN x30))]) (fun x30 w => SH w0 M BE w (hset [(1, .sr fT va a), (3, .rd mi SA x7.e), (4, .rd mi u20 x7.f), (5, .rd fT u22 x7.a), (6, .rd fT u24 x7.b), (7, .blk ZB [(I6 x7.kind), (I6 x7.n), SA, u20, u22, u24])]) ∧ oM F0 x7 a Ht x30 = some r) ?_ ?_))))
 rintro x30 w dC ⟨h, hs⟩
 refine aJ (EK mixed h fun w h => ni 0 (aQ.refl BE _) rfl aA (by kernel_rfl) (by kernel_rfl) (by kernel_rfl) (fun w hk => ag (v := (aN x30)) rfl) (ni 1 (aQ.refl BE _) rfl aA (by kernel_rfl) (by kernel_rfl) (by kernel_rfl) (fun w hk => ah Ac rfl) (ni 2 (aQ.refl BE _) rfl aA (by kernel_rfl) (by kernel_rfl) (by kernel_rfl) (fun w hk => have h := h.grow hk; aB h 7 rfl yL rfl rfl) (ni 4 (aQ.refl BE _) rfl aA (by kernel_rfl) (by kernel_rfl) (by kernel_rfl) (fun w hk => ah Cv rfl) (ni 5 (aQ.refl BE _) rfl aA (by kernel_rfl) (by kernel_rfl) (by kernel_rfl) (fun w hk => have h := h.grow hk; aB h 7 rfl yL rfl rfl) ?_)))))
 obtain ⟨O3, Nl⟩ : ∃ x, x = w := ⟨_, rfl⟩
 have pY : Grow O3 w := Nl ▸ aQ.refl BE w
 refine Kb Nl.symm (Bi 3 (by kernel_rfl) rfl aA ?_)
 obtain ⟨su, Uw, hs⟩ := aM hs
 refine aO QD rfl rfl (vL _ _ h.lt (hT.go h.keep) SA x7.e (h.lF 3 rfl) _ Uw) ?_
 rintro _ w ⟨Nn, rfl⟩
 refine ⟨_, rfl, ?_⟩
 replace h := h.grow Nn
 replace pY := pY.trans Nn
 refine aC (yf pY (Bi 6 (by kernel_rfl) rfl aA ?_))
 obtain ⟨sD, Ux, hs⟩ := aM hs
 refine aO QD rfl rfl (vL _ _ h.lt (hT.go h.keep) u20 x7.f (h.lF 4 rfl) _ Ux) ?_
 rintro _ w ⟨Np, rfl⟩
 refine ⟨_, rfl, ?_⟩
 replace h := h.grow Np
 replace pY := pY.trans Np
 refine aC (yf pY ?_)
 obtain ⟨Uy, hs⟩ := bE hs
 refine zJ 7 pY rfl (by kernel_rfl) (fun w hk => oJ rfl rfl Uy) ?_
 obtain ⟨Uz, hs⟩ := bE hs
 refine zJ 8 pY rfl (by kernel_rfl) (fun w hk => oJ rfl rfl Uz) (zJ 9 pY rfl (by kernel_rfl) (fun w hk => ae (v := (aN (x30 ++ (su ++ sD)))) rfl) (Da (by kernel_rfl) (aj (dm (σ := Str) (inl ([3] ++ rg 39 14)) (fun x34 => [(3, (aN x34))]) (fun x34 w => SH w0 M BE w (hset [(1, .sr fT va a), (3, .rd mi SA x7.e), (4, .rd mi u20 x7.f), (5, .rd fT u22 x7.a), (6, .rd fT u24 x7.b), (7, .blk ZB [(I6 x7.kind), (I6 x7.n), SA, u20, u22, u24])]) ∧ oL F0 x7 Ht x34 = some r) ?_ ?_))))
 rintro x34 w dC ⟨h, hs⟩
 refine nG (aa (ah lI rfl) (aa (aB h 7 rfl aP rfl rfl) (aa (bW rfl rfl) (nN (aK hs rfl (fun Xl hs => ?_) (fun Xl hs => ?_))))))
 refine ay (aa (ag (v := (aN x34)) rfl) (aa (ah Ae rfl) (aa (aB h 7 rfl rH rfl rfl) ?_)))
 obtain ⟨kJ, e37, hs⟩ := aM hs
 refine aO LH rfl rfl (ih _ _ h.lt (hT.go h.keep) u24 x7.b (h.lF 6 rfl) _ e37) ?_
 rintro _ w ⟨ME, rfl⟩
 refine ⟨_, rfl, ?_⟩
 replace h := h.grow ME
 obtain ⟨a39, hs⟩ := bE hs
 refine aa (oJ rfl rfl a39) ?_
 obtain ⟨a40, hs⟩ := bE hs
 refine aa (oJ rfl rfl a40) (aa (ae (v := (aN (x34 ++ ([32] ++ kJ)))) rfl) (aC (au (ak ?_))))
 exact cO (x34 ++ ([32] ++ kJ)) ⟨h.cn _, hs⟩
 refine aG (au (ak ?_))
 exact cO x34 ⟨h.cn _, hs⟩
 refine nG (aa (ah lI rfl) (aa (aB h 7 rfl aP rfl rfl) (aa (bW rfl rfl) (aa (ag (v := (.bool (decide ((x7.kind : Int) = 6)))) rfl) (az rfl rfl (fun q => ah lI rfl) (az rfl rfl (fun q => aB h 7 rfl aP (dE q) rfl) (az rfl rfl (fun q => bW (dE q) rfl) (aa (iO rfl rfl lW) (nN (aK hs rfl (fun Uf hs => ?_) (fun Uf hs => ?_)))))))))))
 refine ay (aa (ag (v := (aN (x30 ++ (su ++ sD)))) rfl) (aa (ah Ad rfl) (aa (aB h 7 rfl rH rfl rfl) ?_)))
 obtain ⟨uE, e43, hs⟩ := aM hs
 refine aO LH rfl rfl (ih _ _ h.lt (hT.go h.keep) u22 x7.a (h.lF 5 rfl) _ e43) ?_
 rintro _ w ⟨k44, rfl⟩
 refine ⟨_, rfl, ?_⟩
 replace h := h.grow k44
 obtain ⟨a45, hs⟩ := bE hs
 refine aa (oJ rfl rfl a45) ?_
 obtain ⟨a46, hs⟩ := bE hs
 refine aa (oJ rfl rfl a46) (aa (ae (v := (aN ((x30 ++ (su ++ sD)) ++ ([32] ++ uE)))) rfl) (aC (ak ?_)))
 exact cO ((x30 ++ (su ++ sD)) ++ ([32] ++ uE)) ⟨h.cn _, hs⟩
 refine aG (ak ?_)
 exact cO (x30 ++ (su ++ sD)) ⟨h.cn _, hs⟩
 refine nG (aa (ah lI rfl) (aa (aB h 7 rfl aP rfl rfl) (aa (Gt rfl rfl) (nN (aK hs rfl (fun c47 hs => ?_) (fun c47 hs => ?_))))))
 refine ay (aa (ag (v := (aN (x4 ++ ([32] ++ sF)))) rfl) (aa (ah xk rfl) (aa (aB h 7 rfl aP rfl rfl) ?_)))
 obtain ⟨sU, e49, hs⟩ := aM hs
 refine aO Hr rfl rfl (vK _ _ h.lt (hT.go h.keep) x7.n _ e49) ?_
 rintro _ w ⟨QH, rfl⟩
 refine ⟨_, rfl, ?_⟩
 replace h := h.grow QH
 obtain ⟨a51, hs⟩ := bE hs
 refine aa (oJ rfl rfl a51) ?_
 obtain ⟨a52, hs⟩ := bE hs
 refine aa (oJ rfl rfl a52) (aa (ae (v := (aN ((x4 ++ ([32] ++ sF)) ++ ([32] ++ sU)))) rfl) (aC (ak ?_)))
 exact cO ((x4 ++ ([32] ++ sF)) ++ ([32] ++ sU)) ⟨h.cn _, hs⟩
 refine aG (ak ?_)
 exact cO (x4 ++ ([32] ++ sF)) ⟨h.cn _, hs⟩
 rw [eX (hik ▸ e10), dZ] at hs
 refine nE (aa (ag (v := (aN x4)) rfl) ?_)
 obtain ⟨a53, hs⟩ := bE hs
 refine aa (oJ rfl rfl a53) (aa (ae (v := (aN (x4 ++ [32, 125]))) rfl) (nR (bI (v := (aN (x4 ++ [32, 125]))) Tryz.results130 rfl ?_)))
 obtain rfl := gK hs
 exact ⟨h.grown, rfl⟩
theorem IA (w0 : World) (M : BS) (hM : ∀ b, M b → b < w0.heap.size) (va : Value) (a : List Str) (ha : fK qD w0 BE M va a) (b : Str) (r : Str) (hs : Tu a b = some r) :
    Calls Tryz.prog 131 #[va, aN b] w0 (fun e w' => Grow w0 w' ∧ e = .returned (aN r)) :=
  YY Tryz.strings_Join_none Tryz.strings_Join ha hs
def oP (N : Nat) (eH : gG) (x8 : List Str) (l8 : List Str → Option Str) : Option Str :=
  (Ke eH.params).bind fun rA => iA ([102, 117, 110, 32].length + rA.length ≤ 9223372036854775807) (iA (([102, 117, 110, 32] ++ rA).length + [32].length ≤ 9223372036854775807) ((Ke eH.locals).bind fun ui => iA ((([102, 117, 110, 32] ++ rA) ++ [32]).length + ui.length ≤ 9223372036854775807) (iA (((([102, 117, 110, 32] ++ rA) ++ [32]) ++ ui).length + [32].length ≤ 9223372036854775807) ((kR N eH.body).bind fun uS => iA ((((([102, 117, 110, 32] ++ rA) ++ [32]) ++ ui) ++ [32]).length + uS.length ≤ 9223372036854775807) (iA (Room 16 x8 [((((([102, 117, 110, 32] ++ rA) ++ [32]) ++ ui) ++ [32]) ++ uS)]) (l8 (x8 ++ [((((([102, 117, 110, 32] ++ rA) ++ [32]) ++ ui) ++ [32]) ++ uS)])))))))
def oQ (x8 : List Str) : Option Str :=
  (Tu x8 [32]).bind fun Hu => some Hu
def vM (N : Nat) (a : List gG) : Option Str :=
  each (oP N) oQ a []
theorem zL (N : Nat) (w0 : World) (M : BS) (hM : ∀ b, M b → b < w0.heap.size) (hT : xg Tryz.prog 4 w0) (va : Value) (a : List gG) (ha : fK jM w0 BE M va a) (r : Str) (hs : vM N a = some r) :
    Calls Tryz.prog 113 #[va] w0 (fun e w' => Grow w0 w' ∧ e = .returned (aN r)) := by
 refine aL (args := [va]) Tryz.func113 rfl Tryz.ntmps113 (bH rfl) ?_
 have h := SH.init hM
 replace h := h.eu 1 ha aT
 have tQ := ha.bD
 refine nG (aa (ae (v := (aN [])) rfl) (nJ (aa (ae (v := (.slice none 0 0)) rfl) (nK (aa (ag (v := va) rfl) (aa (aX jw rfl (h.fQ 1 rfl)) (aa (ag (v := (I6 0)) rfl) (nN (aH ?_)))))))))
 replace h := h.uZ (R := qD) (E := 9) 5
 refine eF (σ := Nat × Int × Value × List Str) (inl ([3, 5] ++ rg 8 22)) (fun ⟨k9, i10, v7, x8⟩ => [(3, v7), (8, (I6 i10))]) (fun ⟨k9, i10, v7, x8⟩ w => SH w0 M BE w (hset [(1, .sr jM va a), (5, .own qD 9 v7 x8)]) ∧ i10 = (k9 : Int) ∧ each (oP N) oQ (a.drop k9) x8 = some r) (fun ⟨k9, i10, v7, x8⟩ => a.length - k9) ⟨0, 0, (.slice none 0 0), []⟩ ⟨rfl, rfl, trivial⟩ ?_ ?_
 exact ⟨h.cn _, rfl, hs⟩
 rintro ⟨k9, i10, v7, x8⟩ w dC ⟨h, hik, hs⟩
 refine nG ?_
 refine aa (dK rfl rfl) (nN ?_)
 refine aJ (fD rfl (fun e14 => ?_) (fun e14 => ?_))
 refine aG (aj ?_)
 obtain ⟨eH, IB, IC⟩ := eU (hik ▸ e14)
 rw [IC, df] at hs
 generalize Cw : each (oP N) oQ (a.drop (k9 + 1)) = l8 at hs
 have IE := eZ ((h.fQ 1 rfl)).bD hik e14
 refine aJ (aH (nG ?_))
 obtain ⟨b17, o18, UA, h, Rs, i16⟩ := h.vo 1 6 rfl jw rfl (gB hik) (eY hik IB)
 obtain ⟨u21, rfl, g22⟩ := uN Rs
 replace h := h.bK 7 g22.up
 refine aa (i16 _ _ _ _ _ _ _ _ _ rfl rfl) (aa (iD (k := 0) (vs := [(I6 eH.params), (I6 eH.locals), u21]) h 6 rfl oC rfl rfl rfl (bH rfl)) (bu h 8 oC fun w Dl h => dN (vs := [(I6 eH.params), (I6 eH.locals), u21]) h 8 [(I6 eH.params), (I6 eH.locals), u21] rfl oC rfl rfl rfl rfl rfl (ai rfl (ai rfl (ai (h.gy 7 rfl).one aS))) fun w h => nN (uf (L := (ob v7)) mixed h fun w h => dW 0 (aQ.refl _ _) rfl aA (by kernel_rfl) (by kernel_rfl) (by kernel_rfl) (fun w hk => ag (v := v7) rfl) (dW 1 (aQ.refl _ _) rfl aA (by kernel_rfl) (by kernel_rfl) (by kernel_rfl) (fun w hk => ah xh rfl) (dW 2 (aQ.refl _ _) rfl aA (by kernel_rfl) (by kernel_rfl) (by kernel_rfl) (fun w hk => have h := h.vB 5 rfl hk; aB h 8 rfl aP rfl rfl) (dW 6 (aQ.refl _ _) rfl aA (by kernel_rfl) (by kernel_rfl) (by kernel_rfl) (fun w hk => ah Ab rfl) (dW 7 (aQ.refl _ _) rfl aA (by kernel_rfl) (by kernel_rfl) (by kernel_rfl) (fun w hk => have h := h.vB 5 rfl hk; aB h 8 rfl aP rfl rfl) (dW 11 (aQ.refl _ _) rfl aA (by kernel_rfl) (by kernel_rfl) (by kernel_rfl) (fun w hk => ah Cu rfl) (dW 12 (aQ.refl _ _) rfl aA (by kernel_rfl) (by kernel_rfl) (by kernel_rfl) (fun w hk => have h := h.vB 5 rfl hk; aB h 8 rfl rH rfl rfl) ?_)))))))))
 obtain ⟨Uo, Ni⟩ : ∃ x, x = w := ⟨_, rfl⟩
 have u7 : aQ (ob v7) Uo w := Ni ▸ aQ.refl (ob v7) w
 refine zG Ni.symm (dB 3 (by kernel_rfl) rfl aA ?_)
 obtain ⟨rA, UB, hs⟩ := aM hs
 refine aO Hr rfl rfl (vK _ _ h.lt (hT.go h.keep) eH.params _ UB) ?_
 rintro _ w ⟨Nq, rfl⟩
 refine ⟨_, rfl, ?_⟩
 replace h := h.grow Nq
 replace u7 := u7.grow Nq
 refine aC (aV u7 ?_)
 obtain ⟨Iz, hs⟩ := bE hs
 refine iQ 4 u7 rfl (by kernel_rfl) (fun w hk => oJ rfl rfl Iz) ?_
 obtain ⟨UC, hs⟩ := bE hs
 refine iQ 5 u7 rfl (by kernel_rfl) (fun w hk => oJ rfl rfl UC) (dB 8 (by kernel_rfl) rfl aA ?_)
 obtain ⟨ui, UD, hs⟩ := aM hs
 refine aO Hr rfl rfl (vK _ _ h.lt (hT.go h.keep) eH.locals _ UD) ?_
 rintro _ w ⟨Nr, rfl⟩
 refine ⟨_, rfl, ?_⟩
 replace h := h.grow Nr
 replace u7 := u7.grow Nr
 refine aC (aV u7 ?_)
 obtain ⟨UE, hs⟩ := bE hs
 refine iQ 9 u7 rfl (by kernel_rfl) (fun w hk => oJ rfl rfl UE) ?_
 obtain ⟨Rt, hs⟩ := bE hs
 refine iQ 10 u7 rfl (by kernel_rfl) (fun w hk => oJ rfl rfl Rt) (dB 13 (by kernel_rfl) rfl aA ?_)
 obtain ⟨uS, Ru, hs⟩ := aM hs
 refine aO LH rfl rfl (Aj N _ _ h.lt (hT.go h.keep) u21 eH.body (h.lF 7 rfl) _ Ru) ?_
 rintro _ w ⟨Ko, rfl⟩
 refine ⟨_, rfl, ?_⟩
 replace h := h.grow Ko
 replace u7 := u7.grow Ko
 refine aC (aV u7 ?_)
 obtain ⟨Rv, hs⟩ := bE hs
 refine iQ 14 u7 rfl (by kernel_rfl) (fun w hk => oJ rfl rfl Rv) (dB 15 (by kernel_rfl) rfl aA (zZ (R := qD) (vs := [(aN ((((([102, 117, 110, 32] ++ rA) ++ [32]) ++ ui) ++ [32]) ++ uS))]) (xs := [((((([102, 117, 110, 32] ++ rA) ++ [32]) ++ ui) ++ [32]) ++ uS)]) h 189 Kn rfl rfl rfl ⟨rfl, trivial⟩ rfl fun w Rw h O4 O5 => ?_))
 have ZI : ∀ b, ob Rw b → Uo.heap.size ≤ b := fun b hb => Nat.le_trans u7.size (O5 b hb)
 replace u7 := u7.grow O4
 refine aC (aV u7 (dB 16 (by kernel_rfl) rfl aA ?_))
 obtain ⟨Kq, hs⟩ := bE hs
 have ZJ := u7.size
 refine qH (R := qD) (m := [((((([102, 117, 110, 32] ++ rA) ++ [32]) ++ ui) ++ [32]) ++ uS)]) h 5 rfl (h.dJ 189 rfl) Kn rfl rfl rfl Kq.1 Kq.2 fun w FW h O6 O7 => ?_
 have ZK : ∀ b, ob FW b → b < Uo.heap.size → ob v7 b := fun b hb hl => O7 b hb (Nat.lt_of_lt_of_le hl (u7).size)
 replace u7 := u7.same O6
 refine aC (aV u7 (iQ 17 u7 rfl (by kernel_rfl) (fun w hk => ae (v := FW) rfl) (j3 (by kernel_rfl) (au (aj (ay (aa (dz rfl rfl IE) (aa (ag (v := (I6 ((i10 + 1)))) rfl) (aC (ak ?_))))))))))
 subst Cw
 exact iw ⟨k9 + 1, i10 + 1, FW, (x8 ++ [((((([102, 117, 110, 32] ++ rA) ++ [32]) ++ ui) ++ [32]) ++ uS)])⟩ ⟨h.cn _, by omega, hs⟩ (by have := kQ e14; dsimp only; omega)
 rw [eX (hik ▸ e14), dZ] at hs
 refine nE (aa (ag (v := v7) rfl) ?_)
 obtain ⟨Hu, e31, hs⟩ := aM hs
 refine aO W9 rfl rfl (IA _ _ h.lt v7 x8 (h.dJ 5 rfl) [32] _ e31) ?_
 rintro _ w ⟨k32, rfl⟩
 refine ⟨_, rfl, ?_⟩
 replace h := h.grow k32
 refine aa (ae (v := (aN Hu)) rfl) (nR (bI (v := (aN Hu)) Tryz.results113 rfl ?_))
 obtain rfl := gK hs
 exact ⟨h.grown, rfl⟩
def stringslite_HasPrefix (a : Str) (b : Str) : Option Bool :=
  bif decide (((b.length : Int) : Int) ≤ (a.length : Int)) then (subs? a 0 (b.length : Int)).bind fun x2 => some (decide ((x2 : Str) = b)) else some false
theorem Ak (w0 : World) (M : BS) (hM : ∀ b, M b → b < w0.heap.size) (a : Str) (b : Str) (r : Bool) (hs : stringslite_HasPrefix a b = some r) :
    Calls Tryz.prog 141 #[(aN a), (aN b)] w0 (fun e w' => Grow w0 w' ∧ e = .returned (.bool r)) := by
 refine aL (args := [(aN a), (aN b)]) Tryz.func141 rfl Tryz.ntmps141 (bH rfl) ?_
 have h := SH.init hM
 refine nG (aa (ae (v := (.bool (false))) rfl) (nJ (aa (ag (v := (aN a)) rfl) (aa (Lc Tryz.underlying9 rfl) (aa (ag (v := (aN b)) rfl) (aa (Lc Tryz.underlying9 rfl) (aa (qE rfl rfl) (aa (ag (v := (.bool (decide (((b.length : Int) : Int) ≤ (a.length : Int))))) rfl) (jT (b := decide (((b.length : Int) : Int) ≤ (a.length : Int))) hs (fun c1 hs => ?_) (fun c1 hs => ?_))))))))))
 refine dx rfl (cB c1) (aa (ag (v := (aN a)) rfl) (dx rfl (cB c1) (aa (ag (v := (aN b)) rfl) (dx rfl (cB c1) (aa (Lc Tryz.underlying9 rfl) (dx rfl (cB c1) ?_))))))
 obtain ⟨x2, e3, hs⟩ := aM hs
 obtain ⟨e4a, e4b, e4c, e4⟩ := OM e3
 refine aa (OL e4 Tryz.underlying9 rfl (.inl ⟨rfl, rfl⟩) (.inr (congrArg some rfl)) e4a e4b e4c) (dx rfl (cB c1) (aa (ag (v := (aN b)) rfl) (dx rfl (cB c1) (aa (FP rfl rfl) (aa (eO (b := true) (v := (.bool (decide ((x2 : Str) = b)))) (cB c1) rfl) (aa (ae (v := (.bool (decide ((x2 : Str) = b)))) rfl) (nR (bI (v := (.bool (decide ((x2 : Str) = b)))) Tryz.results141 rfl ?_))))))))
 obtain rfl := gK hs
 exact ⟨h.grown, rfl⟩
 refine qc rfl (cB c1) rfl (qc rfl (cB c1) rfl (qc rfl (cB c1) rfl (qc rfl (cB c1) rfl (qc rfl (cB c1) rfl (qc rfl (cB c1) rfl (aa (eO (b := false) (v := (.bool (false))) (cB c1) rfl) (aa (ae (v := (.bool (false))) rfl) (nR (bI (v := (.bool (false))) Tryz.results141 rfl ?_)))))))))
 obtain rfl := gK hs
 exact ⟨h.grown, rfl⟩
def stringslite_TrimPrefix (a : Str) (b : Str) : Option Str :=
  (stringslite_HasPrefix a b).bind fun y1 => bif y1 then (subs? a (b.length : Int) (a.length : Int)).bind fun x5 => some x5 else some a
theorem zM (w0 : World) (M : BS) (hM : ∀ b, M b → b < w0.heap.size) (a : Str) (b : Str) (r : Str) (hs : stringslite_TrimPrefix a b = some r) :
    Calls Tryz.prog 124 #[(aN a), (aN b)] w0 (fun e w' => Grow w0 w' ∧ e = .returned (aN r)) := by
 refine aL (args := [(aN a), (aN b)]) Tryz.func124 rfl Tryz.ntmps124 (bH rfl) ?_
 have h := SH.init hM
 refine nG (aa (ae (v := (aN [])) rfl) (nK (aa (ag (v := (aN a)) rfl) (aa (ag (v := (aN b)) rfl) ?_))))
 obtain ⟨y1, e2, hs⟩ := aM hs
 refine aO Xa rfl rfl (Ak _ _ h.lt a b _ e2) ?_
 rintro _ w ⟨k3, rfl⟩
 refine ⟨_, rfl, ?_⟩
 replace h := h.grow k3
 refine nN (aK hs rfl (fun c4 hs => ?_) (fun c4 hs => ?_))
 refine nG (aa (ag (v := (aN a)) rfl) (aa (ag (v := (aN b)) rfl) (aa (Lc Tryz.underlying9 rfl) ?_)))
 obtain ⟨x5, e6, hs⟩ := aM hs
 obtain ⟨e7a, e7b, e7c, e7⟩ := OM e6
 refine aa (OL e7 Tryz.underlying9 rfl (.inr (congrArg some rfl)) (.inl ⟨rfl, rfl⟩) e7a e7b e7c) (aa (ae (v := (aN x5)) rfl) (nR (ax (bI (v := (aN x5)) Tryz.results124 rfl ?_))))
 obtain rfl := gK hs
 exact ⟨h.grown, rfl⟩
 refine nS (aa (ag (v := (aN a)) rfl) (aa (ae (v := (aN a)) rfl) (nR (bI (v := (aN a)) Tryz.results124 rfl ?_))))
 obtain rfl := gK hs
 exact ⟨h.grown, rfl⟩
def strings_TrimPrefix (a : Str) (b : Str) : Option Str :=
  (stringslite_TrimPrefix a b).bind fun y1 => some y1
theorem Cx (w0 : World) (M : BS) (hM : ∀ b, M b → b < w0.heap.size) (a : Str) (b : Str) (r : Str) (hs : strings_TrimPrefix a b = some r) :
    Calls Tryz.prog 105 #[(aN a), (aN b)] w0 (fun e w' => Grow w0 w' ∧ e = .returned (aN r)) := by
 refine aL (args := [(aN a), (aN b)]) Tryz.func105 rfl Tryz.ntmps105 (bH rfl) ?_
 have h := SH.init hM
 refine nG (aa (ae (v := (aN [])) rfl) (nJ (aa (ag (v := (aN a)) rfl) (aa (ag (v := (aN b)) rfl) ?_))))
 obtain ⟨y1, e2, hs⟩ := aM hs
 refine aO WZ rfl rfl (zM _ _ h.lt a b _ e2) ?_
 rintro _ w ⟨k3, rfl⟩
 refine ⟨_, rfl, ?_⟩
 replace h := h.grow k3
 refine aa (ae (v := (aN y1)) rfl) (nR (bI (v := (aN y1)) Tryz.results105 rfl ?_))
 obtain rfl := gK hs
 exact ⟨h.grown, rfl⟩
def qU (a : List Str) (b : Str) (i2 : Int) (s : Unit) (GD : Unit → Option Int) : Option Int :=
  (idx a i2).bind fun x8 => bif decide ((b : Str) = x8) then some i2 else GD ()
def qV (s : Unit) : Option Int :=
  some (-1)
def slices_Index_string (a : List Str) (b : Str) : Option Int :=
  upto (qU a b) qV 0 ((a.length : Int)).toNat ()
theorem BX (w0 : World) (M : BS) (hM : ∀ b, M b → b < w0.heap.size) (va : Value) (a : List Str) (ha : fK qD w0 BE M va a) (b : Str) (r : Int) (hs : slices_Index_string a b = some r) :
    Calls Tryz.prog 110 #[va, (aN b)] w0 (fun e w' => Grow w0 w' ∧ e = .returned (.int .i64 r)) := by
 refine aL (args := [va, (aN b)]) Tryz.func110 rfl Tryz.ntmps110 (bH rfl) ?_
 have h := SH.init hM
 replace h := h.eu 1 ha aT
 have tQ := ha.bD
 refine nG (aa (ae (v := (I6 0)) rfl) (nK (aa (ag (v := va) rfl) (aa (aX fU rfl (h.fQ 1 rfl)) (aa (ag (v := (I6 0)) rfl) (nN (aH ?_)))))))
 have ZL := (h.fQ 1 rfl).bD
 refine eF (σ := Nat × Int) (inl ([4, 5] ++ rg 8 11)) (fun ⟨k1, i2⟩ => [(8, (I6 i2))]) (fun ⟨k1, i2⟩ w => SH w0 M BE w (hset [(1, .sr qD va a)]) ∧ i2 = (k1 : Int) ∧ upto (qU a b) qV i2 (((a.length : Int)).toNat - k1) () = some r) (fun ⟨k1, i2⟩ => ((a.length : Int)).toNat - k1) ⟨0, 0⟩ ⟨rfl, trivial⟩ ?_ ?_
 exact ⟨h.cn _, rfl, hs⟩
 rintro ⟨k1, i2⟩ w dC ⟨h, hik, hs⟩
 refine nG ?_
 refine aa (dK rfl rfl) (nN ?_)
 refine aJ (fD rfl (fun e6 => ?_) (fun e6 => ?_))
 refine aG (aj ?_)
 rw [lv (by have := kQ e6; omega)] at hs
 generalize Uh : upto (qU a b) qV (i2 + 1) (((a.length : Int)).toNat - (k1 + 1)) = GD at hs
 have e7r : jN (i2 + 1) := (by have := kQ e6; have := ZL; exact jN.mk (by omega) (by omega))
 refine aJ (aH (nG (aa (ag (v := (I6 i2)) rfl) (aa (ae (v := (I6 i2)) rfl) (nJ (aa (ag (v := (aN b)) rfl) (aa (ag (v := va) rfl) (aa (ag (v := (I6 i2)) rfl) ?_))))))))
 obtain ⟨x8, e9, hs⟩ := aM hs
 obtain ⟨b11, o12, ZF, h, ZG, i10⟩ := h.vo 1 2 rfl fU rfl (aR e9).1 (aR e9).2
 obtain rfl := ZG
 refine aa (i10 _ _ _ _ _ _ _ _ _ rfl rfl) (aa (eQ (k := 0) h 2 rfl Ag rfl rfl) (aa (FP rfl rfl) (nN (aK hs rfl (fun c15 hs => ?_) (fun c15 hs => ?_)))))
 refine nG (aa (ag (v := (I6 i2)) rfl) (aa (ae (v := (I6 i2)) rfl) (nR (aD (ax (ax (aD (ax (bI (v := (I6 i2)) Tryz.results110 rfl ?_)))))))))
 obtain rfl := gK hs
 exact ⟨h.grown, rfl⟩
 refine aG (au (aj (ay (aa (dz rfl rfl e7r) (aa (ag (v := (I6 ((i2 + 1)))) rfl) (aC (ak ?_)))))))
 subst Uh
 exact iw ⟨k1 + 1, i2 + 1⟩ ⟨h.cn _, by omega, hs⟩ (by have := kQ e6; dsimp only; omega)
 rw [lC (by have := of_decide_eq_false e6; omega)] at hs
 refine nE (aa (ae (v := (I6 (-1))) rfl) (nR (bI (v := (I6 (-1))) Tryz.results110 rfl ?_)))
 obtain rfl := gK hs
 exact ⟨h.grown, rfl⟩
def Bt (wV : Int) (Rx : (Int × Int × Int) → Option (List Tok × dL)) (xx : Int) (MF : Int) : Option (List Tok × dL) :=
  iA (jN (wV + 1)) (Rx ((wV + 1), xx, MF))
def Bu (x29 : Str) (qW : List Tok) (F : List gG) (y31 : Int) (yF : Int) (wM : (List Tok × Int × Bool × Int) → Option (List Tok × dL)) (Hu : Bool) (s : Int × Int × Int) (Rx : Int × Int × Int → Option (List Tok × dL)) : Option (List Tok × dL) :=
  match s with | (wV, Hw, Cy) => bif decide ((wV : Int) ≤ 5) then (kI (⟨3, wV⟩ : Tok)).bind fun y72 => bif decide ((y72 : Str) = x29) then Bt wV Rx 3 wV else Bt wV Rx Hw Cy else iA (Room 16 qW [(⟨Hw, Cy⟩ : Tok)]) (bif (decide (((fO (⟨Hw, Cy⟩ : Tok) F 6) : Int) ≠ 0) || decide ((24 : Int) < ((qW ++ [(⟨Hw, Cy⟩ : Tok)]).length : Int))) then some ((qW ++ [(⟨Hw, Cy⟩ : Tok)]), (⟨y31, false⟩ : dL)) else (tu (⟨Hw, Cy⟩ : Tok) F).bind fun Yd => iA (jN (yF + Yd)) (iA (jN ((yF + Yd) - 1)) (wM ((qW ++ [(⟨Hw, Cy⟩ : Tok)]), ((yF + Yd) - 1), Hu, y31))))
def vN (xN : (Int × Str)) (E8 : Int × Bool) (EE : Int) (uE : Int) (x94 : Bool) : Option (Int × Int) :=
  bif x94 then some (xN.1, E8.1) else some (EE, uE)
def qX (x29 : Str) (xN : (Int × Str)) (s : Int × Int) : Option (Int × Int) :=
  match s with | (EE, uE) => (strings_TrimPrefix x29 xN.2).bind fun LV => (Cn LV).bind fun E8 => bif (!E8.2) then (kI (⟨xN.1, E8.1⟩ : Tok)).bind fun tX => vN xN E8 EE uE (decide ((tX : Str) = x29)) else vN xN E8 EE uE false
def E9 (N : Nat) (x29 : Str) (qW : List Tok) (F : List gG) (y31 : Int) (yF : Int) (wM : (List Tok × Int × Bool × Int) → Option (List Tok × dL)) (Hu : Bool) (s : Int × Int) : Option (List Tok × dL) :=
  match s with | (EE, uE) => again (Bu x29 qW F y31 yF wM Hu) N (1, EE, uE)
def vO (N : Nat) (qW : List Tok) (F : List gG) (yF : Int) (wM : (List Tok × Int × Bool × Int) → Option (List Tok × dL)) (x29 : Str) (Hu : Bool) (y31 : Int) : Option (List Tok × dL) :=
  (zo (qX x29) ([(2, [118]), (4, [46]), (5, [110, 101, 119]), (6, [102]), (1, [])] : List (Int × Str)) (0, 0)).bind fun Ns => (E9 N x29 qW F y31 yF wM Hu) Ns
def vP (N : Nat) (W : List Str) (F : List gG) (s : List Tok × Int × Bool × Int) (wM : List Tok × Int × Bool × Int → Option (List Tok × dL)) : Option (List Tok × dL) :=
  match s with | (qW, yF, O8, y20) => bif (decide ((0 : Int) < yF) && O8) then bif decide (((W.length : Int) : Int) ≤ y20) then vO N qW F yF wM [] false y20 else iA (jN (y20 + 1)) (iA (jN ((y20 + 1) - 1)) ((idx W ((y20 + 1) - 1)).bind fun x103 => vO N qW F yF wM x103 O8 (y20 + 1))) else some (qW, (⟨y20, O8⟩ : dL))
def Fa (N : Nat) (sx : dL) (W : List Str) (F : List gG) : Option (List Tok × dL) :=
  again (vP N W F) N ([], 1, sx.ok, sx.at_)
theorem Kr (N : Nat) (w0 : World) (M : BS) (hM : ∀ b, M b → b < w0.heap.size) (hT : xg Tryz.prog 4 w0) (ba bo bw bwd bf : Nat) (sx : dL) (hC : Chunk.holds w0 M (Chunk.own' (.two (.blk ba [(I6 sx.at_)]) (.blk bo [(.bool (sx.ok))]) : Chunk)) (.two (.blk ba [(I6 sx.at_)]) (.blk bo [(.bool (sx.ok))]) : Chunk)) (hap : ∀ b, Chunk.own' (.two (.blk ba [(I6 sx.at_)]) (.blk bo [(.bool (sx.ok))]) : Chunk) b → ¬ M b) (vW : Value) (W : List Str) (hvW : gF qD w0 (fun b => M b ∨ Chunk.own' (.two (.blk ba [(I6 sx.at_)]) (.blk bo [(.bool (sx.ok))]) : Chunk) b) vW W) (vF : Value) (F : List gG) (hvF : fK jM w0 (Chunk.own' (.two (.blk ba [(I6 sx.at_)]) (.blk bo [(.bool (sx.ok))]) : Chunk)) (fun b => M b ∨ Chunk.own' (.two (.blk ba [(I6 sx.at_)]) (.blk bo [(.bool (sx.ok))]) : Chunk) b) vF F) (hbw : ∃ E, w0.heap[bw]? = some (.cells #[vW] E (0, 0))) (UF : ¬ Chunk.own' (.two (.blk ba [(I6 sx.at_)]) (.blk bo [(.bool (sx.ok))]) : Chunk) bw) (LW : ∃ E, w0.heap[bwd]? = some (.cells #[(.func (.func 103) #[] #[(.pointer (some ⟨ba, 0, none⟩)), (.pointer (some ⟨bw, 0, none⟩)), (.pointer (some ⟨bo, 0, none⟩))])] E (0, 0))) (IG : ¬ Chunk.own' (.two (.blk ba [(I6 sx.at_)]) (.blk bo [(.bool (sx.ok))]) : Chunk) bwd) (hbf : ∃ E, w0.heap[bf]? = some (.cells #[vF] E (0, 0))) (UG : ¬ Chunk.own' (.two (.blk ba [(I6 sx.at_)]) (.blk bo [(.bool (sx.ok))]) : Chunk) bf) (hG : ∀ b, Chunk.own' (.two (.blk ba [(I6 sx.at_)]) (.blk bo [(.bool (sx.ok))]) : Chunk) b → Tryz.prog.globals.size ≤ b) (r : List Tok × dL) (hs : Fa N sx W F = some r) :
    Calls Tryz.prog 104 #[(.pointer (some ⟨bo, 0, none⟩)), (.pointer (some ⟨bwd, 0, none⟩)), (.pointer (some ⟨bf, 0, none⟩))] w0 (fun e w' => aQ (Chunk.own' (.two (.blk ba [(I6 sx.at_)]) (.blk bo [(.bool (sx.ok))]) : Chunk)) w0 w' ∧ ∃ u0, e = .returned (u0) ∧ Chunk.holds w' M (Chunk.own' (.two (.blk ba [.int .i64 r.2.at_]) (.blk bo [.bool r.2.ok]) : Chunk)) (.two (.blk ba [.int .i64 r.2.at_]) (.blk bo [.bool r.2.ok]) : Chunk) ∧ (∀ b, Chunk.own' (.two (.blk ba [.int .i64 r.2.at_]) (.blk bo [.bool r.2.ok]) : Chunk) b → b < w0.heap.size → Chunk.own' (.two (.blk ba [(I6 sx.at_)]) (.blk bo [(.bool (sx.ok))]) : Chunk) b) ∧ gF mi w' (fun b => M b ∨ Chunk.own' (.two (.blk ba [.int .i64 r.2.at_]) (.blk bo [.bool r.2.ok]) : Chunk) b) u0 r.1) := by
 refine aL (args := [(.pointer (some ⟨bo, 0, none⟩)), (.pointer (some ⟨bwd, 0, none⟩)), (.pointer (some ⟨bf, 0, none⟩))]) Tryz.func104 rfl Tryz.ntmps104 (bH rfl) ?_
 have h := SH.EO hM hC hap
 replace h := h.Cq 3 hvW zh
 replace h := h.TC 4 hvF (sW zh)
 replace h := h.xL 5 (cs := [vW]) hbw UF (zq (sW zh))
 replace h := h.xL 6 (cs := [(.func (.func 103) #[] #[(.pointer (some ⟨ba, 0, none⟩)), (.pointer (some ⟨bw, 0, none⟩)), (.pointer (some ⟨bo, 0, none⟩))])]) LW IG (rU (zq (sW zh)))
 replace h := h.xL 7 (cs := [vF]) hbf UG (rU (rU (zq (sW zh))))
 have O9 := UF
 have II := IG
 have Pb := UG
 generalize Hy : (.two (.blk ba [(I6 sx.at_)]) (.blk bo [(.bool (sx.ok))]) : Chunk).own' = K0 at h O9 II Pb hG
 replace h := h.gJ 1 2 (by decide) rfl rfl
 refine nG (aa (ae (v := (.slice none 0 0)) rfl) (nJ (aa (ae (v := (.slice none 0 0)) rfl) (nK (aa (ae (v := (I6 1)) rfl) (nN (aH ?_)))))))
 replace h := h.uZ (R := mi) (E := 160) 11
 refine eF (σ := Nat × Value × List Tok × Int × Bool × Int) (inl (rg 4 76)) (fun ⟨m24, v16, qW, yF, O8, y20⟩ => [(4, v16), (5, (I6 yF))]) (fun ⟨m24, v16, qW, yF, O8, y20⟩ w => SH w0 M K0 w (hset [(1, .blk ba [(I6 y20)]), (2, .blk bo [(.bool (O8))]), (3, .rd qD vW W), (4, .sr jM vF F), (5, .pt bw 0 [vW]), (6, .pt bwd 0 [(.func (.func 103) #[] #[(.pointer (some ⟨ba, 0, none⟩)), (.pointer (some ⟨bw, 0, none⟩)), (.pointer (some ⟨bo, 0, none⟩))])]), (7, .pt bf 0 [vF]), (11, .own mi 160 v16 qW)]) ∧ again (vP N W F) m24 (qW, yF, O8, y20) = some r) (fun ⟨m24, v16, qW, yF, O8, y20⟩ => m24) ⟨N, (.slice none 0 0), [], 1, sx.ok, sx.at_⟩ ⟨rfl, rfl, trivial⟩ ?_ ?_
 exact ⟨h.cn _, hs⟩
 rintro ⟨m24, v16, qW, yF, O8, y20⟩ w dC ⟨h, hs⟩
 obtain ⟨m241, m24e, m24h⟩ := lQ hs
 subst m24e
 replace hs := m24h
 generalize Nf : again (vP N W F) m241 = wM at hs
 refine aJ (nG (aa (ag (v := (I6 yF)) rfl) (aa (jK rfl rfl) (aa (ag (v := (.bool (decide ((0 : Int) < yF)))) rfl) (az rfl rfl (fun q => aB h 2 rfl vE rfl rfl) (aa (fB rfl rfl lW) (nN (aK hs rfl (fun c28 hs => ?_) (fun c28 hs => ?_)))))))))
 refine aG (aj (aJ (aH (dm (σ := Str × Bool × Int) (inl [6, 20, 21]) (fun ⟨x29, Hu, y31⟩ => [(6, (aN x29))]) (fun ⟨x29, Hu, y31⟩ w => SH w0 M K0 w (hset [(1, .blk ba [(I6 y31)]), (2, .blk bo [(.bool (Hu))]), (3, .rd qD vW W), (4, .sr jM vF F), (5, .pt bw 0 [vW]), (6, .pt bwd 0 [(.func (.func 103) #[] #[(.pointer (some ⟨ba, 0, none⟩)), (.pointer (some ⟨bw, 0, none⟩)), (.pointer (some ⟨bo, 0, none⟩))])]), (7, .pt bf 0 [vF]), (11, .own mi 160 v16 qW)]) ∧ vO N qW F yF wM x29 Hu y31 = some r) ?_ ?_))))
 rintro ⟨x29, Hu, y31⟩ w dC ⟨h, hs⟩
 refine nG (aa (fE (pv := []) (out := [(I6 0), (I6 0)]) Ah rfl rfl) (bu h 12 lS fun w b32 h => dN (vs := [(I6 0), (I6 0)]) h 12 [(I6 0), (I6 0)] rfl lS rfl rfl rfl rfl rfl (ai rfl (ai rfl aS)) fun w h => nK (z8 h 13 fun w ZM h => iE (kP := [(2, (aN [118]))]) h 13 rfl gM rfl rfl rfl rfl fun w h => iE (kP := [(2, (aN [118])), (4, (aN [46]))]) h 13 rfl gM rfl rfl rfl rfl fun w h => iE (kP := [(2, (aN [118])), (4, (aN [46])), (5, (aN [110, 101, 119]))]) h 13 rfl gM rfl rfl rfl rfl fun w h => iE (kP := [(2, (aN [118])), (4, (aN [46])), (5, (aN [110, 101, 119])), (6, (aN [102]))]) h 13 rfl gM rfl rfl rfl rfl fun w h => iE (kP := [(2, (aN [118])), (4, (aN [46])), (5, (aN [110, 101, 119])), (6, (aN [102])), (1, (aN []))]) h 13 rfl gM rfl rfl rfl rfl fun w h => aa (ag (v := (.map (some ZM))) rfl) (WE (f := aN) ([(2, [118]), (4, [46]), (5, [110, 101, 119]), (6, [102]), (1, [])] : List (Int × Str)) h 13 rfl gM rfl rfl fun w MG h => nN (aH ?_)))))
 obtain ⟨Ns, Pf, hs⟩ := aM hs
 replace Pf := Y5 Pf
 refine eF (σ := List (Int × Str) × Int × Int) (inl ([8, 9, 10, 11] ++ rg 26 25)) (fun ⟨lf43, EE, uE⟩ => []) (fun ⟨lf43, EE, uE⟩ w => SH w0 M K0 w (hset [(1, .blk ba [(I6 y31)]), (2, .blk bo [(.bool (Hu))]), (3, .rd qD vW W), (4, .sr jM vF F), (5, .pt bw 0 [vW]), (6, .pt bwd 0 [(.func (.func 103) #[] #[(.pointer (some ⟨ba, 0, none⟩)), (.pointer (some ⟨bw, 0, none⟩)), (.pointer (some ⟨bo, 0, none⟩))])]), (7, .pt bf 0 [vF]), (11, .own mi 160 v16 qW), (12, .blk b32 [(I6 EE), (I6 uE)]), (13, .jv (JW aN ZM MG none lf43))]) ∧ uu (qX x29) lf43 (EE, uE) Ns) (fun ⟨lf43, EE, uE⟩ => lf43.length) ⟨([(2, [118]), (4, [46]), (5, [110, 101, 119]), (6, [102]), (1, [])] : List (Int × Str)), 0, 0⟩ trivial ?_ ?_
 exact ⟨h.cn _, Pf⟩
 rintro ⟨lf43, EE, uE⟩ w dC ⟨h, hf⟩
 refine nG ?_
 refine Y4 h 13 rfl rfl (fun e48 => ?_) (fun xN ZN w e48 h => ?_)
 obtain rfl := uu.nil (e48 ▸ hf)
 refine aa (bJ rfl rfl) (nN ?_)
 refine aJ (YK rfl (iI (bC (bC (dV (aj (aJ (nG (aa (ae (v := (I6 1)) rfl) (nN (aH (eF (σ := Nat × Int × Int × Int) (inl ([12] ++ rg 51 11)) (fun ⟨m64, wV, Hw, Cy⟩ => [(12, (I6 wV))]) (fun ⟨m64, wV, Hw, Cy⟩ w => SH w0 M K0 w (hset [(1, .blk ba [(I6 y31)]), (2, .blk bo [(.bool (Hu))]), (3, .rd qD vW W), (4, .sr jM vF F), (5, .pt bw 0 [vW]), (6, .pt bwd 0 [(.func (.func 103) #[] #[(.pointer (some ⟨ba, 0, none⟩)), (.pointer (some ⟨bw, 0, none⟩)), (.pointer (some ⟨bo, 0, none⟩))])]), (7, .pt bf 0 [vF]), (11, .own mi 160 v16 qW), (12, .blk b32 [(I6 Hw), (I6 Cy)])]) ∧ again (Bu x29 qW F y31 yF wM Hu) m64 (wV, Hw, Cy) = some r) (fun ⟨m64, wV, Hw, Cy⟩ => m64) ⟨N, 1, EE, uE⟩ ⟨rfl, trivial⟩ ?_ ?_))))))))))))
 exact ⟨h.cn _, hs⟩
 rintro ⟨m64, wV, Hw, Cy⟩ w dC ⟨h, hs⟩
 obtain ⟨m641, m64e, m64h⟩ := lQ hs
 subst m64e
 replace hs := m64h
 generalize hnx65 : again (Bu x29 qW F y31 yF wM Hu) m641 = Rx at hs
 refine aJ (nG (aa (ag (v := (I6 wV)) rfl) (aa (Gt rfl rfl) (nN (aK hs rfl (fun c68 hs => ?_) (fun c68 hs => ?_))))))
 refine aG (aj (dm (σ := Int × Int) (inl (rg 55 7)) (fun ⟨xx, MF⟩ => []) (fun ⟨xx, MF⟩ w => SH w0 M K0 w (hset [(1, .blk ba [(I6 y31)]), (2, .blk bo [(.bool (Hu))]), (3, .rd qD vW W), (4, .sr jM vF F), (5, .pt bw 0 [vW]), (6, .pt bwd 0 [(.func (.func 103) #[] #[(.pointer (some ⟨ba, 0, none⟩)), (.pointer (some ⟨bw, 0, none⟩)), (.pointer (some ⟨bo, 0, none⟩))])]), (7, .pt bf 0 [vF]), (11, .own mi 160 v16 qW), (12, .blk b32 [(I6 xx), (I6 MF)])]) ∧ Bt wV Rx xx MF = some r) ?_ ?_))
 rintro ⟨xx, MF⟩ w dC ⟨h, hs⟩
 refine ay (aa (ag (v := (I6 wV)) rfl) ?_)
 obtain ⟨a71, hs⟩ := bE hs
 refine aa (dz rfl rfl a71) (aa (ae (v := (I6 ((wV + 1)))) rfl) (aC (ak ?_)))
 subst hnx65
 exact iw ⟨m641, (wV + 1), xx, MF⟩ ⟨h.cn _, hs⟩
 refine aH (nG (aa (ag (v := (I6 wV)) rfl) (aa (fE (pv := [(0, (I6 3)), (1, (I6 wV))]) (out := [(I6 3), (I6 wV)]) Ah rfl ⟨0, 1, [(I6 3)], rfl, rfl, rfl, bH rfl, ⟨1, 1, [(I6 wV)], rfl, rfl, rfl, bH rfl, rfl⟩⟩) ?_)))
 obtain ⟨y72, e73, hs⟩ := aM hs
 refine aO LC rfl rfl (rM _ _ h.lt (hT.Tt h.keep hG) (⟨3, wV⟩ : Tok) _ e73) ?_
 rintro _ w ⟨k74, rfl⟩
 refine ⟨_, rfl, ?_⟩
 replace h := h.grow k74
 refine aa (ag (v := (aN x29)) rfl) (aa (FP rfl rfl) (nN (aK hs rfl (fun c75 hs => ?_) (fun c75 hs => ?_))))
 refine ay (aa (ag (v := (I6 wV)) rfl) (aa (fE (pv := [(0, (I6 3)), (1, (I6 wV))]) (out := [(I6 3), (I6 wV)]) Ah rfl ⟨0, 1, [(I6 3)], rfl, rfl, rfl, bH rfl, ⟨1, 1, [(I6 wV)], rfl, rfl, rfl, bH rfl, rfl⟩⟩) (dN (vs := [(I6 3), (I6 wV)]) h 12 [(I6 3), (I6 wV)] rfl lS rfl rfl rfl rfl rfl (ai rfl (ai rfl aS)) fun w h => aC (au (ak ?_)))))
 exact cO (3, wV) ⟨h.cn _, hs⟩
 refine aG (au (ak ?_))
 exact cO (Hw, Cy) ⟨h.cn _, hs⟩
 refine iI (bC (bC (dV (aj (aJ (nG (aa (ag (v := v16) rfl) (aa (eB (vs := [(I6 Hw), (I6 Cy)]) h 12 rfl lS rfl rfl rfl) (mX (R := mi) (vs := [(.agg #[(I6 Hw), (I6 Cy)])]) (xs := [(⟨Hw, Cy⟩ : Tok)]) h 14 Km rfl rfl rfl ⟨rfl, trivial⟩ rfl fun w u76 h => ?_)))))))))
 obtain ⟨a77, hs⟩ := bE hs
 refine jb (R := mi) (m := [(⟨Hw, Cy⟩ : Tok)]) h 11 rfl (h.dJ 14 rfl) Km rfl rfl rfl a77.1 a77.2 fun w JO h => aa (ae (v := JO) rfl) (nJ (aa (eB (vs := [(I6 Hw), (I6 Cy)]) h 12 rfl lS rfl rfl rfl) (aa (eQ (k := 0) h 7 rfl Af rfl rfl) (aO Qz rfl rfl (vG _ _ h.lt (⟨Hw, Cy⟩ : Tok) vF F (h.fQ 4 rfl) 6 _ rfl) ?_))))
 rintro _ w ⟨k79, rfl⟩
 refine ⟨_, rfl, ?_⟩
 replace h := h.grow k79
 refine aa (gV rfl rfl) (aa (ag (v := (.bool (decide (((fO (⟨Hw, Cy⟩ : Tok) F 6) : Int) ≠ 0)))) rfl) (az rfl rfl (fun q => ag (v := JO) rfl) (az rfl rfl (fun q => aX lX (dE q) (h.dJ 11 rfl)) (az rfl rfl (fun q => jK (dE q) rfl) (aa (iO rfl rfl lW) (nN (aK hs rfl (fun c80 hs => ?_) (fun c80 hs => ?_))))))))
 refine nG (dS h 2 [(.bool (false))] rfl vE rfl rfl rfl rfl rfl fun w h => nN (iI (bC (H7 (by decide) (bC (bC (dV (aj (nG (aa (ag (v := JO) rfl) (aa (ae (v := JO) rfl) (nR (bI (v := JO) Tryz.results104 rfl ?_)))))))))))))
 replace h := h.freeze 11 rfl
 replace h := h.pair 1 2 (by decide)
 obtain rfl := gK hs
 subst Hy
 obtain ⟨o1, o2, o3⟩ := h.zI 1 (C := (.two (.blk ba [(I6 y31)]) (.blk bo [(.bool (false))]) : Chunk)) rfl ⟨trivial, trivial⟩
 exact ⟨o2, JO, rfl, o1, o3, h.zH 1 11 rfl rfl⟩
 refine aG (aj (ay (aa (ag (v := (I6 yF)) rfl) (aa (eB (vs := [(I6 Hw), (I6 Cy)]) h 12 rfl lS rfl rfl rfl) (aa (eQ (k := 0) h 7 rfl Af rfl rfl) ?_)))))
 obtain ⟨Yd, e82, hs⟩ := aM hs
 refine aO LD rfl rfl (uD _ _ h.lt (⟨Hw, Cy⟩ : Tok) vF F (h.fQ 4 rfl) _ e82) ?_
 rintro _ w ⟨SE, rfl⟩
 refine ⟨_, rfl, ?_⟩
 replace h := h.grow SE
 obtain ⟨a84, hs⟩ := bE hs
 refine aa (dz rfl rfl a84) (aa (ae (v := (I6 ((yF + Yd)))) rfl) (aC (au (aj (ay (aa (ag (v := (I6 ((yF + Yd)))) rfl) ?_))))))
 obtain ⟨a85, hs⟩ := bE hs
 refine aa (tY rfl rfl a85) (aa (ae (v := (I6 (((yF + Yd) - 1)))) rfl) (aC (ak ?_)))
 subst Nf
 exact iw ⟨m241, JO, (qW ++ [(⟨Hw, Cy⟩ : Tok)]), ((yF + Yd) - 1), Hu, y31⟩ ⟨h.cn _, hs⟩
 obtain ⟨sr47, hs1, hf1⟩ := hf.cons e48
 replace hs := hs1
 refine aa (bJ rfl rfl) (nN ?_)
 refine aJ (YJ rfl (aG (aj ?_)))
 refine aH (nG (aa (WG (f := aN) h 13 rfl rfl) (aa (bJ rfl rfl) (aa (bJ rfl rfl) (aa (ae (v := (I6 xN.1)) rfl) (aa (ae (v := (aN xN.2)) rfl) (nJ (aa (ag (v := (aN x29)) rfl) (aa (ag (v := (aN xN.2)) rfl) ?_)))))))))
 obtain ⟨LV, e87, hs⟩ := aM hs
 refine aO WT rfl rfl (Cx _ _ h.lt x29 xN.2 _ e87) ?_
 rintro _ w ⟨k88, rfl⟩
 refine ⟨_, rfl, ?_⟩
 replace h := h.grow k88
 obtain ⟨E8, e90, hs⟩ := aM hs
 refine aO EX rfl rfl (si _ _ h.lt (hT.Tt h.keep hG) LV _ e90) ?_
 rintro _ w ⟨k93, ZO, rfl, g92⟩
 refine ⟨_, rfl, ?_⟩
 replace h := h.grow k93
 refine aa (ag (v := (.tuple #[(I6 E8.1), ZO])) rfl) (aa (bJ rfl rfl) (aa (bJ rfl rfl) (aa (ae (v := (I6 E8.1)) rfl) (aa (ae (v := ZO) rfl) (nN (dm (σ := Bool) (inl (rg 38 10)) (fun x94 => [(47, (.bool (x94)))]) (fun x94 w => SH w0 M K0 w (hset [(1, .blk ba [(I6 y31)]), (2, .blk bo [(.bool (Hu))]), (3, .rd qD vW W), (4, .sr jM vF F), (5, .pt bw 0 [vW]), (6, .pt bwd 0 [(.func (.func 103) #[] #[(.pointer (some ⟨ba, 0, none⟩)), (.pointer (some ⟨bw, 0, none⟩)), (.pointer (some ⟨bo, 0, none⟩))])]), (7, .pt bf 0 [vF]), (11, .own mi 160 v16 qW), (12, .blk b32 [(I6 EE), (I6 uE)]), (13, .jv (JW aN ZM MG (some xN) ZN))]) ∧ vN xN E8 EE uE x94 = some sr47) ?_ ?_))))))
 rintro x94 w dC ⟨h, hs⟩
 refine aK hs rfl (fun c95 hs => ?_) (fun c95 hs => ?_)
 refine ay (aa (ag (v := (I6 xN.1)) rfl) (aa (ag (v := (I6 E8.1)) rfl) (aa (fE (pv := [(0, (I6 xN.1)), (1, (I6 E8.1))]) (out := [(I6 xN.1), (I6 E8.1)]) Ah rfl ⟨0, 1, [(I6 xN.1)], rfl, rfl, rfl, bH rfl, ⟨1, 1, [(I6 E8.1)], rfl, rfl, rfl, bH rfl, rfl⟩⟩) (dN (vs := [(I6 xN.1), (I6 E8.1)]) h 12 [(I6 xN.1), (I6 E8.1)] rfl lS rfl rfl rfl rfl rfl (ai rfl (ai rfl aS)) fun w h => aC (au (ak ?_))))))
 replace h := h.Kj 13 rfl
 obtain rfl := gK hs
 exact iw ⟨ZN, xN.1, E8.1⟩ ⟨h.cn _, hf1⟩ (by have := e48.length_eq; simp only [List.length_cons] at this; dsimp only; omega)
 refine aG (au (ak ?_))
 replace h := h.Kj 13 rfl
 obtain rfl := gK hs
 exact iw ⟨ZN, EE, uE⟩ ⟨h.cn _, hf1⟩ (by have := e48.length_eq; simp only [List.length_cons] at this; dsimp only; omega)
 refine ay (aa (ag (v := ZO) rfl) (aa (Rc Rl rfl g92 rfl) (aa (ag (v := (.bool ((!E8.2)))) rfl) (jT (b := (!E8.2)) hs (fun Pg hs => ?_) (fun Pg hs => ?_)))))
 refine dx rfl (cB Pg) (aa (ag (v := (I6 xN.1)) rfl) (dx rfl (cB Pg) (aa (ag (v := (I6 E8.1)) rfl) (dx rfl (cB Pg) (aa (fE (pv := [(0, (I6 xN.1)), (1, (I6 E8.1))]) (out := [(I6 xN.1), (I6 E8.1)]) Ah rfl ⟨0, 1, [(I6 xN.1)], rfl, rfl, rfl, bH rfl, ⟨1, 1, [(I6 E8.1)], rfl, rfl, rfl, bH rfl, rfl⟩⟩) (dx rfl (cB Pg) ?_))))))
 obtain ⟨tX, e98, hs⟩ := aM hs
 refine aO LC rfl rfl (rM _ _ h.lt (hT.Tt h.keep hG) (⟨xN.1, E8.1⟩ : Tok) _ e98) ?_
 rintro _ w ⟨k99, rfl⟩
 refine ⟨_, rfl, ?_⟩
 replace h := h.grow k99
 refine dx rfl (cB Pg) (aa (ag (v := (aN x29)) rfl) (dx rfl (cB Pg) (aa (FP rfl rfl) (aa (eO (b := true) (v := (.bool (decide ((tX : Str) = x29)))) (cB Pg) rfl) (aC (ak ?_))))))
 exact cO (decide ((tX : Str) = x29)) ⟨h.cn _, hs⟩
 refine qc rfl (cB Pg) rfl (qc rfl (cB Pg) rfl (qc rfl (cB Pg) rfl (qc rfl (cB Pg) rfl (qc rfl (cB Pg) rfl (qc rfl (cB Pg) rfl (aa (eO (b := false) (v := (.bool (false))) (cB Pg) rfl) (aC (ak ?_))))))))
 exact cO false ⟨h.cn _, hs⟩
 refine ay (aa (eQ (k := 0) h 6 rfl Bq rfl rfl) (iL (args := [(.pointer (some ⟨ba, 0, none⟩)), (.pointer (some ⟨bw, 0, none⟩)), (.pointer (some ⟨bo, 0, none⟩))]) Bo rfl rfl (aL (args := [(.pointer (some ⟨ba, 0, none⟩)), (.pointer (some ⟨bw, 0, none⟩)), (.pointer (some ⟨bo, 0, none⟩))]) Tryz.func103 rfl Tryz.ntmps103 (bH rfl) (nG (aa (ae (v := (aN [])) rfl) (nK (aa (aB h 1 rfl aP rfl rfl) (aa (eQ (k := 0) h 5 rfl pV rfl rfl) (aa (aX fU rfl (h.lF 3 rfl)) (aa (qE rfl rfl) (nN (aK hs rfl (fun c100 hs => ?_) (fun c100 hs => ?_)))))))))))))
 refine nG (dS h 2 [(.bool (false))] rfl vE rfl rfl rfl rfl rfl fun w h => nJ (aa (ae (v := (aN [])) rfl) (nR (ax (bI (v := (aN [])) Tryz.results103 rfl (⟨_, rfl, ?_⟩))))))
 refine aa (ae (v := (aN [])) rfl) (aC (ak ?_))
 exact cO ([], false, y20) ⟨h.cn _, hs⟩
 refine nS (aa (aB h 1 rfl aP rfl rfl) ?_)
 obtain ⟨O0, hs⟩ := bE hs
 refine aa (dz rfl rfl O0) (dS h 1 [(I6 ((y20 + 1)))] rfl aP rfl rfl rfl rfl rfl fun w h => nJ (aa (eQ (k := 0) h 5 rfl pV rfl rfl) (aa (aB h 1 rfl aP rfl rfl) ?_)))
 obtain ⟨a102, hs⟩ := bE hs
 refine aa (tY rfl rfl a102) ?_
 obtain ⟨x103, Xk, hs⟩ := aM hs
 obtain ⟨b106, o107, cs108, h, r109, i105⟩ := h.FH 3 15 rfl fU rfl (aR Xk).1 (aR Xk).2
 obtain rfl := r109
 refine aa (i105 _ _ _ _ _ _ _ _ _ rfl rfl) (aa (eQ (k := 0) h 15 rfl Ag rfl rfl) (aa (ae (v := (aN x103)) rfl) (nR (bI (v := (aN x103)) Tryz.results103 rfl (⟨_, rfl, ?_⟩)))))
 refine aa (ae (v := (aN x103)) rfl) (aC (ak ?_))
 exact cO (x103, O8, (y20 + 1)) ⟨h.cn _, hs⟩
 refine nE (aa (ag (v := v16) rfl) (aa (ae (v := v16) rfl) (nR (bI (v := v16) Tryz.results104 rfl ?_))))
 replace h := h.freeze 11 rfl
 replace h := h.pair 1 2 (by decide)
 obtain rfl := gK hs
 subst Hy
 obtain ⟨o1, o2, o3⟩ := h.zI 1 (C := (.two (.blk ba [(I6 y20)]) (.blk bo [(.bool (O8))]) : Chunk)) rfl ⟨trivial, trivial⟩
 exact ⟨o2, v16, rfl, o1, o3, h.zH 1 11 rfl rfl⟩
def Bv (p8 : List bG) (kJ : Int) (wE : Int) (sU : List Tok) (sV : List Tok) (Bb : List bG) (nZ : (List bG × Int × Bool) → Option (List bG × dL)) (ZP : Int) (ZQ : Bool) (Cy : List bG) : Option (List bG × dL) :=
  iA (Room 112 p8 [(⟨(kJ + 1), wE, sU, sV, Bb, Cy⟩ : bG)]) (nZ ((p8 ++ [(⟨(kJ + 1), wE, sU, sV, Bb, Cy⟩ : bG)]), ZP, ZQ))
def Bw (F0 : dL → List Str → List gG → Int → Option (List bG × dL)) (kJ : Int) (a : Int) (W : List Str) (F : List gG) (p8 : List bG) (wE : Int) (sU : List Tok) (sV : List Tok) (nZ : (List bG × Int × Bool) → Option (List bG × dL)) (GG : Int) (SF : Bool) (Bb : List bG) : Option (List bG × dL) :=
  bif decide (((kJ + 1) : Int) = 6) then iA (jN (a + 1)) ((F0 (⟨GG, SF⟩ : dL) W F (a + 1)).bind fun EZ => Bv p8 kJ wE sU sV Bb nZ EZ.2.at_ EZ.2.ok EZ.1) else Bv p8 kJ wE sU sV Bb nZ GG SF []
def vQ (F0 : dL → List Str → List gG → Int → Option (List bG × dL)) (kJ : Int) (a : Int) (W : List Str) (F : List gG) (p8 : List bG) (wE : Int) (sU : List Tok) (nZ : (List bG × Int × Bool) → Option (List bG × dL)) (DR : Int) (uO : Bool) (sV : List Tok) : Option (List bG × dL) :=
  bif (decide (((kJ + 1) : Int) = 6) || decide (((kJ + 1) : Int) = 7)) then iA (jN (a + 1)) ((F0 (⟨DR, uO⟩ : dL) W F (a + 1)).bind fun Xm => Bw F0 kJ a W F p8 wE sU sV nZ Xm.2.at_ Xm.2.ok Xm.1) else Bw F0 kJ a W F p8 wE sU sV nZ DR uO []
def vR (N : Nat) (F0 : dL → List Str → List gG → Int → Option (List bG × dL)) (kJ : Int) (W : List Str) (F : List gG) (a : Int) (p8 : List bG) (wE : Int) (nZ : (List bG × Int × Bool) → Option (List bG × dL)) (LY : Int) (BP : Bool) (sU : List Tok) : Option (List bG × dL) :=
  bif decide (((kJ + 1) : Int) = 2) then (Fa N (⟨LY, BP⟩ : dL) W F).bind fun LV => vQ F0 kJ a W F p8 wE sU nZ LV.2.at_ LV.2.ok LV.1 else vQ F0 kJ a W F p8 wE sU nZ LY BP []
def tC (N : Nat) (F0 : dL → List Str → List gG → Int → Option (List bG × dL)) (kJ : Int) (W : List Str) (F : List gG) (a : Int) (p8 : List bG) (nZ : (List bG × Int × Bool) → Option (List bG × dL)) (uE : Int) (sS : Bool) (wE : Int) : Option (List bG × dL) :=
  bif decide (((kJ + 1) : Int) ≠ 4) then (Fa N (⟨uE, sS⟩ : dL) W F).bind fun y95 => vR N F0 kJ W F a p8 wE nZ y95.2.at_ y95.2.ok y95.1 else vR N F0 kJ W F a p8 wE nZ uE sS []
def vS (N : Nat) (F0 : dL → List Str → List gG → Int → Option (List bG × dL)) (p8 : List bG) (W : List Str) (F : List gG) (a : Int) (nZ : (List bG × Int × Bool) → Option (List bG × dL)) (x27 : Str) (y28 : Int) (y29 : Bool) : Option (List bG × dL) :=
  bif decide ((x27 : Str) = [125]) then some (p8, (⟨y28, y29⟩ : dL)) else (ER [115, 101, 116, 32, 112, 117, 116, 32, 115, 97, 121, 32, 112, 97, 117, 115, 101, 32, 103, 111, 32, 105, 102, 32, 119, 104, 105, 108, 101, 32, 114, 101, 116, 117, 114, 110]).bind fun y31 => (slices_Index_string y31 x27).bind fun kJ => iA (jN (kJ + 1)) (bif (!(y29 && decide ((0 : Int) < (kJ + 1)))) then some ([], (⟨y28, (y29 && decide ((0 : Int) < (kJ + 1)))⟩ : dL)) else bif decide (((kJ + 1) : Int) ≤ 2) then bif decide (((W.length : Int) : Int) ≤ y28) then (Cn []).bind fun y104 => tC N F0 kJ W F a p8 nZ y28 false y104.1 else iA (jN (y28 + 1)) (iA (jN ((y28 + 1) - 1)) ((idx W ((y28 + 1) - 1)).bind fun G7 => (Cn G7).bind fun Ph => tC N F0 kJ W F a p8 nZ (y28 + 1) (y29 && decide ((0 : Int) < (kJ + 1))) Ph.1)) else tC N F0 kJ W F a p8 nZ y28 (y29 && decide ((0 : Int) < (kJ + 1))) 0)
def vT (N : Nat) (F0 : dL → List Str → List gG → Int → Option (List bG × dL)) (W : List Str) (F : List gG) (a : Int) (s : List bG × Int × Bool) (nZ : List bG × Int × Bool → Option (List bG × dL)) : Option (List bG × dL) :=
  match s with | (p8, G8, JN) => bif JN then bif decide (((W.length : Int) : Int) ≤ G8) then vS N F0 p8 W F a nZ [] G8 false else iA (jN (G8 + 1)) (iA (jN ((G8 + 1) - 1)) ((idx W ((G8 + 1) - 1)).bind fun Nt => vS N F0 p8 W F a nZ Nt (G8 + 1) JN)) else some ([], (⟨G8, JN⟩ : dL))
def xy (N : Nat) (F0 : dL → List Str → List gG → Int → Option (List bG × dL)) (W : List Str) (F : List gG) (a : Int) (y1 : Int) (y2 : Bool) : Option (List bG × dL) :=
  again (vT N F0 W F a) N ([], y1, y2)
def vU (N : Nat) (F0 : dL → List Str → List gG → Int → Option (List bG × dL)) (W : List Str) (F : List gG) (a : Int) (D8 : Bool) (G9 : Int) (LZ : Bool) : Option (List bG × dL) :=
  bif D8 then xy N F0 W F a G9 false else xy N F0 W F a G9 LZ
def yN (N : Nat) (F0 : dL → List Str → List gG → Int → Option (List bG × dL)) (sx : dL) (W : List Str) (F : List gG) (a : Int) : Option (List bG × dL) :=
  bif decide (((W.length : Int) : Int) ≤ sx.at_) then vU N F0 W F a true sx.at_ false else iA (jN (sx.at_ + 1)) (iA (jN ((sx.at_ + 1) - 1)) ((idx W ((sx.at_ + 1) - 1)).bind fun Nu => vU N F0 W F a (decide ((Nu : Str) ≠ [123]) || decide ((6 : Int) < a)) (sx.at_ + 1) sx.ok))
def xz : Nat → dL → List Str → List gG → Int → Option (List bG × dL)
  | 0 => fun _ _ _ _ => none
  | N + 1 => yN N (xz N)
theorem Pj : ∀ (N : Nat) (w0 : World) (M : BS) (hM : ∀ b, M b → b < w0.heap.size) (hT : xg Tryz.prog 4 w0) (ba bo bw bwd bf be bb : Nat) (sx : dL) (hC : Chunk.holds w0 M (Chunk.own' (.two (.blk ba [(I6 sx.at_)]) (.blk bo [(.bool (sx.ok))]) : Chunk)) (.two (.blk ba [(I6 sx.at_)]) (.blk bo [(.bool (sx.ok))]) : Chunk)) (hap : ∀ b, Chunk.own' (.two (.blk ba [(I6 sx.at_)]) (.blk bo [(.bool (sx.ok))]) : Chunk) b → ¬ M b) (vW : Value) (W : List Str) (hvW : gF qD w0 (fun b => M b ∨ Chunk.own' (.two (.blk ba [(I6 sx.at_)]) (.blk bo [(.bool (sx.ok))]) : Chunk) b) vW W) (vF : Value) (F : List gG) (hvF : fK jM w0 (Chunk.own' (.two (.blk ba [(I6 sx.at_)]) (.blk bo [(.bool (sx.ok))]) : Chunk)) (fun b => M b ∨ Chunk.own' (.two (.blk ba [(I6 sx.at_)]) (.blk bo [(.bool (sx.ok))]) : Chunk) b) vF F) (hbw : ∃ E, w0.heap[bw]? = some (.cells #[vW] E (0, 0))) (UF : ¬ Chunk.own' (.two (.blk ba [(I6 sx.at_)]) (.blk bo [(.bool (sx.ok))]) : Chunk) bw) (LW : ∃ E, w0.heap[bwd]? = some (.cells #[(.func (.func 103) #[] #[(.pointer (some ⟨ba, 0, none⟩)), (.pointer (some ⟨bw, 0, none⟩)), (.pointer (some ⟨bo, 0, none⟩))])] E (0, 0))) (IG : ¬ Chunk.own' (.two (.blk ba [(I6 sx.at_)]) (.blk bo [(.bool (sx.ok))]) : Chunk) bwd) (hbf : ∃ E, w0.heap[bf]? = some (.cells #[vF] E (0, 0))) (UG : ¬ Chunk.own' (.two (.blk ba [(I6 sx.at_)]) (.blk bo [(.bool (sx.ok))]) : Chunk) bf) (hbe : ∃ E, w0.heap[be]? = some (.cells #[(.func (.func 104) #[] #[(.pointer (some ⟨bo, 0, none⟩)), (.pointer (some ⟨bwd, 0, none⟩)), (.pointer (some ⟨bf, 0, none⟩))])] E (0, 0))) (nbe : ¬ Chunk.own' (.two (.blk ba [(I6 sx.at_)]) (.blk bo [(.bool (sx.ok))]) : Chunk) be) (hbb : ∃ E, w0.heap[bb]? = some (.cells #[(.func (.func 109) #[] #[(.pointer (some ⟨bwd, 0, none⟩)), (.pointer (some ⟨bo, 0, none⟩)), (.pointer (some ⟨be, 0, none⟩)), (.pointer (some ⟨bb, 0, none⟩))])] E (0, 0))) (nbb : ¬ Chunk.own' (.two (.blk ba [(I6 sx.at_)]) (.blk bo [(.bool (sx.ok))]) : Chunk) bb) (a : Int) (hG : ∀ b, Chunk.own' (.two (.blk ba [(I6 sx.at_)]) (.blk bo [(.bool (sx.ok))]) : Chunk) b → Tryz.prog.globals.size ≤ b) (r : List bG × dL) (hs : xz N sx W F a = some r),
    Calls Tryz.prog 109 #[(I6 a), (.pointer (some ⟨bwd, 0, none⟩)), (.pointer (some ⟨bo, 0, none⟩)), (.pointer (some ⟨be, 0, none⟩)), (.pointer (some ⟨bb, 0, none⟩))] w0 (fun e w' => aQ (Chunk.own' (.two (.blk ba [(I6 sx.at_)]) (.blk bo [(.bool (sx.ok))]) : Chunk)) w0 w' ∧ ∃ u0, e = .returned (u0) ∧ Chunk.holds w' M (Chunk.own' (.two (.blk ba [.int .i64 r.2.at_]) (.blk bo [.bool r.2.ok]) : Chunk)) (.two (.blk ba [.int .i64 r.2.at_]) (.blk bo [.bool r.2.ok]) : Chunk) ∧ (∀ b, Chunk.own' (.two (.blk ba [.int .i64 r.2.at_]) (.blk bo [.bool r.2.ok]) : Chunk) b → b < w0.heap.size → Chunk.own' (.two (.blk ba [(I6 sx.at_)]) (.blk bo [(.bool (sx.ok))]) : Chunk) b) ∧ gF fT w' (fun b => M b ∨ Chunk.own' (.two (.blk ba [.int .i64 r.2.at_]) (.blk bo [.bool r.2.ok]) : Chunk) b) u0 r.1) := by
 intro N
 induction N with
 | zero => intro w0 M hM hT ba bo bw bwd bf be bb sx hC hap vW W hvW vF F hvF hbw UF LW IG hbf UG hbe nbe hbb nbb a hG r hs; cases hs
 | succ N ih =>
 intro w0 M hM hT ba bo bw bwd bf be bb sx hC hap vW W hvW vF F hvF hbw UF LW IG hbf UG hbe nbe hbb nbb a hG r hs
 replace hs : yN N (xz N) sx W F a = some r := hs
 generalize xz N = F0 at hs ih
 refine aL (args := [(I6 a), (.pointer (some ⟨bwd, 0, none⟩)), (.pointer (some ⟨bo, 0, none⟩)), (.pointer (some ⟨be, 0, none⟩)), (.pointer (some ⟨bb, 0, none⟩))]) Tryz.func109 rfl Tryz.ntmps109 (bH rfl) ?_
 have h := SH.EO hM hC hap
 replace h := h.Cq 3 hvW zh
 replace h := h.TC 4 hvF (sW zh)
 replace h := h.xL 5 (cs := [vW]) hbw UF (zq (sW zh))
 replace h := h.xL 6 (cs := [(.func (.func 103) #[] #[(.pointer (some ⟨ba, 0, none⟩)), (.pointer (some ⟨bw, 0, none⟩)), (.pointer (some ⟨bo, 0, none⟩))])]) LW IG (rU (zq (sW zh)))
 replace h := h.xL 7 (cs := [vF]) hbf UG (rU (rU (zq (sW zh))))
 replace h := h.xL 8 (cs := [(.func (.func 104) #[] #[(.pointer (some ⟨bo, 0, none⟩)), (.pointer (some ⟨bwd, 0, none⟩)), (.pointer (some ⟨bf, 0, none⟩))])]) hbe nbe (rU (rU (rU (zq (sW zh)))))
 replace h := h.xL 9 (cs := [(.func (.func 109) #[] #[(.pointer (some ⟨bwd, 0, none⟩)), (.pointer (some ⟨bo, 0, none⟩)), (.pointer (some ⟨be, 0, none⟩)), (.pointer (some ⟨bb, 0, none⟩))])]) hbb nbb (rU (rU (rU (rU (zq (sW zh))))))
 have O9 := UF
 have II := IG
 have Pb := UG
 have ZR := nbe
 have ZT := nbb
 generalize Hy : (.two (.blk ba [(I6 sx.at_)]) (.blk bo [(.bool (sx.ok))]) : Chunk).own' = K0 at h O9 II Pb ZR ZT hG
 replace h := h.gJ 1 2 (by decide) rfl rfl
 refine nG (aa (ae (v := (.slice none 0 0)) rfl) (nN (dm (σ := Int × Bool) (inl (rg 10 7)) (fun ⟨y1, y2⟩ => []) (fun ⟨y1, y2⟩ w => SH w0 M K0 w (hset [(1, .blk ba [(I6 y1)]), (2, .blk bo [(.bool (y2))]), (3, .rd qD vW W), (4, .sr jM vF F), (5, .pt bw 0 [vW]), (6, .pt bwd 0 [(.func (.func 103) #[] #[(.pointer (some ⟨ba, 0, none⟩)), (.pointer (some ⟨bw, 0, none⟩)), (.pointer (some ⟨bo, 0, none⟩))])]), (7, .pt bf 0 [vF]), (8, .pt be 0 [(.func (.func 104) #[] #[(.pointer (some ⟨bo, 0, none⟩)), (.pointer (some ⟨bwd, 0, none⟩)), (.pointer (some ⟨bf, 0, none⟩))])]), (9, .pt bb 0 [(.func (.func 109) #[] #[(.pointer (some ⟨bwd, 0, none⟩)), (.pointer (some ⟨bo, 0, none⟩)), (.pointer (some ⟨be, 0, none⟩)), (.pointer (some ⟨bb, 0, none⟩))])])]) ∧ xy N F0 W F a y1 y2 = some r) ?_ ?_)))
 rintro ⟨y1, y2⟩ w dC ⟨h, hs⟩
 refine nG (aa (ae (v := (.slice none 0 0)) rfl) (nN (aJ (aH ?_))))
 replace h := h.uZ (R := fT) (E := 147) 13
 refine eF (σ := Nat × Value × List bG × Int × Bool) (inl ([6, 7, 8, 9] ++ rg 17 66)) (fun ⟨m22, v15, p8, G8, JN⟩ => [(7, v15)]) (fun ⟨m22, v15, p8, G8, JN⟩ w => SH w0 M K0 w (hset [(1, .blk ba [(I6 G8)]), (2, .blk bo [(.bool (JN))]), (3, .rd qD vW W), (4, .sr jM vF F), (5, .pt bw 0 [vW]), (6, .pt bwd 0 [(.func (.func 103) #[] #[(.pointer (some ⟨ba, 0, none⟩)), (.pointer (some ⟨bw, 0, none⟩)), (.pointer (some ⟨bo, 0, none⟩))])]), (7, .pt bf 0 [vF]), (8, .pt be 0 [(.func (.func 104) #[] #[(.pointer (some ⟨bo, 0, none⟩)), (.pointer (some ⟨bwd, 0, none⟩)), (.pointer (some ⟨bf, 0, none⟩))])]), (9, .pt bb 0 [(.func (.func 109) #[] #[(.pointer (some ⟨bwd, 0, none⟩)), (.pointer (some ⟨bo, 0, none⟩)), (.pointer (some ⟨be, 0, none⟩)), (.pointer (some ⟨bb, 0, none⟩))])]), (13, .own fT 147 v15 p8)]) ∧ again (vT N F0 W F a) m22 (p8, G8, JN) = some r) (fun ⟨m22, v15, p8, G8, JN⟩ => m22) ⟨N, (.slice none 0 0), [], y1, y2⟩ ⟨rfl, trivial⟩ ?_ ?_
 exact ⟨h.cn _, hs⟩
 rintro ⟨m22, v15, p8, G8, JN⟩ w dC ⟨h, hs⟩
 obtain ⟨m221, m22e, m22h⟩ := lQ hs
 subst m22e
 replace hs := m22h
 generalize UH : again (vT N F0 W F a) m221 = nZ at hs
 refine aJ (nG (aa (aB h 2 rfl vE rfl rfl) (nN (aK hs rfl (fun c26 hs => ?_) (fun c26 hs => ?_)))))
 refine aG (aj (aH (dm (σ := Str × Int × Bool) (inl [8, 18, 19]) (fun ⟨x27, y28, y29⟩ => [(8, (aN x27))]) (fun ⟨x27, y28, y29⟩ w => SH w0 M K0 w (hset [(1, .blk ba [(I6 y28)]), (2, .blk bo [(.bool (y29))]), (3, .rd qD vW W), (4, .sr jM vF F), (5, .pt bw 0 [vW]), (6, .pt bwd 0 [(.func (.func 103) #[] #[(.pointer (some ⟨ba, 0, none⟩)), (.pointer (some ⟨bw, 0, none⟩)), (.pointer (some ⟨bo, 0, none⟩))])]), (7, .pt bf 0 [vF]), (8, .pt be 0 [(.func (.func 104) #[] #[(.pointer (some ⟨bo, 0, none⟩)), (.pointer (some ⟨bwd, 0, none⟩)), (.pointer (some ⟨bf, 0, none⟩))])]), (9, .pt bb 0 [(.func (.func 109) #[] #[(.pointer (some ⟨bwd, 0, none⟩)), (.pointer (some ⟨bo, 0, none⟩)), (.pointer (some ⟨be, 0, none⟩)), (.pointer (some ⟨bb, 0, none⟩))])]), (13, .own fT 147 v15 p8)]) ∧ vS N F0 p8 W F a nZ x27 y28 y29 = some r) ?_ ?_)))
 rintro ⟨x27, y28, y29⟩ w dC ⟨h, hs⟩
 refine aJ (nG (aa (ag (v := (aN x27)) rfl) (aa (FP rfl rfl) (nN (aK hs rfl (fun c30 hs => ?_) (fun c30 hs => ?_))))))
 refine nG (aa (ag (v := v15) rfl) (aa (ae (v := v15) rfl) (nR (ax (aD (ax (aD (ax (bI (v := v15) Tryz.results109 rfl ?_)))))))))
 replace h := h.freeze 13 rfl
 replace h := h.pair 1 2 (by decide)
 obtain rfl := gK hs
 subst Hy
 obtain ⟨o1, o2, o3⟩ := h.zI 1 (C := (.two (.blk ba [(I6 y28)]) (.blk bo [(.bool (y29))]) : Chunk)) rfl ⟨trivial, trivial⟩
 exact ⟨o2, v15, rfl, o1, o3, h.zH 1 13 rfl rfl⟩
 refine nS ?_
 obtain ⟨y31, e32, hs⟩ := aM hs
 refine aO QA rfl rfl (Ai _ _ h.lt (hT.Tt h.keep hG) [115, 101, 116, 32, 112, 117, 116, 32, 115, 97, 121, 32, 112, 97, 117, 115, 101, 32, 103, 111, 32, 105, 102, 32, 119, 104, 105, 108, 101, 32, 114, 101, 116, 117, 114, 110] _ e32) ?_
 rintro _ w ⟨k35, u33, rfl, g34⟩
 refine ⟨_, rfl, ?_⟩
 replace h := h.EG 14 k35 g34
 refine aa (ag (v := (aN x27)) rfl) ?_
 obtain ⟨kJ, e37, hs⟩ := aM hs
 refine aO WU rfl rfl (BX _ _ h.lt u33 y31 (h.lF 14 rfl) x27 _ e37) ?_
 rintro _ w ⟨ME, rfl⟩
 refine ⟨_, rfl, ?_⟩
 replace h := h.grow ME
 obtain ⟨a39, hs⟩ := bE hs
 refine aa (dz rfl rfl a39) (aa (fE (pv := [(0, (I6 ((kJ + 1))))]) (out := [(I6 ((kJ + 1))), (I6 0), (.slice none 0 0), (.slice none 0 0), (.slice none 0 0), (.slice none 0 0)]) Rn rfl ⟨0, 1, [(I6 ((kJ + 1)))], rfl, rfl, rfl, bH rfl, rfl⟩) (bu h 15 qK fun w b40 h => dN (vs := [(I6 ((kJ + 1))), (I6 0), (.slice none 0 0), (.slice none 0 0), (.slice none 0 0), (.slice none 0 0)]) h 15 [(I6 ((kJ + 1))), (I6 0), (.slice none 0 0), (.slice none 0 0), (.slice none 0 0), (.slice none 0 0)] rfl qK rfl rfl rfl rfl rfl (ai rfl (ai rfl (ai rfl (ai rfl (ai rfl (ai rfl aS)))))) fun w h => nK (aa (aB h 2 rfl vE rfl rfl) (aa (ag (v := (.bool (y29))) rfl) (az rfl rfl (fun q => ah lI rfl) (az rfl rfl (fun q => aB h 15 rfl aP (dE q) rfl) (az rfl rfl (fun q => jK (dE q) rfl) (aa (fB rfl rfl lW) (dS h 2 [(.bool ((y29 && decide ((0 : Int) < (kJ + 1)))))] rfl vE rfl rfl rfl rfl rfl fun w h => nJ (aa (aB h 2 rfl vE rfl rfl) (aa (dU rfl) (nN ?_))))))))))))
 refine aK hs rfl (fun Uf hs => ?_) (fun Uf hs => ?_)
 refine iI (bC (H7 (by decide) (bC (dV (aj (nG (aa (ae (v := (.slice none 0 0)) rfl) (nR (bI (v := (.slice none 0 0)) Tryz.results109 rfl ?_)))))))))
 replace h := h.pair 1 2 (by decide)
 obtain rfl := gK hs
 subst Hy
 obtain ⟨o1, o2, o3⟩ := h.zI 1 (C := (.two (.blk ba [(I6 y28)]) (.blk bo [(.bool ((y29 && decide ((0 : Int) < (kJ + 1)))))]) : Chunk)) rfl ⟨trivial, trivial⟩
 exact ⟨o2, .slice none 0 0, rfl, o1, o3, fK.nil⟩
 refine aG (aj (dm (σ := Int × Bool × Int) (inl (rg 36 10)) (fun ⟨uE, sS, wE⟩ => []) (fun ⟨uE, sS, wE⟩ w => SH w0 M K0 w (hset [(1, .blk ba [(I6 uE)]), (2, .blk bo [(.bool (sS))]), (3, .rd qD vW W), (4, .sr jM vF F), (5, .pt bw 0 [vW]), (6, .pt bwd 0 [(.func (.func 103) #[] #[(.pointer (some ⟨ba, 0, none⟩)), (.pointer (some ⟨bw, 0, none⟩)), (.pointer (some ⟨bo, 0, none⟩))])]), (7, .pt bf 0 [vF]), (8, .pt be 0 [(.func (.func 104) #[] #[(.pointer (some ⟨bo, 0, none⟩)), (.pointer (some ⟨bwd, 0, none⟩)), (.pointer (some ⟨bf, 0, none⟩))])]), (9, .pt bb 0 [(.func (.func 109) #[] #[(.pointer (some ⟨bwd, 0, none⟩)), (.pointer (some ⟨bo, 0, none⟩)), (.pointer (some ⟨be, 0, none⟩)), (.pointer (some ⟨bb, 0, none⟩))])]), (13, .own fT 147 v15 p8), (15, .blk b40 [(I6 ((kJ + 1))), (I6 wE), (.slice none 0 0), (.slice none 0 0), (.slice none 0 0), (.slice none 0 0)])]) ∧ tC N F0 kJ W F a p8 nZ uE sS wE = some r) ?_ ?_))
 rintro ⟨uE, sS, wE⟩ w dC ⟨h, hs⟩
 refine dm (σ := Int × Bool × Value × List Tok) (inl (rg 46 6)) (fun ⟨LY, BP, v47, sU⟩ => []) (fun ⟨LY, BP, v47, sU⟩ w => SH w0 M K0 w (hset [(1, .blk ba [(I6 LY)]), (2, .blk bo [(.bool (BP))]), (3, .rd qD vW W), (4, .sr jM vF F), (5, .pt bw 0 [vW]), (6, .pt bwd 0 [(.func (.func 103) #[] #[(.pointer (some ⟨ba, 0, none⟩)), (.pointer (some ⟨bw, 0, none⟩)), (.pointer (some ⟨bo, 0, none⟩))])]), (7, .pt bf 0 [vF]), (8, .pt be 0 [(.func (.func 104) #[] #[(.pointer (some ⟨bo, 0, none⟩)), (.pointer (some ⟨bwd, 0, none⟩)), (.pointer (some ⟨bf, 0, none⟩))])]), (9, .pt bb 0 [(.func (.func 109) #[] #[(.pointer (some ⟨bwd, 0, none⟩)), (.pointer (some ⟨bo, 0, none⟩)), (.pointer (some ⟨be, 0, none⟩)), (.pointer (some ⟨bb, 0, none⟩))])]), (13, .own fT 147 v15 p8), (15, .blk b40 [(I6 ((kJ + 1))), (I6 wE), v47, (.slice none 0 0), (.slice none 0 0), (.slice none 0 0)]), (16, .rd mi v47 sU)]) ∧ vR N F0 kJ W F a p8 wE nZ LY BP sU = some r) ?_ ?_
 rintro ⟨LY, BP, v47, sU⟩ w dC ⟨h, hs⟩
 refine dm (σ := Int × Bool × Value × List Tok) (inl (rg 52 6)) (fun ⟨DR, uO, v51, sV⟩ => []) (fun ⟨DR, uO, v51, sV⟩ w => SH w0 M K0 w (hset [(1, .blk ba [(I6 DR)]), (2, .blk bo [(.bool (uO))]), (3, .rd qD vW W), (4, .sr jM vF F), (5, .pt bw 0 [vW]), (6, .pt bwd 0 [(.func (.func 103) #[] #[(.pointer (some ⟨ba, 0, none⟩)), (.pointer (some ⟨bw, 0, none⟩)), (.pointer (some ⟨bo, 0, none⟩))])]), (7, .pt bf 0 [vF]), (8, .pt be 0 [(.func (.func 104) #[] #[(.pointer (some ⟨bo, 0, none⟩)), (.pointer (some ⟨bwd, 0, none⟩)), (.pointer (some ⟨bf, 0, none⟩))])]), (9, .pt bb 0 [(.func (.func 109) #[] #[(.pointer (some ⟨bwd, 0, none⟩)), (.pointer (some ⟨bo, 0, none⟩)), (.pointer (some ⟨be, 0, none⟩)), (.pointer (some ⟨bb, 0, none⟩))])]), (13, .own fT 147 v15 p8), (15, .blk b40 [(I6 ((kJ + 1))), (I6 wE), v47, v51, (.slice none 0 0), (.slice none 0 0)]), (16, .rd mi v47 sU), (17, .rd mi v51 sV)]) ∧ vQ F0 kJ a W F p8 wE sU nZ DR uO sV = some r) ?_ ?_
 rintro ⟨DR, uO, v51, sV⟩ w dC ⟨h, hs⟩
 refine dm (σ := Int × Bool × Value × List bG) (inl (rg 58 13)) (fun ⟨GG, SF, v55, Bb⟩ => []) (fun ⟨GG, SF, v55, Bb⟩ w => SH w0 M K0 w (hset [(1, .blk ba [(I6 GG)]), (2, .blk bo [(.bool (SF))]), (3, .rd qD vW W), (4, .sr jM vF F), (5, .pt bw 0 [vW]), (6, .pt bwd 0 [(.func (.func 103) #[] #[(.pointer (some ⟨ba, 0, none⟩)), (.pointer (some ⟨bw, 0, none⟩)), (.pointer (some ⟨bo, 0, none⟩))])]), (7, .pt bf 0 [vF]), (8, .pt be 0 [(.func (.func 104) #[] #[(.pointer (some ⟨bo, 0, none⟩)), (.pointer (some ⟨bwd, 0, none⟩)), (.pointer (some ⟨bf, 0, none⟩))])]), (9, .pt bb 0 [(.func (.func 109) #[] #[(.pointer (some ⟨bwd, 0, none⟩)), (.pointer (some ⟨bo, 0, none⟩)), (.pointer (some ⟨be, 0, none⟩)), (.pointer (some ⟨bb, 0, none⟩))])]), (13, .own fT 147 v15 p8), (15, .blk b40 [(I6 ((kJ + 1))), (I6 wE), v47, v51, v55, (.slice none 0 0)]), (16, .rd mi v47 sU), (17, .rd mi v51 sV), (18, .rd fT v55 Bb)]) ∧ Bw F0 kJ a W F p8 wE sU sV nZ GG SF Bb = some r) ?_ ?_
 rintro ⟨GG, SF, v55, Bb⟩ w dC ⟨h, hs⟩
 refine dm (σ := Int × Bool × Value × List bG) (inl (rg 71 8)) (fun ⟨ZP, ZQ, v59, Cy⟩ => []) (fun ⟨ZP, ZQ, v59, Cy⟩ w => SH w0 M K0 w (hset [(1, .blk ba [(I6 ZP)]), (2, .blk bo [(.bool (ZQ))]), (3, .rd qD vW W), (4, .sr jM vF F), (5, .pt bw 0 [vW]), (6, .pt bwd 0 [(.func (.func 103) #[] #[(.pointer (some ⟨ba, 0, none⟩)), (.pointer (some ⟨bw, 0, none⟩)), (.pointer (some ⟨bo, 0, none⟩))])]), (7, .pt bf 0 [vF]), (8, .pt be 0 [(.func (.func 104) #[] #[(.pointer (some ⟨bo, 0, none⟩)), (.pointer (some ⟨bwd, 0, none⟩)), (.pointer (some ⟨bf, 0, none⟩))])]), (9, .pt bb 0 [(.func (.func 109) #[] #[(.pointer (some ⟨bwd, 0, none⟩)), (.pointer (some ⟨bo, 0, none⟩)), (.pointer (some ⟨be, 0, none⟩)), (.pointer (some ⟨bb, 0, none⟩))])]), (13, .own fT 147 v15 p8), (15, .blk b40 [(I6 ((kJ + 1))), (I6 wE), v47, v51, v55, v59]), (16, .rd mi v47 sU), (17, .rd mi v51 sV), (18, .rd fT v55 Bb), (19, .rd fT v59 Cy)]) ∧ Bv p8 kJ wE sU sV Bb nZ ZP ZQ Cy = some r) ?_ ?_
 rintro ⟨ZP, ZQ, v59, Cy⟩ w dC ⟨h, hs⟩
 refine ay (aa (ag (v := v15) rfl) (aa (eB (vs := [(I6 ((kJ + 1))), (I6 wE), v47, v51, v55, v59]) h 15 rfl qK rfl rfl rfl) (mX (R := fT) (vs := [(.agg #[(I6 ((kJ + 1))), (I6 wE), v47, v51, v55, v59])]) (xs := [(⟨(kJ + 1), wE, sU, sV, Bb, Cy⟩ : bG)]) h 20 Kl rfl rfl rfl ⟨(Tp ⟨_, _, _, _, rfl, (h.gy 16 rfl), (h.gy 17 rfl), (h.gy 18 rfl), (h.gy 19 rfl)⟩), trivial⟩ rfl fun w Xn h => ?_)))
 obtain ⟨a62, hs⟩ := bE hs
 refine jb (R := fT) (m := [(⟨(kJ + 1), wE, sU, sV, Bb, Cy⟩ : bG)]) h 13 rfl (h.dJ 20 rfl) Kl rfl rfl rfl a62.1 a62.2 fun w u63 h => aa (ae (v := u63) rfl) (aC (au (ak ?_)))
 subst UH
 exact iw ⟨m221, u63, (p8 ++ [(⟨(kJ + 1), wE, sU, sV, Bb, Cy⟩ : bG)]), ZP, ZQ⟩ ⟨h.cn _, hs⟩
 refine nG (aa (ah lI rfl) (aa (aB h 15 rfl aP rfl rfl) (aa (bW rfl rfl) (nN (aK hs rfl (fun c64 hs => ?_) (fun c64 hs => ?_))))))
 refine ay (aa (eQ (k := 0) h 9 rfl Iq rfl rfl) (aa (ag (v := (I6 a)) rfl) ?_))
 obtain ⟨a65, hs⟩ := bE hs
 refine aa (dz rfl rfl a65) ?_
 replace h := h.pair 1 2 (by decide)
 obtain ⟨l66a, l66b, l66c⟩ := h.j5 1 (C := (.two (.blk ba [(I6 GG)]) (.blk bo [(.bool (SF))]) : Chunk)) rfl ⟨trivial, trivial⟩
 obtain ⟨EZ, Xh, hs⟩ := aM hs
 refine aO LF rfl rfl (ih _ _ l66c (hT.Tt h.keep hG) ba bo bw bwd bf be bb (⟨GG, SF⟩ : dL) l66a l66b vW W (h.Cr 1 3 rfl rfl) vF F (h.WI 1 4 rfl rfl) (by obtain ⟨E, hE⟩ := hbw; exact ⟨E, h.keep.blk hE O9⟩) UF (by obtain ⟨E, hE⟩ := LW; exact ⟨E, h.keep.blk hE II⟩) IG (by obtain ⟨E, hE⟩ := hbf; exact ⟨E, h.keep.blk hE Pb⟩) UG (by obtain ⟨E, hE⟩ := hbe; exact ⟨E, h.keep.blk hE ZR⟩) nbe (by obtain ⟨E, hE⟩ := hbb; exact ⟨E, h.keep.blk hE ZT⟩) nbb (a + 1) (h.Il hT hG 1 (C := (.two (.blk ba [(I6 GG)]) (.blk bo [(.bool (SF))]) : Chunk)) rfl) _ Xh) ?_
 rintro _ w ⟨k71, u69, rfl, h72, h73, g70⟩
 refine ⟨_, rfl, ?_⟩
 replace h := h.back 1 (C := (.two (.blk ba [(I6 GG)]) (.blk bo [(.bool (SF))]) : Chunk)) (C' := (.two (.blk ba [(I6 EZ.2.at_)]) (.blk bo [(.bool (EZ.2.ok))]) : Chunk)) rfl ⟨trivial, trivial⟩ h72 k71 h73
 replace h := h.bK 21 (j6 g70)
 replace h := h.gJ 1 2 (by decide) rfl rfl
 refine aa (ah Ae rfl) (dS h 15 [(I6 ((kJ + 1))), (I6 wE), v47, v51, v55, u69] rfl rH rfl rfl rfl rfl (h.gy 21 rfl).one fun w h => aC (ak ?_))
 replace h := h.zm 21 19 rfl
 exact cO (EZ.2.at_, EZ.2.ok, u69, EZ.1) ⟨h.cn _, hs⟩
 refine aG (ak ?_)
 replace h := h.bK 19 (fK.nil (R := fT))
 exact cO (GG, SF, (.slice none 0 0), []) ⟨h.cn _, hs⟩
 refine nG (aa (ah lI rfl) (aa (aB h 15 rfl aP rfl rfl) (aa (bW rfl rfl) (aa (ag (v := (.bool (decide (((kJ + 1) : Int) = 6)))) rfl) (az rfl rfl (fun q => ah lI rfl) (az rfl rfl (fun q => aB h 15 rfl aP (dE q) rfl) (az rfl rfl (fun q => bW (dE q) rfl) (aa (iO rfl rfl lW) (nN (aK hs rfl (fun c74 hs => ?_) (fun c74 hs => ?_)))))))))))
 refine ay (aa (eQ (k := 0) h 9 rfl Iq rfl rfl) (aa (ag (v := (I6 a)) rfl) ?_))
 obtain ⟨a75, hs⟩ := bE hs
 refine aa (dz rfl rfl a75) ?_
 replace h := h.pair 1 2 (by decide)
 obtain ⟨l76a, l76b, l76c⟩ := h.j5 1 (C := (.two (.blk ba [(I6 DR)]) (.blk bo [(.bool (uO))]) : Chunk)) rfl ⟨trivial, trivial⟩
 obtain ⟨Xm, UI, hs⟩ := aM hs
 refine aO LF rfl rfl (ih _ _ l76c (hT.Tt h.keep hG) ba bo bw bwd bf be bb (⟨DR, uO⟩ : dL) l76a l76b vW W (h.Cr 1 3 rfl rfl) vF F (h.WI 1 4 rfl rfl) (by obtain ⟨E, hE⟩ := hbw; exact ⟨E, h.keep.blk hE O9⟩) UF (by obtain ⟨E, hE⟩ := LW; exact ⟨E, h.keep.blk hE II⟩) IG (by obtain ⟨E, hE⟩ := hbf; exact ⟨E, h.keep.blk hE Pb⟩) UG (by obtain ⟨E, hE⟩ := hbe; exact ⟨E, h.keep.blk hE ZR⟩) nbe (by obtain ⟨E, hE⟩ := hbb; exact ⟨E, h.keep.blk hE ZT⟩) nbb (a + 1) (h.Il hT hG 1 (C := (.two (.blk ba [(I6 DR)]) (.blk bo [(.bool (uO))]) : Chunk)) rfl) _ UI) ?_
 rintro _ w ⟨k81, u79, rfl, h82, h83, g80⟩
 refine ⟨_, rfl, ?_⟩
 replace h := h.back 1 (C := (.two (.blk ba [(I6 DR)]) (.blk bo [(.bool (uO))]) : Chunk)) (C' := (.two (.blk ba [(I6 Xm.2.at_)]) (.blk bo [(.bool (Xm.2.ok))]) : Chunk)) rfl ⟨trivial, trivial⟩ h82 k81 h83
 replace h := h.bK 22 (j6 g80)
 replace h := h.gJ 1 2 (by decide) rfl rfl
 refine aa (ah Ad rfl) (dS h 15 [(I6 ((kJ + 1))), (I6 wE), v47, v51, u79, (.slice none 0 0)] rfl rH rfl rfl rfl rfl (h.gy 22 rfl).one fun w h => aC (ak ?_))
 replace h := h.zm 22 18 rfl
 exact cO (Xm.2.at_, Xm.2.ok, u79, Xm.1) ⟨h.cn _, hs⟩
 refine aG (ak ?_)
 replace h := h.bK 18 (fK.nil (R := fT))
 exact cO (DR, uO, (.slice none 0 0), []) ⟨h.cn _, hs⟩
 refine nG (aa (ah lI rfl) (aa (aB h 15 rfl aP rfl rfl) (aa (bW rfl rfl) (nN (aK hs rfl (fun c84 hs => ?_) (fun c84 hs => ?_))))))
 refine ay (aa (eQ (k := 0) h 8 rfl LP rfl rfl) ?_)
 replace h := h.pair 1 2 (by decide)
 obtain ⟨l85a, l85b, l85c⟩ := h.j5 1 (C := (.two (.blk ba [(I6 LY)]) (.blk bo [(.bool (BP))]) : Chunk)) rfl ⟨trivial, trivial⟩
 obtain ⟨LV, e87, hs⟩ := aM hs
 refine aO Qy rfl rfl (Kr N _ _ l85c (hT.Tt h.keep hG) ba bo bw bwd bf (⟨LY, BP⟩ : dL) l85a l85b vW W (h.Cr 1 3 rfl rfl) vF F (h.WI 1 4 rfl rfl) (by obtain ⟨E, hE⟩ := hbw; exact ⟨E, h.keep.blk hE O9⟩) UF (by obtain ⟨E, hE⟩ := LW; exact ⟨E, h.keep.blk hE II⟩) IG (by obtain ⟨E, hE⟩ := hbf; exact ⟨E, h.keep.blk hE Pb⟩) UG (h.Il hT hG 1 (C := (.two (.blk ba [(I6 LY)]) (.blk bo [(.bool (BP))]) : Chunk)) rfl) _ e87) ?_
 rintro _ w ⟨k90, u88, rfl, h91, h92, g89⟩
 refine ⟨_, rfl, ?_⟩
 replace h := h.back 1 (C := (.two (.blk ba [(I6 LY)]) (.blk bo [(.bool (BP))]) : Chunk)) (C' := (.two (.blk ba [(I6 LV.2.at_)]) (.blk bo [(.bool (LV.2.ok))]) : Chunk)) rfl ⟨trivial, trivial⟩ h91 k90 h92
 replace h := h.bK 23 (j6 g89)
 replace h := h.gJ 1 2 (by decide) rfl rfl
 refine aa (ah Cv rfl) (dS h 15 [(I6 ((kJ + 1))), (I6 wE), v47, u88, (.slice none 0 0), (.slice none 0 0)] rfl yL rfl rfl rfl rfl (h.gy 23 rfl).one fun w h => aC (ak ?_))
 replace h := h.zm 23 17 rfl
 exact cO (LV.2.at_, LV.2.ok, u88, LV.1) ⟨h.cn _, hs⟩
 refine aG (ak ?_)
 replace h := h.bK 17 (fK.nil (R := mi))
 exact cO (LY, BP, (.slice none 0 0), []) ⟨h.cn _, hs⟩
 refine nG (aa (ah lI rfl) (aa (aB h 15 rfl aP rfl rfl) (aa (gV rfl rfl) (nN (aK hs rfl (fun c93 hs => ?_) (fun c93 hs => ?_))))))
 refine ay (aa (eQ (k := 0) h 8 rfl LP rfl rfl) ?_)
 replace h := h.pair 1 2 (by decide)
 obtain ⟨l94a, l94b, ZU⟩ := h.j5 1 (C := (.two (.blk ba [(I6 uE)]) (.blk bo [(.bool (sS))]) : Chunk)) rfl ⟨trivial, trivial⟩
 obtain ⟨y95, ZV, hs⟩ := aM hs
 refine aO Qy rfl rfl (Kr N _ _ ZU (hT.Tt h.keep hG) ba bo bw bwd bf (⟨uE, sS⟩ : dL) l94a l94b vW W (h.Cr 1 3 rfl rfl) vF F (h.WI 1 4 rfl rfl) (by obtain ⟨E, hE⟩ := hbw; exact ⟨E, h.keep.blk hE O9⟩) UF (by obtain ⟨E, hE⟩ := LW; exact ⟨E, h.keep.blk hE II⟩) IG (by obtain ⟨E, hE⟩ := hbf; exact ⟨E, h.keep.blk hE Pb⟩) UG (h.Il hT hG 1 (C := (.two (.blk ba [(I6 uE)]) (.blk bo [(.bool (sS))]) : Chunk)) rfl) _ ZV) ?_
 rintro _ w ⟨k99, u97, rfl, h100, h101, g98⟩
 refine ⟨_, rfl, ?_⟩
 replace h := h.back 1 (C := (.two (.blk ba [(I6 uE)]) (.blk bo [(.bool (sS))]) : Chunk)) (C' := (.two (.blk ba [(I6 y95.2.at_)]) (.blk bo [(.bool (y95.2.ok))]) : Chunk)) rfl ⟨trivial, trivial⟩ h100 k99 h101
 replace h := h.bK 24 (j6 g98)
 replace h := h.gJ 1 2 (by decide) rfl rfl
 refine aa (ah Ac rfl) (dS h 15 [(I6 ((kJ + 1))), (I6 wE), u97, (.slice none 0 0), (.slice none 0 0), (.slice none 0 0)] rfl yL rfl rfl rfl rfl (h.gy 24 rfl).one fun w h => aC (ak ?_))
 replace h := h.zm 24 16 rfl
 exact cO (y95.2.at_, y95.2.ok, u97, y95.1) ⟨h.cn _, hs⟩
 refine aG (ak ?_)
 replace h := h.bK 16 (fK.nil (R := mi))
 exact cO (uE, sS, (.slice none 0 0), []) ⟨h.cn _, hs⟩
 refine nG (aa (ah lI rfl) (aa (aB h 15 rfl aP rfl rfl) (aa (Gt rfl rfl) (nN (aK hs rfl (fun ZW hs => ?_) (fun ZW hs => ?_))))))
 refine ay (aa (eQ (k := 0) h 6 rfl Bq rfl rfl) (iL (args := [(.pointer (some ⟨ba, 0, none⟩)), (.pointer (some ⟨bw, 0, none⟩)), (.pointer (some ⟨bo, 0, none⟩))]) Bo rfl rfl (aL (args := [(.pointer (some ⟨ba, 0, none⟩)), (.pointer (some ⟨bw, 0, none⟩)), (.pointer (some ⟨bo, 0, none⟩))]) Tryz.func103 rfl Tryz.ntmps103 (bH rfl) (nG (aa (ae (v := (aN [])) rfl) (nK (aa (aB h 1 rfl aP rfl rfl) (aa (eQ (k := 0) h 5 rfl pV rfl rfl) (aa (aX fU rfl (h.lF 3 rfl)) (aa (qE rfl rfl) (nN (aK hs rfl (fun ZX hs => ?_) (fun ZX hs => ?_)))))))))))))
 refine nG (dS h 2 [(.bool (false))] rfl vE rfl rfl rfl rfl rfl fun w h => nJ (aa (ae (v := (aN [])) rfl) (nR (ax (bI (v := (aN [])) Tryz.results103 rfl (⟨_, rfl, ?_⟩))))))
 obtain ⟨y104, L6, hs⟩ := aM hs
 refine aO EX rfl rfl (si _ _ h.lt (hT.Tt h.keep hG) [] _ L6) ?_
 rintro _ w ⟨JY, Nv, rfl, g107⟩
 refine ⟨_, rfl, ?_⟩
 replace h := h.grow JY
 refine aa (ag (v := (.tuple #[(I6 y104.1), Nv])) rfl) (aa (bJ rfl rfl) (aa (bJ rfl rfl) (aa (ah xk rfl) (dS h 15 [(I6 ((kJ + 1))), (I6 y104.1), (.slice none 0 0), (.slice none 0 0), (.slice none 0 0), (.slice none 0 0)] rfl aP rfl rfl rfl rfl rfl fun w h => aC (ak ?_)))))
 exact cO (y28, false, y104.1) ⟨h.cn _, hs⟩
 refine nS (aa (aB h 1 rfl aP rfl rfl) ?_)
 obtain ⟨a109, hs⟩ := bE hs
 refine aa (dz rfl rfl a109) (dS h 1 [(I6 ((y28 + 1)))] rfl aP rfl rfl rfl rfl rfl fun w h => nJ (aa (eQ (k := 0) h 5 rfl pV rfl rfl) (aa (aB h 1 rfl aP rfl rfl) ?_)))
 obtain ⟨a110, hs⟩ := bE hs
 refine aa (tY rfl rfl a110) ?_
 obtain ⟨G7, Ry, hs⟩ := aM hs
 obtain ⟨b114, o115, cs116, h, r117, i113⟩ := h.FH 3 25 rfl fU rfl (aR Ry).1 (aR Ry).2
 obtain rfl := r117
 refine aa (i113 _ _ _ _ _ _ _ _ _ rfl rfl) (aa (eQ (k := 0) h 25 rfl Ag rfl rfl) (aa (ae (v := (aN G7)) rfl) (nR (bI (v := (aN G7)) Tryz.results103 rfl (⟨_, rfl, ?_⟩)))))
 obtain ⟨Ph, e119, hs⟩ := aM hs
 refine aO EX rfl rfl (si _ _ h.lt (hT.Tt h.keep hG) G7 _ e119) ?_
 rintro _ w ⟨k122, u120, rfl, g121⟩
 refine ⟨_, rfl, ?_⟩
 replace h := h.grow k122
 refine aa (ag (v := (.tuple #[(I6 Ph.1), u120])) rfl) (aa (bJ rfl rfl) (aa (bJ rfl rfl) (aa (ah xk rfl) (dS h 15 [(I6 ((kJ + 1))), (I6 Ph.1), (.slice none 0 0), (.slice none 0 0), (.slice none 0 0), (.slice none 0 0)] rfl aP rfl rfl rfl rfl rfl fun w h => aC (ak ?_)))))
 exact cO ((y28 + 1), (y29 && decide ((0 : Int) < (kJ + 1))), Ph.1) ⟨h.cn _, hs⟩
 refine aG (ak ?_)
 exact cO (y28, (y29 && decide ((0 : Int) < (kJ + 1))), 0) ⟨h.cn _, hs⟩
 refine ay (aa (eQ (k := 0) h 6 rfl Bq rfl rfl) (iL (args := [(.pointer (some ⟨ba, 0, none⟩)), (.pointer (some ⟨bw, 0, none⟩)), (.pointer (some ⟨bo, 0, none⟩))]) Bo rfl rfl (aL (args := [(.pointer (some ⟨ba, 0, none⟩)), (.pointer (some ⟨bw, 0, none⟩)), (.pointer (some ⟨bo, 0, none⟩))]) Tryz.func103 rfl Tryz.ntmps103 (bH rfl) (nG (aa (ae (v := (aN [])) rfl) (nK (aa (aB h 1 rfl aP rfl rfl) (aa (eQ (k := 0) h 5 rfl pV rfl rfl) (aa (aX fU rfl (h.lF 3 rfl)) (aa (qE rfl rfl) (nN (aK hs rfl (fun c123 hs => ?_) (fun c123 hs => ?_)))))))))))))
 refine nG (dS h 2 [(.bool (false))] rfl vE rfl rfl rfl rfl rfl fun w h => nJ (aa (ae (v := (aN [])) rfl) (nR (ax (bI (v := (aN [])) Tryz.results103 rfl (⟨_, rfl, ?_⟩))))))
 refine aa (ae (v := (aN [])) rfl) (aC (ak ?_))
 exact cO ([], G8, false) ⟨h.cn _, hs⟩
 refine nS (aa (aB h 1 rfl aP rfl rfl) ?_)
 obtain ⟨a124, hs⟩ := bE hs
 refine aa (dz rfl rfl a124) (dS h 1 [(I6 ((G8 + 1)))] rfl aP rfl rfl rfl rfl rfl fun w h => nJ (aa (eQ (k := 0) h 5 rfl pV rfl rfl) (aa (aB h 1 rfl aP rfl rfl) ?_)))
 obtain ⟨a125, hs⟩ := bE hs
 refine aa (tY rfl rfl a125) ?_
 obtain ⟨Nt, e127, hs⟩ := aM hs
 obtain ⟨b129, o130, cs131, h, r132, i128⟩ := h.FH 3 26 rfl fU rfl (aR e127).1 (aR e127).2
 obtain rfl := r132
 refine aa (i128 _ _ _ _ _ _ _ _ _ rfl rfl) (aa (eQ (k := 0) h 26 rfl Ag rfl rfl) (aa (ae (v := (aN Nt)) rfl) (nR (bI (v := (aN Nt)) Tryz.results103 rfl (⟨_, rfl, ?_⟩)))))
 refine aa (ae (v := (aN Nt)) rfl) (aC (ak ?_))
 exact cO (Nt, (G8 + 1), JN) ⟨h.cn _, hs⟩
 refine nE (aa (ae (v := (.slice none 0 0)) rfl) (nR (bI (v := (.slice none 0 0)) Tryz.results109 rfl ?_)))
 replace h := h.pair 1 2 (by decide)
 obtain rfl := gK hs
 subst Hy
 obtain ⟨o1, o2, o3⟩ := h.zI 1 (C := (.two (.blk ba [(I6 G8)]) (.blk bo [(.bool (JN))]) : Chunk)) rfl ⟨trivial, trivial⟩
 exact ⟨o2, .slice none 0 0, rfl, o1, o3, fK.nil⟩
 refine dm (σ := Bool × Int × Bool) (inl (rg 10 7)) (fun ⟨D8, G9, LZ⟩ => [(16, (.bool (D8)))]) (fun ⟨D8, G9, LZ⟩ w => SH w0 M K0 w (hset [(1, .blk ba [(I6 G9)]), (2, .blk bo [(.bool (LZ))]), (3, .rd qD vW W), (4, .sr jM vF F), (5, .pt bw 0 [vW]), (6, .pt bwd 0 [(.func (.func 103) #[] #[(.pointer (some ⟨ba, 0, none⟩)), (.pointer (some ⟨bw, 0, none⟩)), (.pointer (some ⟨bo, 0, none⟩))])]), (7, .pt bf 0 [vF]), (8, .pt be 0 [(.func (.func 104) #[] #[(.pointer (some ⟨bo, 0, none⟩)), (.pointer (some ⟨bwd, 0, none⟩)), (.pointer (some ⟨bf, 0, none⟩))])]), (9, .pt bb 0 [(.func (.func 109) #[] #[(.pointer (some ⟨bwd, 0, none⟩)), (.pointer (some ⟨bo, 0, none⟩)), (.pointer (some ⟨be, 0, none⟩)), (.pointer (some ⟨bb, 0, none⟩))])])]) ∧ vU N F0 W F a D8 G9 LZ = some r) ?_ ?_
 rintro ⟨D8, G9, LZ⟩ w dC ⟨h, hs⟩
 refine aK hs rfl (fun c136 hs => ?_) (fun c136 hs => ?_)
 refine ay (dS h 2 [(.bool (false))] rfl vE rfl rfl rfl rfl rfl fun w h => aC (ak ?_))
 exact cO (G9, false) ⟨h.cn _, hs⟩
 refine aG (ak ?_)
 exact cO (G9, LZ) ⟨h.cn _, hs⟩
 refine ay (aa (eQ (k := 0) h 6 rfl Bq rfl rfl) (iL (args := [(.pointer (some ⟨ba, 0, none⟩)), (.pointer (some ⟨bw, 0, none⟩)), (.pointer (some ⟨bo, 0, none⟩))]) Bo rfl rfl (aL (args := [(.pointer (some ⟨ba, 0, none⟩)), (.pointer (some ⟨bw, 0, none⟩)), (.pointer (some ⟨bo, 0, none⟩))]) Tryz.func103 rfl Tryz.ntmps103 (bH rfl) (nG (aa (ae (v := (aN [])) rfl) (nK (aa (aB h 1 rfl aP rfl rfl) (aa (eQ (k := 0) h 5 rfl pV rfl rfl) (aa (aX fU rfl (h.lF 3 rfl)) (aa (qE rfl rfl) (nN (aK hs rfl (fun c137 hs => ?_) (fun c137 hs => ?_)))))))))))))
 refine nG (dS h 2 [(.bool (false))] rfl vE rfl rfl rfl rfl rfl fun w h => nJ (aa (ae (v := (aN [])) rfl) (nR (ax (bI (v := (aN [])) Tryz.results103 rfl (⟨_, rfl, ?_⟩))))))
 refine aa (Ij rfl rfl) (aa (ag (v := (.bool (true))) rfl) (lG (b' := true) rfl rfl rfl (lG (b' := true) rfl rfl rfl (aa (eO (b := true) (v := (.bool (true))) rfl rfl) (aC (ak ?_))))))
 exact cO (true, sx.at_, false) ⟨h.cn _, hs⟩
 refine nS (aa (aB h 1 rfl aP rfl rfl) ?_)
 obtain ⟨a138, hs⟩ := bE hs
 refine aa (dz rfl rfl a138) (dS h 1 [(I6 ((sx.at_ + 1)))] rfl aP rfl rfl rfl rfl rfl fun w h => nJ (aa (eQ (k := 0) h 5 rfl pV rfl rfl) (aa (aB h 1 rfl aP rfl rfl) ?_)))
 obtain ⟨a139, hs⟩ := bE hs
 refine aa (tY rfl rfl a139) ?_
 obtain ⟨Nu, Nw, hs⟩ := aM hs
 obtain ⟨b143, o144, cs145, h, r146, i142⟩ := h.FH 3 27 rfl fU rfl (aR Nw).1 (aR Nw).2
 obtain rfl := r146
 refine aa (i142 _ _ _ _ _ _ _ _ _ rfl rfl) (aa (eQ (k := 0) h 27 rfl Ag rfl rfl) (aa (ae (v := (aN Nu)) rfl) (nR (bI (v := (aN Nu)) Tryz.results103 rfl (⟨_, rfl, ?_⟩)))))
 refine aa (Ij rfl rfl) (aa (ag (v := (.bool (decide ((Nu : Str) ≠ [123])))) rfl) (az rfl rfl (fun q => ag (v := (I6 a)) rfl) (az rfl rfl (fun q => jK (dE q) rfl) (aa (iO rfl rfl lW) (aC (ak ?_))))))
 exact cO ((decide ((Nu : Str) ≠ [123]) || decide ((6 : Int) < a)), (sx.at_ + 1), sx.ok) ⟨h.cn _, hs⟩
def og (JZ : List gG → Option (List gG × Int)) (y24 : List gG) : Option (List gG × Int) :=
  JZ y24
def oh (y1 : List Str) (i17 : Int) (yj : List gG) (JZ : List gG → Option (List gG × Int)) (x30 : Bool) : Option (List gG × Int) :=
  bif x30 then (idx y1 (i17 + 1)).bind fun x32 => (Cn x32).bind fun y39 => iA (jN (i17 + 2)) ((idx y1 (i17 + 2)).bind fun x45 => (Cn x45).bind fun sV => iA (Room 40 yj [(⟨y39.1, sV.1, []⟩ : gG)]) (og JZ (yj ++ [(⟨y39.1, sV.1, []⟩ : gG)]))) else og JZ yj
def jd (N : Nat) (y1 : List Str) (tX : List gG) (i101 : Int) (mV : (List gG × Int × Bool) → Option (List gG × Int)) (uF : Int) (y112 : Bool) : Option (List gG × Int) :=
  (xz N (⟨uF, y112⟩ : dL) y1 tX 1).bind fun lT => (idx tX i101).bind fun yG => mV ((tX.set (i101).toNat { yG with body := lT.1 }), lT.2.at_, lT.2.ok)
def je (N : Nat) (y1 : List Str) (tX : List gG) (i101 : Int) (mV : (List gG × Int × Bool) → Option (List gG × Int)) (kZ : Int) (zk : Bool) : Option (List gG × Int) :=
  bif decide (((y1.length : Int) : Int) ≤ kZ) then jd N y1 tX i101 mV kZ false else iA (jN (kZ + 1)) (iA (jN ((kZ + 1) - 1)) ((idx y1 ((kZ + 1) - 1)).bind fun Xo => jd N y1 tX i101 mV (kZ + 1) zk))
def jf (N : Nat) (y1 : List Str) (tX : List gG) (i101 : Int) (mV : (List gG × Int × Bool) → Option (List gG × Int)) (rC : Int) (yl : Bool) : Option (List gG × Int) :=
  bif decide (((y1.length : Int) : Int) ≤ rC) then je N y1 tX i101 mV rC false else iA (jN (rC + 1)) (iA (jN ((rC + 1) - 1)) ((idx y1 ((rC + 1) - 1)).bind fun qi => je N y1 tX i101 mV (rC + 1) yl))
def jg (N : Nat) (y1 : List Str) (tX : List gG) (i101 : Int) (mV : (List gG × Int × Bool) → Option (List gG × Int)) (Ny : Bool) (Ha : Int) (L8 : Bool) : Option (List gG × Int) :=
  bif Ny then jf N y1 tX i101 mV Ha false else jf N y1 tX i101 mV Ha L8
def kv (tX : List gG) (x159 : Bool) : Option (List gG × Int) :=
  bif x159 then some ([], 1) else some (tX, 0)
def jh (N : Nat) (y1 : List Str) (i101 : Int) (s : List gG × Int × Bool) (mV : List gG × Int × Bool → Option (List gG × Int)) : Option (List gG × Int) :=
  match s with | (tX, y98, y99) => bif decide (((y1.length : Int) : Int) ≤ y98) then jg N y1 tX i101 mV true y98 false else iA (jN (y98 + 1)) (iA (jN ((y98 + 1) - 1)) ((idx y1 ((y98 + 1) - 1)).bind fun x152 => jg N y1 tX i101 mV (decide ((x152 : Str) ≠ [102, 117, 110])) (y98 + 1) y99))
def ky (N : Nat) (y1 : List Str) (a : Str) (s : List gG × Int × Bool) : Option (List gG × Int) :=
  match s with | (tX, y98, y99) => bif ((!y99) || decide ((y98 : Int) < (y1.length : Int))) then kv tX true else (uQ N tX).bind fun UJ => bif decide ((UJ : Int) ≠ 0) then kv tX true else (vM N tX).bind fun Xp => kv tX (decide ((Xp : Str) ≠ a))
def kz (yj : List gG) (i64 : Int) (s : Unit) (nx67 : Unit → Option (List gG × Int)) : Option (List gG × Int) :=
  (idx yj i64).bind fun Xq => bif (!(aI Xq.params 0 3)) then some ([], 1) else nx67 ()
def ji (N : Nat) (y1 : List Str) (a : Str) (yj : List gG) (s : Unit) : Option (List gG × Int) :=
  upto (jh N y1) (ky N y1 a) 0 ((yj.length : Int)).toNat (yj, 0, true)
def kC (y1 : List Str) (i17 : Int) (yF : Str) (yj : List gG) (JZ : List gG → Option (List gG × Int)) : Option (List gG × Int) :=
  bif decide ((yF : Str) = [102, 117, 110]) then iA (jN (i17 + 2)) (oh y1 i17 yj JZ (decide (((i17 + 2) : Int) < (y1.length : Int)))) else oh y1 i17 yj JZ false
def jk (N : Nat) (y1 : List Str) (a : Str) (yj : List gG) : Option (List gG × Int) :=
  bif (decide (((yj.length : Int) : Int) = 0) || decide ((4 : Int) < (yj.length : Int))) then some ([], 1) else upto (kz yj) (ji N y1 a yj) 0 ((yj.length : Int)).toNat ()
def mo (N : Nat) (a : Str) : Option (List gG × Int) :=
  (Lj a [32]).bind fun y1 => dQ (kC y1) (jk N y1 a) 0 y1 []
end
end Go.Proofs.YtfclkapelkhlpaaGreatDoor
