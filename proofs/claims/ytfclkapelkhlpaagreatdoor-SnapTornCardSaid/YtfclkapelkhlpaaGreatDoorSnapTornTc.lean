/-
  What the law SnapTorn needs of our own library and of the walks, no more.
-/
import Derived.Test.YtfclkapelkhlpaaGreatDoorProg
import Derived.Test.YtfclkapelkhlpaaGreatDoorSnapTornTb
set_option linter.unusedSimpArgs false
set_option linter.unusedVariables false
set_option maxRecDepth 10000
namespace Go.LX
open Go Go.Proofs
abbrev I6 (n : Int) : Value := .int .i64 n
def rg (a : Nat) : Nat → List Nat
  | 0 => []
  | n + 1 => a :: rg (a + 1) n
abbrev cT (p : Nat) (v0 v1 : Value) (st wh : Int) (f : List Frame) (w0 : List Value) (c : List (List Val)) (w1 : List Value) : Chunk := (.two (.two (.two (.two (.blk p [v0, v1, .int .i64 st, .int .i64 wh]) (.own gN.raw 49 v0 (List.zip f w0))) (.gZ (dM bM 51 hn w0 (List.map gN.sub f)))) (.own (iI Val).raw 47 v1 (List.zip c w1))) (.gZ (dM bM 51 hn w1 (List.map (iI Val).sub c))) : Chunk)
abbrev cU (v0 v1 : Value) (f : List Frame) (w0 : List Value) (c : List (List Val)) (w1 : List Value) : Chunk := (.two (.two (.two (.own gN.raw 49 v0 (List.zip f w0)) (.gZ (dM bM 51 hn w0 (List.map gN.sub f)))) (.own (iI Val).raw 47 v1 (List.zip c w1))) (.gZ (dM bM 51 hn w1 (List.map (iI Val).sub c))) : Chunk)
theorem gM {α : Type} {a b : α} (h : some a = some b) : a = b := Option.some.inj h
theorem cB {x y : Bool} (c : x = y) : Value.bool x = Value.bool y := congrArg Value.bool c
theorem nX {p : Prop} [Decidable p] (h : decide p = true) : p := of_decide_eq_true h
theorem ML {a b c : Bool} (h : (a && (b && c)) = true) : a = true ∧ b = true ∧ c = true := by simpa using h
theorem bB {n m : Nat} (h : Nat.ble n m = true) : n ≤ m := Nat.le_of_ble_eq_true h
section
variable {P : Program} {ops : Array Oper} {Q : Exit → Act → World → Prop} {rest : List Oper} {n : Nat} {env : Nat → Value} {w : World} {d : Option Nat} {op : Op} {ty : TypeId} {pos : String} {af : Array Edge}
theorem NV {j dj : Nat} {b : Bool} (hd : (ops[j]?).bind (·.dst) = some dj) (hv : ev n env (.tmp dj) = .bool true) (hb : (true == b) = false) (h : WL P ops Q rest n (iU env d undef) w) : WL P ops Q (⟨d, op, ty, pos, af, some (j, b)⟩ :: rest) n env w := lv hd hv hb h
theorem uZ {j dj : Nat} {b : Bool} (hd : (ops[j]?).bind (·.dst) = some dj) (hv : ev n env (.tmp dj) = .bool false) (hb : (false == b) = false) (h : WL P ops Q rest n (iU env d undef) w) : WL P ops Q (⟨d, op, ty, pos, af, some (j, b)⟩ :: rest) n env w := lv hd hv hb h
end
section
variable {P : Program} {Q Q' : Exit → Act → World → Prop} {K1 K2 : Act → World → Prop} {n : Nat} {env : Nat → Value} {w : World} {x y : Code} {l : List Oper} {ops : Array Oper} {id i : Nat}
theorem nG (h : WL P l.toArray (Exit.then (y.wp P Q) Q) l n env w) : WC P (Code.seq (Code.region id l.toArray false) y) Q n env w := aK (az h)
theorem nN (h : WC P y Q n env w) : WL P ops (Exit.then (y.wp P Q) Q') [] n env w := aB (aj h)
theorem nR (h : Q .ret (act n env) w) : WL P ops (Exit.then (Code.ret.wp P Q) Q') [] n env w := aB (aj (Ka h))
theorem nJ (h : WL P l.toArray (Exit.then (y.wp P Q) Q) l n env w) : WL P ops (Exit.then ((Code.seq (Code.region id l.toArray false) y).wp P Q) Q') [] n env w := nN (nG h)
theorem nK (h : WL P l.toArray (Exit.then (x.wp P (Exit.then (y.wp P Q) Q)) (Exit.then (y.wp P Q) Q)) l n env w) : WL P ops (Exit.then ((Code.seq (Code.seq (Code.region id l.toArray false) x) y).wp P Q) Q') [] n env w := nN (aK (nG h))
theorem nS (h : WL P l.toArray (Exit.then (y.wp P Q) Q) l n env w) : WC P .skip (Exit.then ((Code.seq (Code.region id l.toArray false) y).wp P Q) Q') n env w := aF (aj (nG h))
theorem nE (h : WL P l.toArray (Exit.then (y.wp P Q) Q) l n env w) : WC P (.exit i) (Exit.then K1 (Exit.then K2 (Exit.inBlock i (Exit.then ((Code.seq (Code.region id l.toArray false) y).wp P Q) Q')))) n env w := jd (bK (bK (eF (aj (nG h)))))
end
section
variable {P : Program} {ops : Array Oper} {Q : Exit → Act → World → Prop} {n : Nat} {env : Nat → Value} {w ws : World} {d : Option Nat} {op : Op} {ty : TypeId} {pos : String} {af : Array Edge} {fuel : Nat} {listed : Array Bool} {v : Value} {L : BS}
theorem Ai (i : Nat) (hS : Grow ws w) (hi : ops[i]? = some ⟨d, op, ty, pos, af, none⟩) (h3 : (Region.noSelect ops && (Region.free .any ops listed i && (Region.ready .any ops listed).contains i)) = true) (he : ∀ wq, Grow ws wq → (execOp (ev n env) ⟨d, op, ty, pos, af, none⟩).run P wq = .ok (.value v) wq) (h : WH P ops ws Q fuel (listed.setIfInBounds i true) n (iU env d v) w) : WH P ops ws Q (fuel + 1) listed n env w := ma i hS hi ay (ML h3).1 (ML h3).2.1 (ML h3).2.2 he h
theorem gQ (i : Nat) (hS : aO L ws w) (hi : ops[i]? = some ⟨d, op, ty, pos, af, none⟩) (h3 : (Region.noSelect ops && (Region.free .any ops listed i && (Region.ready .any ops listed).contains i)) = true) (he : ∀ wq, aO L ws wq → (execOp (ev n env) ⟨d, op, ty, pos, af, none⟩).run P wq = .ok (.value v) wq) (h : MF P ops L ws Q fuel (listed.setIfInBounds i true) n (iU env d v) w) : MF P ops L ws Q (fuel + 1) listed n env w := dn i hS hi ay (ML h3).1 (ML h3).2.1 (ML h3).2.2 he h
end
end Go.LX
namespace Go.Proofs.YtfclkapelkhlpaaGreatDoor
open Go Go.Proofs Go.LX
noncomputable section
theorem F8 : mh Tryz.prog 111 147 6 112 := ⟨Tryz.underlying111, qG (z := (.agg #[(I6 0), (I6 0), (.slice none 0 0), (.slice none 0 0), (.slice none 0 0), (.slice none 0 0)])) (by kernel_rfl) rfl⟩
theorem F9 : mh Tryz.prog 145 160 2 16 := ⟨Tryz.underlying145, qG (z := (.agg #[(I6 0), (I6 0)])) (by kernel_rfl) rfl⟩
theorem Ga : mh Tryz.prog 153 9 1 16 := ⟨Tryz.underlying153, qG (z := (aN [])) (by kernel_rfl) rfl⟩
theorem MM : mh Tryz.prog 204 111 1 24 := ⟨Tryz.underlying204, qG (z := (.slice none 0 0)) (by kernel_rfl) rfl⟩
theorem I7 : mh Tryz.prog 22 57 3 40 := ⟨Tryz.underlying22, qG (z := (.agg #[(I6 0), (I6 0), (.slice none 0 0)])) (by kernel_rfl) rfl⟩
theorem yI : mh Tryz.prog 23 49 4 48 := ⟨Tryz.underlying23, qG (z := (.agg #[(I6 0), (I6 0), (.slice none 0 0), (I6 0)])) (by kernel_rfl) rfl⟩
theorem ng : mh Tryz.prog 24 47 1 24 := ⟨Tryz.underlying24, qG (z := (.slice none 0 0)) (by kernel_rfl) rfl⟩
theorem fM : mh Tryz.prog 27 3 1 8 := ⟨Tryz.underlying27, qG (z := (I6 0)) (by kernel_rfl) rfl⟩
theorem wE : mh Tryz.prog 47 51 2 16 := ⟨Tryz.underlying47, qG (z := (.agg #[(I6 0), (I6 0)])) (by kernel_rfl) rfl⟩
theorem dN : mh Tryz.prog 55 93 5 56 := ⟨Tryz.underlying55, qG (z := (.agg #[(I6 0), (I6 0), (I6 0), (I6 0), (.slice none 0 0)])) (by kernel_rfl) rfl⟩
theorem I8 : mh Tryz.prog 67 113 3 40 := ⟨Tryz.underlying67, qG (z := (.agg #[(I6 0), (I6 0), (.slice none 0 0)])) (by kernel_rfl) rfl⟩
theorem sO : eT Tryz.prog 113 0 0 := ⟨_, _, 0, Tryz.underlying113, rfl, rfl, by kernel_rfl⟩
theorem wF : eT Tryz.prog 113 1 1 := ⟨_, _, 0, Tryz.underlying113, rfl, rfl, by kernel_rfl⟩
theorem yJ : eT Tryz.prog 113 2 2 := ⟨_, _, 0, Tryz.underlying113, rfl, rfl, by kernel_rfl⟩
theorem iZ : eT Tryz.prog 147 0 0 := ⟨_, _, 0, Tryz.underlying147, rfl, rfl, by kernel_rfl⟩
theorem sP : eT Tryz.prog 147 1 1 := ⟨_, _, 0, Tryz.underlying147, rfl, rfl, by kernel_rfl⟩
theorem wG : eT Tryz.prog 147 2 2 := ⟨_, _, 0, Tryz.underlying147, rfl, rfl, by kernel_rfl⟩
theorem yK : eT Tryz.prog 147 3 3 := ⟨_, _, 0, Tryz.underlying147, rfl, rfl, by kernel_rfl⟩
theorem wH : eT Tryz.prog 147 4 4 := ⟨_, _, 0, Tryz.underlying147, rfl, rfl, by kernel_rfl⟩
theorem wI : eT Tryz.prog 147 5 5 := ⟨_, _, 0, Tryz.underlying147, rfl, rfl, by kernel_rfl⟩
theorem Bp : eT Tryz.prog 160 0 0 := ⟨_, _, 0, Tryz.underlying160, rfl, rfl, by kernel_rfl⟩
theorem lN : eT Tryz.prog 160 1 1 := ⟨_, _, 0, Tryz.underlying160, rfl, rfl, by kernel_rfl⟩
theorem kG : eT Tryz.prog 26 0 0 := ⟨_, _, 0, Tryz.underlying26, rfl, rfl, by kernel_rfl⟩
theorem kH : eT Tryz.prog 26 1 1 := ⟨_, _, 0, Tryz.underlying26, rfl, rfl, by kernel_rfl⟩
theorem vN : eT Tryz.prog 26 2 2 := ⟨_, _, 0, Tryz.underlying26, rfl, rfl, by kernel_rfl⟩
theorem xE : eT Tryz.prog 26 3 3 := ⟨_, _, 0, Tryz.underlying26, rfl, rfl, by kernel_rfl⟩
theorem xG : eT Tryz.prog 49 0 0 := ⟨_, _, 0, Tryz.underlying49, rfl, rfl, by kernel_rfl⟩
theorem zx : eT Tryz.prog 49 1 1 := ⟨_, _, 0, Tryz.underlying49, rfl, rfl, by kernel_rfl⟩
theorem p9 : eT Tryz.prog 49 2 2 := ⟨_, _, 0, Tryz.underlying49, rfl, rfl, by kernel_rfl⟩
theorem xH : eT Tryz.prog 49 3 3 := ⟨_, _, 0, Tryz.underlying49, rfl, rfl, by kernel_rfl⟩
theorem Bq : eT Tryz.prog 51 0 0 := ⟨_, _, 0, Tryz.underlying51, rfl, rfl, by kernel_rfl⟩
theorem nU : eT Tryz.prog 51 1 1 := ⟨_, _, 0, Tryz.underlying51, rfl, rfl, by kernel_rfl⟩
theorem Br : eT Tryz.prog 57 0 0 := ⟨_, _, 0, Tryz.underlying57, rfl, rfl, by kernel_rfl⟩
theorem zy : eT Tryz.prog 57 1 1 := ⟨_, _, 0, Tryz.underlying57, rfl, rfl, by kernel_rfl⟩
theorem uG : eT Tryz.prog 57 2 2 := ⟨_, _, 0, Tryz.underlying57, rfl, rfl, by kernel_rfl⟩
theorem rZ : eT Tryz.prog 93 0 0 := ⟨_, _, 0, Tryz.underlying93, rfl, rfl, by kernel_rfl⟩
theorem zA : eT Tryz.prog 93 1 1 := ⟨_, _, 0, Tryz.underlying93, rfl, rfl, by kernel_rfl⟩
theorem mq : eT Tryz.prog 93 2 2 := ⟨_, _, 0, Tryz.underlying93, rfl, rfl, by kernel_rfl⟩
theorem uH : eT Tryz.prog 93 3 3 := ⟨_, _, 0, Tryz.underlying93, rfl, rfl, by kernel_rfl⟩
theorem zB : eT Tryz.prog 93 4 4 := ⟨_, _, 0, Tryz.underlying93, rfl, rfl, by kernel_rfl⟩
theorem Ha : fE Tryz.prog 100 := ⟨_, Tryz.func100, by kernel_rfl, rfl⟩
theorem Rl : fE Tryz.prog 101 := ⟨_, Tryz.func101, by kernel_rfl, rfl⟩
theorem Bt : fE Tryz.prog 102 := ⟨_, Tryz.func102, by kernel_rfl, rfl⟩
theorem xI : fE Tryz.prog 103 := ⟨_, Tryz.func103, by kernel_rfl, rfl⟩
theorem LW : fE Tryz.prog 104 := ⟨_, Tryz.func104, by kernel_rfl, rfl⟩
theorem Rm : fE Tryz.prog 105 := ⟨_, Tryz.func105, by kernel_rfl, rfl⟩
theorem Hd : fE Tryz.prog 106 := ⟨_, Tryz.func106, by kernel_rfl, rfl⟩
theorem LY : fE Tryz.prog 107 := ⟨_, Tryz.func107, by kernel_rfl, rfl⟩
theorem He : fE Tryz.prog 108 := ⟨_, Tryz.func108, by kernel_rfl, rfl⟩
theorem Hf : fE Tryz.prog 109 := ⟨_, Tryz.func109, by kernel_rfl, rfl⟩
theorem Rn : fE Tryz.prog 110 := ⟨_, Tryz.func110, by kernel_rfl, rfl⟩
theorem LZ : fE Tryz.prog 111 := ⟨_, Tryz.func111, by kernel_rfl, rfl⟩
theorem Ro : fE Tryz.prog 112 := ⟨_, Tryz.func112, by kernel_rfl, rfl⟩
theorem Rp : fE Tryz.prog 113 := ⟨_, Tryz.func113, by kernel_rfl, rfl⟩
theorem Rq : fE Tryz.prog 114 := ⟨_, Tryz.func114, by kernel_rfl, rfl⟩
theorem Rs : fE Tryz.prog 115 := ⟨_, Tryz.func115, by kernel_rfl, rfl⟩
theorem DN : fE Tryz.prog 116 := ⟨_, Tryz.func116, by kernel_rfl, rfl⟩
theorem Rt : fE Tryz.prog 124 := ⟨_, Tryz.func124, by kernel_rfl, rfl⟩
theorem DR : fE Tryz.prog 125 := ⟨_, Tryz.func125, by kernel_rfl, rfl⟩
theorem L6 : fE Tryz.prog 128 := ⟨_, Tryz.func128, by kernel_rfl, rfl⟩
theorem Hg : fE Tryz.prog 129 := ⟨_, Tryz.func129, by kernel_rfl, rfl⟩
theorem Hl : fE Tryz.prog 130 := ⟨_, Tryz.func130, by kernel_rfl, rfl⟩
theorem Ru : fE Tryz.prog 131 := ⟨_, Tryz.func131, by kernel_rfl, rfl⟩
theorem Rv : fE Tryz.prog 141 := ⟨_, Tryz.func141, by kernel_rfl, rfl⟩
theorem xJ : fE Tryz.prog 144 := ⟨_, Tryz.func144, by kernel_rfl, rfl⟩
theorem zC : fE Tryz.prog 145 := ⟨_, Tryz.func145, by kernel_rfl, rfl⟩
theorem L8 : fE Tryz.prog 146 := ⟨_, Tryz.func146, by kernel_rfl, rfl⟩
theorem L9 : fE Tryz.prog 147 := ⟨_, Tryz.func147, by kernel_rfl, rfl⟩
theorem TT : fE Tryz.prog 16 := ⟨_, Tryz.func16, by kernel_rfl, rfl⟩
theorem Rw : fE Tryz.prog 164 := ⟨_, Tryz.func164, by kernel_rfl, rfl⟩
theorem TU : fE Tryz.prog 18 := ⟨_, Tryz.func18, by kernel_rfl, rfl⟩
theorem Ko : fE Tryz.prog 19 := ⟨_, Tryz.func19, by kernel_rfl, rfl⟩
theorem Hm : fE Tryz.prog 20 := ⟨_, Tryz.func20, by kernel_rfl, rfl⟩
theorem OU : fE Tryz.prog 27 := ⟨_, Tryz.func27, by kernel_rfl, rfl⟩
theorem TV : fE Tryz.prog 29 := ⟨_, Tryz.func29, by kernel_rfl, rfl⟩
theorem TW : fE Tryz.prog 39 := ⟨_, Tryz.func39, by kernel_rfl, rfl⟩
theorem TY : fE Tryz.prog 40 := ⟨_, Tryz.func40, by kernel_rfl, rfl⟩
theorem TZ : fE Tryz.prog 44 := ⟨_, Tryz.func44, by kernel_rfl, rfl⟩
theorem T9 : fE Tryz.prog 45 := ⟨_, Tryz.func45, by kernel_rfl, rfl⟩
theorem Ua : fE Tryz.prog 46 := ⟨_, Tryz.func46, by kernel_rfl, rfl⟩
theorem OV : fE Tryz.prog 47 := ⟨_, Tryz.func47, by kernel_rfl, rfl⟩
theorem Ub : fE Tryz.prog 48 := ⟨_, Tryz.func48, by kernel_rfl, rfl⟩
theorem Uc : fE Tryz.prog 49 := ⟨_, Tryz.func49, by kernel_rfl, rfl⟩
theorem OW : fE Tryz.prog 50 := ⟨_, Tryz.func50, by kernel_rfl, rfl⟩
theorem vT : fE Tryz.prog 51 := ⟨_, Tryz.func51, by kernel_rfl, rfl⟩
theorem Ud : fE Tryz.prog 53 := ⟨_, Tryz.func53, by kernel_rfl, rfl⟩
theorem Kq : fE Tryz.prog 55 := ⟨_, Tryz.func55, by kernel_rfl, rfl⟩
theorem OX : fE Tryz.prog 63 := ⟨_, Tryz.func63, by kernel_rfl, rfl⟩
theorem Ue : fE Tryz.prog 64 := ⟨_, Tryz.func64, by kernel_rfl, rfl⟩
theorem Ho : fE Tryz.prog 76 := ⟨_, Tryz.func76, by kernel_rfl, rfl⟩
theorem Uf : fE Tryz.prog 77 := ⟨_, Tryz.func77, by kernel_rfl, rfl⟩
theorem Ug : fE Tryz.prog 78 := ⟨_, Tryz.func78, by kernel_rfl, rfl⟩
theorem Uh : fE Tryz.prog 79 := ⟨_, Tryz.func79, by kernel_rfl, rfl⟩
theorem OY : fE Tryz.prog 80 := ⟨_, Tryz.func80, by kernel_rfl, rfl⟩
theorem Kr : fE Tryz.prog 81 := ⟨_, Tryz.func81, by kernel_rfl, rfl⟩
theorem OZ : fE Tryz.prog 82 := ⟨_, Tryz.func82, by kernel_rfl, rfl⟩
theorem Kt : fE Tryz.prog 83 := ⟨_, Tryz.func83, by kernel_rfl, rfl⟩
theorem Ku : fE Tryz.prog 84 := ⟨_, Tryz.func84, by kernel_rfl, rfl⟩
theorem O0 : fE Tryz.prog 85 := ⟨_, Tryz.func85, by kernel_rfl, rfl⟩
theorem Ui : fE Tryz.prog 86 := ⟨_, Tryz.func86, by kernel_rfl, rfl⟩
theorem MN : Ox Tryz.prog 156 := ⟨by kernel_rfl⟩
theorem kI : wB Tryz.prog 113 [(I6 0), (I6 0), (.slice none 0 0)] := ⟨⟨_, Tryz.underlying113, trivial⟩, by kernel_rfl⟩
theorem mr : wB Tryz.prog 147 [(I6 0), (I6 0), (.slice none 0 0), (.slice none 0 0), (.slice none 0 0), (.slice none 0 0)] := ⟨⟨_, Tryz.underlying147, trivial⟩, by kernel_rfl⟩
theorem je : wB Tryz.prog 160 [(I6 0), (I6 0)] := ⟨⟨_, Tryz.underlying160, trivial⟩, by kernel_rfl⟩
theorem cO : wB Tryz.prog 26 [(.slice none 0 0), (.slice none 0 0), (I6 0), (I6 0)] := ⟨⟨_, Tryz.underlying26, trivial⟩, by kernel_rfl⟩
theorem ja : wB Tryz.prog 49 [(I6 0), (I6 0), (.slice none 0 0), (I6 0)] := ⟨⟨_, Tryz.underlying49, trivial⟩, by kernel_rfl⟩
theorem ik : wB Tryz.prog 51 [(I6 0), (I6 0)] := ⟨⟨_, Tryz.underlying51, trivial⟩, by kernel_rfl⟩
theorem tY : wB Tryz.prog 57 [(I6 0), (I6 0), (.slice none 0 0)] := ⟨⟨_, Tryz.underlying57, trivial⟩, by kernel_rfl⟩
theorem u6 : wB Tryz.prog 93 [(I6 0), (I6 0), (I6 0), (I6 0), (.slice none 0 0)] := ⟨⟨_, Tryz.underlying93, trivial⟩, by kernel_rfl⟩
theorem Bu : MapOf Tryz.prog 125 (.bool (false)) := ⟨_, _, Tryz.underlying125, Tryz.underlying3, by kernel_rfl⟩
theorem jH : MapOf Tryz.prog 131 (aN []) := ⟨_, _, Tryz.underlying131, Tryz.underlying3, by kernel_rfl⟩
theorem Ma : MapOf Tryz.prog 89 (I6 0) := ⟨_, _, Tryz.underlying89, Tryz.underlying3, by kernel_rfl⟩
theorem nD : One Tryz.prog 111 (.slice none 0 0) := ⟨⟨_, Tryz.underlying111, trivial⟩, by kernel_rfl, rfl⟩
theorem Cr : One Tryz.prog 125 (.map none) := ⟨⟨_, Tryz.underlying125, trivial⟩, by kernel_rfl, rfl⟩
theorem u7 : One Tryz.prog 145 (.slice none 0 0) := ⟨⟨_, Tryz.underlying145, trivial⟩, by kernel_rfl, rfl⟩
theorem lC : One Tryz.prog 153 (.slice none 0 0) := ⟨⟨_, Tryz.underlying153, trivial⟩, by kernel_rfl, rfl⟩
theorem xK : One Tryz.prog 159 .nilFunc := ⟨⟨_, Tryz.underlying159, trivial⟩, by kernel_rfl, rfl⟩
theorem Hq : One Tryz.prog 165 .nilFunc := ⟨⟨_, Tryz.underlying165, trivial⟩, by kernel_rfl, rfl⟩
theorem En : One Tryz.prog 166 .nilFunc := ⟨⟨_, Tryz.underlying166, trivial⟩, by kernel_rfl, rfl⟩
theorem qJ : One Tryz.prog 23 (.slice none 0 0) := ⟨⟨_, Tryz.underlying23, trivial⟩, by kernel_rfl, rfl⟩
theorem oh : One Tryz.prog 24 (.slice none 0 0) := ⟨⟨_, Tryz.underlying24, trivial⟩, by kernel_rfl, rfl⟩
theorem qK : One Tryz.prog 27 (.slice none 0 0) := ⟨⟨_, Tryz.underlying27, trivial⟩, by kernel_rfl, rfl⟩
theorem aS : One Tryz.prog 3 (I6 0) := ⟨⟨_, Tryz.underlying3, trivial⟩, by kernel_rfl, rfl⟩
theorem vU : One Tryz.prog 4 (.bool (false)) := ⟨⟨_, Tryz.underlying4, trivial⟩, by kernel_rfl, rfl⟩
theorem pM : One Tryz.prog 47 (.slice none 0 0) := ⟨⟨_, Tryz.underlying47, trivial⟩, by kernel_rfl, rfl⟩
theorem Bv : One Tryz.prog 55 (.slice none 0 0) := ⟨⟨_, Tryz.underlying55, trivial⟩, by kernel_rfl, rfl⟩
theorem wJ : One Tryz.prog 67 (.slice none 0 0) := ⟨⟨_, Tryz.underlying67, trivial⟩, by kernel_rfl, rfl⟩
theorem Mc : One Tryz.prog 89 (.map none) := ⟨⟨_, Tryz.underlying89, trivial⟩, by kernel_rfl, rfl⟩
theorem wK : One Tryz.prog 9 (aN []) := ⟨⟨_, Tryz.underlying9, trivial⟩, by kernel_rfl, rfl⟩
theorem Rx : Oo Tryz.prog 51 := ⟨⟨_, _, Tryz.underlying51, by decide, by decide, rfl, rfl, Tryz.underlying3, Tryz.underlying3, by kernel_rfl, by kernel_rfl⟩, by kernel_rfl, by kernel_rfl⟩
theorem jI : SliceOf Tryz.prog 111 147 6 := ⟨Tryz.underlying111, by kernel_rfl⟩
theorem ji : SliceOf Tryz.prog 145 160 2 := ⟨Tryz.underlying145, by kernel_rfl⟩
theorem dK : SliceOf Tryz.prog 153 9 1 := ⟨Tryz.underlying153, by kernel_rfl⟩
theorem Eo : SliceOf Tryz.prog 204 111 1 := ⟨Tryz.underlying204, by kernel_rfl⟩
theorem lQ : SliceOf Tryz.prog 22 57 3 := ⟨Tryz.underlying22, by kernel_rfl⟩
theorem fB : SliceOf Tryz.prog 23 49 4 := ⟨Tryz.underlying23, by kernel_rfl⟩
theorem eZ : SliceOf Tryz.prog 24 47 1 := ⟨Tryz.underlying24, by kernel_rfl⟩
theorem bP : SliceOf Tryz.prog 27 3 1 := ⟨Tryz.underlying27, by kernel_rfl⟩
theorem dz : SliceOf Tryz.prog 47 51 2 := ⟨Tryz.underlying47, by kernel_rfl⟩
theorem jF : SliceOf Tryz.prog 55 93 5 := ⟨Tryz.underlying55, by kernel_rfl⟩
theorem gH : SliceOf Tryz.prog 67 113 3 := ⟨Tryz.underlying67, by kernel_rfl⟩
theorem MO : Struct Tryz.prog 113 [(I6 0), (I6 0), (.slice none 0 0)] [(0, 1), (1, 1), (2, 1)] := ⟨by kernel_rfl, _, Tryz.underlying113, by kernel_rfl⟩
theorem MP : Struct Tryz.prog 147 [(I6 0), (I6 0), (.slice none 0 0), (.slice none 0 0), (.slice none 0 0), (.slice none 0 0)] [(0, 1), (1, 1), (2, 1), (3, 1), (4, 1), (5, 1)] := ⟨by kernel_rfl, _, Tryz.underlying147, by kernel_rfl⟩
theorem wL : Struct Tryz.prog 160 [(I6 0), (I6 0)] [(0, 1), (1, 1)] := ⟨by kernel_rfl, _, Tryz.underlying160, by kernel_rfl⟩
theorem vg : Struct Tryz.prog 26 [(.slice none 0 0), (.slice none 0 0), (I6 0), (I6 0)] [(0, 1), (1, 1), (2, 1), (3, 1)] := ⟨by kernel_rfl, _, Tryz.underlying26, by kernel_rfl⟩
theorem I9 : Struct Tryz.prog 49 [(I6 0), (I6 0), (.slice none 0 0), (I6 0)] [(0, 1), (1, 1), (2, 1), (3, 1)] := ⟨by kernel_rfl, _, Tryz.underlying49, by kernel_rfl⟩
theorem O1 : Struct Tryz.prog 51 [(I6 0), (I6 0)] [(0, 1), (1, 1)] := ⟨by kernel_rfl, _, Tryz.underlying51, by kernel_rfl⟩
theorem O3 : Struct Tryz.prog 57 [(I6 0), (I6 0), (.slice none 0 0)] [(0, 1), (1, 1), (2, 1)] := ⟨by kernel_rfl, _, Tryz.underlying57, by kernel_rfl⟩
theorem kZ : Struct Tryz.prog 93 [(I6 0), (I6 0), (I6 0), (I6 0), (.slice none 0 0)] [(0, 1), (1, 1), (2, 1), (3, 1), (4, 1)] := ⟨by kernel_rfl, _, Tryz.underlying93, by kernel_rfl⟩
theorem mixed : Tryz.prog.follows .mixedOrders = true := by kernel_rfl
theorem Dv (w0 : World) (M : BS) (hM : ∀ b, M b → b < w0.heap.size) (hT : sM Tryz.prog 4 w0) (a : Str) (b : Str) (r : List Str) (hs : GV a b = some r) :
    Calls Tryz.prog 101 #[aN a, aN b] w0 (fun e w' => Grow w0 w' ∧ ∃ u, e = .returned u ∧ eB l8 w' M u r) :=
  Q4 Tryz.strings_Split hM hT hs
theorem om (w0 : World) (M : BS) (hM : ∀ b, M b → b < w0.heap.size) (hT : sM Tryz.prog 4 w0) (a : Str) (r : Int × Bool) (hs : yD a = some r) :
    Calls Tryz.prog 102 #[aN a] w0 (fun e w' => Grow w0 w' ∧ ∃ u, e = .returned (.tuple #[.int .i64 r.1, u]) ∧ IQ u r.2) :=
  TC Tryz.strconv_Atoi_ok Tryz.strconv_Atoi_syntax_var Tryz.strconv_Atoi_range_var hT hs
def aP (a : Int) (b : Int) (c : Int) : Bool :=
  (decide ((b : Int) ≤ a) && decide ((a : Int) ≤ c))
theorem fC (w0 : World) (M : BS) (hM : ∀ b, M b → b < w0.heap.size) (a : Int) (b : Int) (c : Int) (r : Bool) (hs : aP a b c = r) :
    Calls Tryz.prog 51 #[(I6 a), (I6 b), (I6 c)] w0 (fun e w' => Grow w0 w' ∧ e = .returned (.bool r)) := by
 refine aH (args := [(I6 a), (I6 b), (I6 c)]) Tryz.func51 rfl Tryz.ntmps51 (bB rfl) ?_
 have h := SH.init hM
 refine nG (aa (ae (v := (.bool (false))) rfl) (nJ (aa (ag (v := (I6 b)) rfl) (aa (ag (v := (I6 a)) rfl) (aa (CY rfl rfl) (aa (ag (v := (.bool (decide ((b : Int) ≤ a)))) rfl) (aA rfl rfl (fun q => ag (v := (I6 a)) rfl) (aA rfl rfl (fun q => ag (v := (I6 c)) rfl) (aA rfl rfl (fun q => CY (bZ q) (bZ q)) (aa (gG rfl rfl mX) (aa (ae (v := (.bool ((decide ((b : Int) ≤ a) && decide ((a : Int) ≤ c))))) rfl) (nR (bE (v := (.bool ((decide ((b : Int) ≤ a) && decide ((a : Int) ≤ c))))) Tryz.results51 rfl ?_)))))))))))))
 obtain rfl := hs
 exact ⟨h.grown, rfl⟩
def mD (MQ : Int → Option (Int × Bool)) (x40 : Int) : Option (Int × Bool) :=
  MQ x40
def mE (F0 : List aR → Int → Option (Int × Bool)) (b : Int) (xk : List aR) (x32 : Int) (MQ : Int → Option (Int × Bool)) : Option (Int × Bool) :=
  bif decide ((0 : Int) < (xk.length : Int)) then gD (jg (b - 1)) ((F0 xk (b - 1)).bind fun qp => gD (jg (x32 + qp.1)) (bif ((!qp.2) || decide ((30 : Int) < (x32 + qp.1))) then some (0, false) else mD MQ (x32 + qp.1))) else mD MQ x32
def mF (MR : Int → Option (Int × Bool)) (x32 : Int) : Option (Int × Bool) :=
  bif decide ((30 : Int) < x32) then some (0, false) else MR x32
def mG (F0 : List aR → Int → Option (Int × Bool)) (b : Int) (a : List aR) (x8 : aR) (x5 : Int) (MR : Int → Option (Int × Bool)) : Option (Int × Bool) :=
  gD (jg (x5 + 1)) (each (mE F0 b) (mF MR) [x8.a, x8.b] (x5 + 1))
def mH (x5 : Int) : Option (Int × Bool) :=
  some (x5, true)
def uy (F0 : List aR → Int → Option (Int × Bool)) (a : List aR) (b : Int) : Option (Int × Bool) :=
  bif decide ((b : Int) < 1) then some (0, false) else each (mG F0 b a) mH a 0
def lg : Nat → List aR → Int → Option (Int × Bool)
  | 0 => fun _ _ => none
  | N + 1 => uy (lg N)
theorem zS : ∀ (N : Nat) (w0 : World) (M : BS) (hM : ∀ b, M b → b < w0.heap.size) (va : Value) (a : List aR) (ha : eY dJ w0 BE M va a) (b : Int) (r : Int × Bool) (hs : lg N a b = some r),
    Calls Tryz.prog 128 #[va, (I6 b)] w0 (fun e w' => Grow w0 w' ∧ e = .returned (.tuple #[.int .i64 r.1, .bool r.2])) := by
 intro N
 induction N with
 | zero => intro w0 M hM va a ha b r hs; cases hs
 | succ N ih =>
 intro w0 M hM va a ha b r hs
 replace hs : uy (lg N) a b = some r := hs
 generalize lg N = F0 at hs ih
 refine aH (args := [va, (I6 b)]) Tryz.func128 rfl Tryz.ntmps128 (bB rfl) ?_
 have h := SH.init hM
 replace h := h.dR 1 ha aT
 have tZ := ha.bG
 refine nG (aa (ae (v := (I6 0)) rfl) (aa (ae (v := (.bool (false))) rfl) (nK (aa (ag (v := (I6 b)) rfl) (aa (dm rfl rfl) (nN (aG hs rfl (fun c1 hs => ?_) (fun c1 hs => ?_))))))))
 refine nG (aa (ae (v := (I6 0)) rfl) (aa (ae (v := (.bool (false))) rfl) (nR (ax (zR (v1 := (I6 0)) (v2 := (.bool (false))) Tryz.results128 rfl rfl ?_)))))
 obtain rfl := gM hs
 exact ⟨h.grown, rfl⟩
 refine nS (aa (ae (v := (I6 0)) rfl) (nK (aa (ag (v := va) rfl) (aa (bC jI rfl (h.fT 1 rfl)) (aa (ag (v := (I6 0)) rfl) (nN (aI (fe (σ := Nat × Int × Int) (inl ([4, 5, 6, 8, 10, 11, 12] ++ rg 17 39)) (fun ⟨k6, i7, x5⟩ => [(6, (I6 x5)), (17, (I6 i7))]) (fun ⟨k6, i7, x5⟩ w => SH w0 M BE w (hset [(1, .sr dJ va a)]) ∧ i7 = (k6 : Int) ∧ each (mG F0 b a) mH (a.drop k6) x5 = some r) (fun ⟨k6, i7, x5⟩ => a.length - k6) ⟨0, 0, 0⟩ ⟨rfl, rfl, trivial⟩ ?_ ?_))))))))
 exact ⟨h.cn _, rfl, hs⟩
 rintro ⟨k6, i7, x5⟩ w cZ ⟨h, hik, hs⟩
 refine nG ?_
 refine aa (dm rfl rfl) (nN ?_)
 refine aK (gF rfl (fun e11 => ?_) (fun e11 => ?_))
 refine aF (aj ?_)
 obtain ⟨x8, Yx, Yy⟩ := fH (hik ▸ e11)
 rw [Yy, cz] at hs
 generalize VZ : each (mG F0 b a) mH (a.drop (k6 + 1)) = MR at hs
 have Yz := fK ((h.fT 1 rfl)).bG hik e11
 refine aK (aI (nG ?_))
 obtain ⟨b14, o15, YA, h, YB, i13⟩ := h.xx 1 2 rfl jI rfl (ic hik) (fJ hik Yx)
 obtain ⟨NW, u20, u22, u24, rfl, g19, g21, g23, Uj⟩ := xz YB
 replace h := h.bD 3 g19.up
 replace h := h.bD 4 g21.up.up
 replace h := h.bD 5 g23.up.up.up
 replace h := h.bD 6 Uj.up.up.up.up
 refine aa (i13 _ _ _ _ _ _ _ _ _ rfl rfl) (aa (iH (k := 0) (vs := [(I6 x8.kind), (I6 x8.n), NW, u20, u22, u24]) h 2 rfl mr rfl rfl rfl (bB rfl)) (bL h 7 mr fun w Vo h => dS (vs := [(I6 x8.kind), (I6 x8.n), NW, u20, u22, u24]) h 7 [(I6 x8.kind), (I6 x8.n), NW, u20, u22, u24] rfl mr rfl rfl rfl rfl rfl (ai rfl (ai rfl (ai (h.fq 3 rfl).one (ai (h.fq 4 rfl).one (ai (h.fq 5 rfl).one (ai (h.fq 6 rfl).one aZ)))))) fun w h => nJ (aa (ag (v := (I6 x5)) rfl) ?_)))
 obtain ⟨a27, hs⟩ := aW hs
 refine aa (bU rfl rfl a27) (aa (ae (v := (I6 ((x5 + 1)))) rfl) (nK (aa (ah wH rfl) (aa (aC h 7 rfl nD rfl rfl) (aa (ah wI rfl) (aa (aC h 7 rfl nD rfl rfl) (pK (R := (oN dJ)) (vs := [u22, u24]) (xs := [x8.a, x8.b]) h 8 MM rfl rfl rfl ⟨(h.fq 5 rfl).Vn, ⟨(h.fq 6 rfl).Vn, trivial⟩⟩ rfl fun w u28 h => aa (bC Eo rfl (h.dE 8 rfl)) (aa (ag (v := (I6 0)) rfl) (nN (aI ?_))))))))))
 replace h := h.freeze 8 rfl
 refine fe (σ := Nat × Int × Int) (inl ([4, 5, 6, 10, 11, 12] ++ rg 29 24)) (fun ⟨NY, i34, x32⟩ => [(6, (I6 x32)), (29, (I6 i34))]) (fun ⟨NY, i34, x32⟩ w => SH w0 M BE w (hset [(1, .sr dJ va a), (8, .rd (oN dJ) u28 [x8.a, x8.b])]) ∧ i34 = (NY : Int) ∧ each (mE F0 b) (mF MR) ([x8.a, x8.b].drop NY) x32 = some r) (fun ⟨NY, i34, x32⟩ => [x8.a, x8.b].length - NY) ⟨0, 0, (x5 + 1)⟩ ⟨rfl, rfl, trivial⟩ ?_ ?_
 exact ⟨h.cn _, rfl, hs⟩
 rintro ⟨NY, i34, x32⟩ w cZ ⟨h, hik, hs⟩
 refine nG ?_
 refine aa (dm rfl rfl) (nN ?_)
 refine aK (gF rfl (fun e38 => ?_) (fun e38 => ?_))
 refine aF (aj ?_)
 obtain ⟨xk, YC, YD⟩ := fH (hik ▸ e38)
 rw [YD, cz] at hs
 generalize V3 : each (mE F0 b) (mF MR) ([x8.a, x8.b].drop (NY + 1)) = MQ at hs
 have YE := fK ((h.mY 8 rfl)).bG hik e38
 refine bQ (σ := Int) (inl ([4, 5, 6, 10, 11, 12] ++ rg 31 21)) (fun x40 => [(6, (I6 x40))]) (fun x40 w => SH w0 M BE w (hset [(1, .sr dJ va a), (8, .rd (oN dJ) u28 [x8.a, x8.b])]) ∧ mD MQ x40 = some r) ?_ ?_
 rintro x40 w cZ ⟨h, hs⟩
 refine az (aa (bU rfl rfl YE) (aa (ag (v := (I6 ((i34 + 1)))) rfl) (aB (ak ?_))))
 subst V3
 exact iW ⟨NY + 1, i34 + 1, x40⟩ ⟨h.cn _, by omega, hs⟩ (by have := nX e38; dsimp only; omega)
 refine aI (nG ?_)
 obtain ⟨b42, o43, YF, h, YG, i41⟩ := h.FU 8 9 rfl Eo rfl (ic hik) (fJ hik YC)
 obtain ⟨u46, rfl, g47⟩ := YG
 replace h := h.bD 10 g47.up
 refine aa (i41 _ _ _ _ _ _ _ _ _ rfl rfl) (aa (dY (k := 0) h 9 rfl nD rfl rfl) (aa (ae (v := u46) rfl) (nJ (aa (ag (v := u46) rfl) (aa (bC jI rfl (h.mY 10 rfl)) (aa (iV rfl rfl) (nN (aG hs rfl (fun c48 hs => ?_) (fun c48 hs => ?_)))))))))
 refine nG (aa (ag (v := u46) rfl) (aa (ag (v := (I6 b)) rfl) ?_))
 obtain ⟨a49, hs⟩ := aW hs
 refine aa (sG rfl rfl a49) ?_
 obtain ⟨qp, e51, hs⟩ := aJ hs
 refine aM L6 rfl rfl (ih _ _ h.lt u46 xk (h.mY 10 rfl) (b - 1) _ e51) ?_
 rintro _ w ⟨YH, rfl⟩
 refine ⟨_, rfl, ?_⟩
 replace h := h.grow YH
 refine aa (ag (v := (.tuple #[(I6 qp.1), (.bool (qp.2))])) rfl) (aa (bz rfl rfl) (aa (bz rfl rfl) (aa (ae (v := (I6 qp.1)) rfl) (aa (ae (v := (.bool (qp.2))) rfl) (nJ (aa (ag (v := (I6 x32)) rfl) (aa (ag (v := (I6 qp.1)) rfl) ?_)))))))
 obtain ⟨a53, hs⟩ := aW hs
 refine aa (bU rfl rfl a53) (aa (ae (v := (I6 ((x32 + qp.1)))) rfl) (nJ (aa (ag (v := (.bool (qp.2))) rfl) (aa (fU rfl) (aa (ag (v := (.bool ((!qp.2)))) rfl) (aA rfl rfl (fun q => ag (v := (I6 ((x32 + qp.1)))) rfl) (aA rfl rfl (fun q => iV (bZ q) rfl) (aa (gK rfl rfl mX) (nN (aG hs rfl (fun c54 hs => ?_) (fun c54 hs => ?_)))))))))))
 refine nG (aa (ae (v := (I6 0)) rfl) (aa (ae (v := (.bool (false))) rfl) (nR (aD (ax (ax (aD (ax (aD (ax (ax (aD (ax (zR (v1 := (I6 0)) (v2 := (.bool (false))) Tryz.results128 rfl rfl ?_))))))))))))))
 obtain rfl := gM hs
 exact ⟨h.grown, rfl⟩
 refine aF (au (ak ?_))
 exact bO (x32 + qp.1) ⟨h.cn _, hs⟩
 refine aF (au (ak ?_))
 exact bO x32 ⟨h.cn _, hs⟩
 rw [fI (hik ▸ e38), fw] at hs
 refine nE (aa (ag (v := (I6 x32)) rfl) (aa (iV rfl rfl) (nN (aG hs rfl (fun c55 hs => ?_) (fun c55 hs => ?_)))))
 refine nG (aa (ae (v := (I6 0)) rfl) (aa (ae (v := (.bool (false))) rfl) (nR (aD (ax (ax (aD (ax (zR (v1 := (I6 0)) (v2 := (.bool (false))) Tryz.results128 rfl rfl ?_)))))))))
 obtain rfl := gM hs
 exact ⟨h.grown, rfl⟩
 refine aF (au (aj (az (aa (bU rfl rfl Yz) (aa (ag (v := (I6 ((i7 + 1)))) rfl) (aB (ak ?_)))))))
 subst VZ
 exact iW ⟨k6 + 1, i7 + 1, x32⟩ ⟨h.cn _, by omega, hs⟩ (by have := nX e11; dsimp only; omega)
 rw [fI (hik ▸ e11), fw] at hs
 refine nE (aa (ag (v := (I6 x5)) rfl) (aa (ae (v := (I6 x5)) rfl) (aa (ae (v := (.bool (true))) rfl) (nR (zR (v1 := (I6 x5)) (v2 := (.bool (true))) Tryz.results128 rfl rfl ?_)))))
 obtain rfl := gM hs
 exact ⟨h.grown, rfl⟩
theorem iM (w0 : World) (M : BS) (hM : ∀ b, M b → b < w0.heap.size) (a : Str) (b : UInt8) (r : Bool) (hs : hasB a b = r) :
    Calls Tryz.prog 145 #[(aN a), (aN [b])] w0 (fun e w' => Grow w0 w' ∧ e = .returned (.bool r)) := by
  refine (Tryz.strings_Contains_one ⟨a.toArray⟩ b w0).mono ?_
  rintro e w' ⟨rfl, rfl⟩
  subst hs
  exact ⟨aO.refl _ _, by simp [hasB]⟩
def aL (a : Int) (b : Int) : Bool :=
  (decide ((0 : Int) ≤ a) && decide ((a : Int) < b))
theorem pF (w0 : World) (M : BS) (hM : ∀ b, M b → b < w0.heap.size) (a : Int) (b : Int) (r : Bool) (hs : aL a b = r) :
    Calls Tryz.prog 55 #[(I6 a), (I6 b)] w0 (fun e w' => Grow w0 w' ∧ e = .returned (.bool r)) := by
 refine aH (args := [(I6 a), (I6 b)]) Tryz.func55 rfl Tryz.ntmps55 (bB rfl) ?_
 have h := SH.init hM
 refine nG (aa (ae (v := (.bool (false))) rfl) (nJ (aa (ag (v := (I6 a)) rfl) (aa (pq rfl rfl) (aa (ag (v := (.bool (decide ((0 : Int) ≤ a)))) rfl) (aA rfl rfl (fun q => ag (v := (I6 a)) rfl) (aA rfl rfl (fun q => ag (v := (I6 b)) rfl) (aA rfl rfl (fun q => dm (bZ q) (bZ q)) (aa (gG rfl rfl mX) (aa (ae (v := (.bool ((decide ((0 : Int) ≤ a) && decide ((a : Int) < b))))) rfl) (nR (bE (v := (.bool ((decide ((0 : Int) ≤ a) && decide ((a : Int) < b))))) Tryz.results55 rfl ?_))))))))))))
 obtain rfl := hs
 exact ⟨h.grown, rfl⟩
def dP (a : Int) : Bool :=
  (aP a (-1000000000) 1000000000)
theorem Aj (w0 : World) (M : BS) (hM : ∀ b, M b → b < w0.heap.size) (a : Int) (r : Bool) (hs : dP a = r) :
    Calls Tryz.prog 53 #[(I6 a)] w0 (fun e w' => Grow w0 w' ∧ e = .returned (.bool r)) := by
 refine aH (args := [(I6 a)]) Tryz.func53 rfl Tryz.ntmps53 (bB rfl) ?_
 have h := SH.init hM
 refine nG (aa (ae (v := (.bool (false))) rfl) (nJ (aa (ag (v := (I6 a)) rfl) (aM vT rfl rfl (fC _ _ h.lt a (-1000000000) 1000000000 _ rfl) ?_))))
 rintro _ w ⟨k1, rfl⟩
 refine ⟨_, rfl, ?_⟩
 replace h := h.grow k1
 refine aa (ae (v := (.bool ((aP a (-1000000000) 1000000000)))) rfl) (nR (bE (v := (.bool ((aP a (-1000000000) 1000000000)))) Tryz.results53 rfl ?_))
 obtain rfl := hs
 exact ⟨h.grown, rfl⟩
def eH (x2 : Bool) : Int :=
  bif (!x2) then 3 else 0
def dG (a : Tok) (b : List dO) (c : Int) : Int :=
  bif decide ((a.kind : Int) = 1) then eH (dP a.n) else bif decide ((a.kind : Int) = 2) then eH (aL a.n c) else bif decide ((a.kind : Int) = 3) then eH (aP a.n 1 5) else bif decide ((a.kind : Int) = 4) then eH (aP a.n 0 3) else bif decide ((a.kind : Int) = 5) then eH (aP a.n 1 4) else bif decide ((a.kind : Int) = 6) then bif (!(aL a.n (b.length : Int))) then 5 else eH true else 4
theorem qL (w0 : World) (M : BS) (hM : ∀ b, M b → b < w0.heap.size) (a : Tok) (vb : Value) (b : List dO) (hb : eY gT w0 BE M vb b) (c : Int) (r : Int) (hs : dG a b c = r) :
    Calls Tryz.prog 107 #[(.agg #[(I6 a.kind), (I6 a.n)]), vb, (I6 c)] w0 (fun e w' => Grow w0 w' ∧ e = .returned (.int .i64 r)) := by
 refine aH (args := [(.agg #[(I6 a.kind), (I6 a.n)]), vb, (I6 c)]) Tryz.func107 rfl Tryz.ntmps107 (bB rfl) ?_
 have h := SH.init hM
 replace h := h.dR 1 hb aT
 have FB := hb.bG
 refine nG (ql (cs := [(I6 a.kind), (I6 a.n)]) h 2 rfl rfl fun w b1 h => aa (ae (v := (I6 0)) rfl) (nJ (aa (ae (v := (.bool (false))) rfl) (nN (bQ (σ := Bool) (inl (rg 6 38)) (fun x2 => [(7, (.bool (x2)))]) (fun x2 w => SH w0 M BE w (hset []) ∧ eH x2 = r) ?_ ?_)))))
 rintro x2 w cZ ⟨h, hs⟩
 refine aK (nG (aa (ag (v := (.bool (x2))) rfl) (aa (fU rfl) (nN (aG hs rfl (fun c3 hs => ?_) (fun c3 hs => ?_))))))
 refine nG (aa (ae (v := (I6 3)) rfl) (nR (ax (bE (v := (I6 3)) Tryz.results107 rfl ?_))))
 obtain rfl := hs
 exact ⟨h.grown, rfl⟩
 refine nS (aa (ae (v := (I6 0)) rfl) (nR (bE (v := (I6 0)) Tryz.results107 rfl ?_)))
 obtain rfl := hs
 exact ⟨h.grown, rfl⟩
 refine nG (aa (ah Bp rfl) (aa (aC h 2 rfl aS rfl rfl) (nN (aI (nG (aa (bH rfl rfl) (aa (ae (v := (.bool (decide ((a.kind : Int) = 1)))) rfl) (nN (aG hs rfl (fun c4 hs => ?_) (fun c4 hs => ?_))))))))))
 refine az (aa (ah lN rfl) (aa (aC h 2 rfl aS rfl rfl) (aM Ud rfl rfl (Aj _ _ h.lt a.n _ rfl) ?_)))
 rintro _ w ⟨k5, rfl⟩
 refine ⟨_, rfl, ?_⟩
 replace h := h.grow k5
 refine aa (ae (v := (.bool ((dP a.n)))) rfl) (aB (au (ak ?_)))
 exact bO (dP a.n) ⟨h.cn _, hs⟩
 refine nG (aa (bH rfl rfl) (aa (ae (v := (.bool (decide ((a.kind : Int) = 2)))) rfl) (nN (aG hs rfl (fun c6 hs => ?_) (fun c6 hs => ?_)))))
 refine az (aa (ah lN rfl) (aa (aC h 2 rfl aS rfl rfl) (aa (ag (v := (I6 c)) rfl) (aM Kq rfl rfl (pF _ _ h.lt a.n c _ rfl) ?_))))
 rintro _ w ⟨k7, rfl⟩
 refine ⟨_, rfl, ?_⟩
 replace h := h.grow k7
 refine aa (ae (v := (.bool ((aL a.n c)))) rfl) (aB (au (ak ?_)))
 exact bO (aL a.n c) ⟨h.cn _, hs⟩
 refine nG (aa (bH rfl rfl) (aa (ae (v := (.bool (decide ((a.kind : Int) = 3)))) rfl) (nN (aG hs rfl (fun c8 hs => ?_) (fun c8 hs => ?_)))))
 refine az (aa (ah lN rfl) (aa (aC h 2 rfl aS rfl rfl) (aM vT rfl rfl (fC _ _ h.lt a.n 1 5 _ rfl) ?_)))
 rintro _ w ⟨k9, rfl⟩
 refine ⟨_, rfl, ?_⟩
 replace h := h.grow k9
 refine aa (ae (v := (.bool ((aP a.n 1 5)))) rfl) (aB (au (ak ?_)))
 exact bO (aP a.n 1 5) ⟨h.cn _, hs⟩
 refine nG (aa (bH rfl rfl) (aa (ae (v := (.bool (decide ((a.kind : Int) = 4)))) rfl) (nN (aG hs rfl (fun c10 hs => ?_) (fun c10 hs => ?_)))))
 refine az (aa (ah lN rfl) (aa (aC h 2 rfl aS rfl rfl) (aM vT rfl rfl (fC _ _ h.lt a.n 0 3 _ rfl) ?_)))
 rintro _ w ⟨k11, rfl⟩
 refine ⟨_, rfl, ?_⟩
 replace h := h.grow k11
 refine aa (ae (v := (.bool ((aP a.n 0 3)))) rfl) (aB (au (ak ?_)))
 exact bO (aP a.n 0 3) ⟨h.cn _, hs⟩
 refine nG (aa (bH rfl rfl) (aa (ae (v := (.bool (decide ((a.kind : Int) = 5)))) rfl) (nN (aG hs rfl (fun c12 hs => ?_) (fun c12 hs => ?_)))))
 refine az (aa (ah lN rfl) (aa (aC h 2 rfl aS rfl rfl) (aM vT rfl rfl (fC _ _ h.lt a.n 1 4 _ rfl) ?_)))
 rintro _ w ⟨k13, rfl⟩
 refine ⟨_, rfl, ?_⟩
 replace h := h.grow k13
 refine aa (ae (v := (.bool ((aP a.n 1 4)))) rfl) (aB (au (ak ?_)))
 exact bO (aP a.n 1 4) ⟨h.cn _, hs⟩
 refine nG (aa (bH rfl rfl) (aa (ae (v := (.bool (decide ((a.kind : Int) = 6)))) rfl) (nN (aG hs rfl (fun c14 hs => ?_) (fun c14 hs => ?_)))))
 refine aK (nG (aa (ah lN rfl) (aa (aC h 2 rfl aS rfl rfl) (aa (ag (v := vb) rfl) (aa (bC gH rfl (h.fT 1 rfl)) (aM Kq rfl rfl (pF _ _ h.lt a.n (b.length : Int) _ rfl) ?_))))))
 rintro _ w ⟨k15, rfl⟩
 refine ⟨_, rfl, ?_⟩
 replace h := h.grow k15
 refine aa (fU rfl) (nN (aG hs rfl (fun c16 hs => ?_) (fun c16 hs => ?_)))
 refine nG (aa (ae (v := (I6 5)) rfl) (nR (ax (aD (ax (bE (v := (I6 5)) Tryz.results107 rfl ?_))))))
 obtain rfl := hs
 exact ⟨h.grown, rfl⟩
 refine aF (aj (az (aa (ae (v := (.bool (true))) rfl) (aB (au (ak ?_))))))
 exact bO true ⟨h.cn _, hs⟩
 refine nG (aa (ae (v := (I6 4)) rfl) (nR (aD (ax (bE (v := (I6 4)) Tryz.results107 rfl ?_)))))
 obtain rfl := hs
 exact ⟨h.grown, rfl⟩
def oU (a : Tok) (b : List dO) : Option Int :=
  bif decide ((a.kind : Int) = 3) then some 2 else bif decide ((a.kind : Int) = 4) then some 1 else bif decide ((a.kind : Int) = 6) then (idx b a.n).bind fun x5 => some x5.params else some 0
theorem qd (w0 : World) (M : BS) (hM : ∀ b, M b → b < w0.heap.size) (a : Tok) (vb : Value) (b : List dO) (hb : eY gT w0 BE M vb b) (r : Int) (hs : oU a b = some r) :
    Calls Tryz.prog 108 #[(.agg #[(I6 a.kind), (I6 a.n)]), vb] w0 (fun e w' => Grow w0 w' ∧ e = .returned (.int .i64 r)) := by
 refine aH (args := [(.agg #[(I6 a.kind), (I6 a.n)]), vb]) Tryz.func108 rfl Tryz.ntmps108 (bB rfl) ?_
 have h := SH.init hM
 replace h := h.dR 1 hb aT
 have FB := hb.bG
 refine nG (ql (cs := [(I6 a.kind), (I6 a.n)]) h 2 rfl rfl fun w b1 h => aa (ae (v := (I6 0)) rfl) (nK (aa (ah Bp rfl) (aa (aC h 2 rfl aS rfl rfl) (nN (aI (nG (aa (bH rfl rfl) (aa (ae (v := (.bool (decide ((a.kind : Int) = 3)))) rfl) (nN (aG hs rfl (fun c2 hs => ?_) (fun c2 hs => ?_))))))))))))
 refine nG (aa (ae (v := (I6 2)) rfl) (nR (aD (ax (bE (v := (I6 2)) Tryz.results108 rfl ?_)))))
 obtain rfl := gM hs
 exact ⟨h.grown, rfl⟩
 refine nG (aa (bH rfl rfl) (aa (ae (v := (.bool (decide ((a.kind : Int) = 4)))) rfl) (nN (aG hs rfl (fun c3 hs => ?_) (fun c3 hs => ?_)))))
 refine nG (aa (ae (v := (I6 1)) rfl) (nR (aD (ax (bE (v := (I6 1)) Tryz.results108 rfl ?_)))))
 obtain rfl := gM hs
 exact ⟨h.grown, rfl⟩
 refine nG (aa (bH rfl rfl) (aa (ae (v := (.bool (decide ((a.kind : Int) = 6)))) rfl) (nN (aG hs rfl (fun c4 hs => ?_) (fun c4 hs => ?_)))))
 refine nG (aa (ag (v := vb) rfl) (aa (ah lN rfl) (aa (aC h 2 rfl aS rfl rfl) ?_)))
 obtain ⟨x5, e6, hs⟩ := aJ hs
 obtain ⟨b8, o9, cs10, h, r11, i7⟩ := h.xx 1 3 rfl gH rfl (aU e6).1 (aU e6).2
 obtain ⟨u12, rfl, g13⟩ := qo r11
 replace h := h.bD 4 g13.up
 refine aa (i7 _ _ _ _ _ _ _ _ _ rfl rfl) (aa (ah sO rfl) (aa (dY (k := 0) h 3 rfl aS rfl rfl) (aa (ae (v := (I6 x5.params)) rfl) (nR (aD (ax (bE (v := (I6 x5.params)) Tryz.results108 rfl ?_)))))))
 obtain rfl := gM hs
 exact ⟨h.grown, rfl⟩
 refine aF (au (aj (nG (aa (ae (v := (I6 0)) rfl) (nR (bE (v := (I6 0)) Tryz.results108 rfl ?_))))))
 obtain rfl := gM hs
 exact ⟨h.grown, rfl⟩
def qM (a : List Int) (s : Int × Int) (O4 : Int × Int → Option Int) : Option Int :=
  match s with | (Ce, lJ) => bif decide ((lJ : Int) < (a.length : Int)) then (idx a lJ).bind fun x25 => gD (jg (lJ + 1)) (O4 ((max Ce x25), (lJ + 1))) else some Ce
def slices_Max_int (N : Nat) (a : List Int) : Option Int :=
  bif decide (((a.length : Int) : Int) < 1) then none else (idx a 0).bind fun x2 => again (qM a) N (x2, 1)
theorem Cs (N : Nat) (w0 : World) (M : BS) (hM : ∀ b, M b → b < w0.heap.size) (va : Value) (a : List Int) (ha : eY cu w0 BE M va a) (r : Int) (hs : slices_Max_int N a = some r) :
    Calls Tryz.prog 164 #[va] w0 (fun e w' => Grow w0 w' ∧ e = .returned (.int .i64 r)) := by
 refine aH (args := [va]) Tryz.func164 rfl Tryz.ntmps164 (bB rfl) ?_
 have h := SH.init hM
 replace h := h.dR 1 ha aT
 have tZ := ha.bG
 refine nG (aa (ae (v := (I6 0)) rfl) (nK (aa (ag (v := va) rfl) (aa (bC bP rfl (h.fT 1 rfl)) (aa (dm rfl rfl) (nN (aG hs rfl (fun c1 hs => ?_) (fun c1 hs => ?_))))))))
 cases hs
 refine nS (aa (ag (v := va) rfl) ?_)
 obtain ⟨x2, e3, hs⟩ := aJ hs
 obtain ⟨b5, o6, cs7, h, r8, i4⟩ := h.xx 1 2 rfl bP rfl (aU e3).1 (aU e3).2
 obtain rfl := r8
 refine aa (i4 _ _ _ _ _ _ _ _ _ rfl rfl) (aa (dY (k := 0) h 2 rfl aS rfl rfl) (aa (ae (v := (I6 x2)) rfl) (nK (aa (ae (v := (I6 1)) rfl) (nN (aI (fe (σ := Nat × Int × Int) (inl ([3, 4] ++ rg 12 12)) (fun ⟨m20, Ce, lJ⟩ => [(3, (I6 Ce)), (4, (I6 lJ))]) (fun ⟨m20, Ce, lJ⟩ w => SH w0 M BE w (hset [(1, .sr cu va a)]) ∧ again (qM a) m20 (Ce, lJ) = some r) (fun ⟨m20, Ce, lJ⟩ => m20) ⟨N, x2, 1⟩ ⟨rfl, rfl, trivial⟩ ?_ ?_)))))))
 exact ⟨h.cn _, hs⟩
 rintro ⟨m20, Ce, lJ⟩ w cZ ⟨h, hs⟩
 obtain ⟨V4, YI, YJ⟩ := nC hs
 subst YI
 replace hs := YJ
 generalize O5 : again (qM a) V4 = O4 at hs
 refine aK (nG (aa (ag (v := (I6 lJ)) rfl) (aa (ag (v := va) rfl) (aa (bC bP rfl (h.fT 1 rfl)) (aa (dm rfl rfl) (nN (aG hs rfl (fun c24 hs => ?_) (fun c24 hs => ?_))))))))
 refine aF (aj (aK (aI (az (aa (ag (v := (I6 Ce)) rfl) (aa (ag (v := va) rfl) (aa (ag (v := (I6 lJ)) rfl) ?_)))))))
 obtain ⟨x25, e26, hs⟩ := aJ hs
 obtain ⟨b28, o29, cs30, h, r31, i27⟩ := h.xx 1 3 rfl bP rfl (aU e26).1 (aU e26).2
 obtain rfl := r31
 refine aa (i27 _ _ _ _ _ _ _ _ _ rfl rfl) (aa (dY (k := 0) h 3 rfl aS rfl rfl) (aa (Sm rfl rfl) (aa (ae (v := (I6 ((max Ce x25)))) rfl) (aB (au (aj (az (aa (ag (v := (I6 lJ)) rfl) ?_))))))))
 obtain ⟨a32, hs⟩ := aW hs
 refine aa (bU rfl rfl a32) (aa (ae (v := (I6 ((lJ + 1)))) rfl) (aB (ak ?_)))
 subst O5
 exact iW ⟨V4, (max Ce x25), (lJ + 1)⟩ ⟨h.cn _, hs⟩
 refine nE (aa (ag (v := (I6 Ce)) rfl) (aa (ae (v := (I6 Ce)) rfl) (nR (bE (v := (I6 Ce)) Tryz.results164 rfl ?_))))
 obtain rfl := gM hs
 exact ⟨h.grown, rfl⟩
def jJ (x29 : Tok) (b : List dO) (Bw : List Int → Option Int) (x66 : List Int) : Option Int :=
  (oU x29 b).bind fun Bz => gD (Room 8 x66 [Bz]) (Bw (x66 ++ [Bz]))
def jK (zD : List Int) (MS : List Int → Option Int) (i28 : Int) (x29 : Tok) (b : List dO) (Bw : List Int → Option Int) (Vp : Bool) : Option Int :=
  bif Vp then gD (jg ((zD.length : Int) - 1)) ((sub? zD 0 ((zD.length : Int) - 1)).bind fun x60 => MS (zD.take (((zD.length : Int) - 1)).toNat)) else bif (decide ((0 : Int) < i28) && decide (((zD.length : Int) : Int) = 0)) then some 4 else bif decide ((0 : Int) < i28) then gD (jg ((zD.length : Int) - 1)) ((idx zD ((zD.length : Int) - 1)).bind fun V5 => gD (jg (V5 - 1)) (jJ x29 b Bw (zD.set (((zD.length : Int) - 1)).toNat (V5 - 1)))) else jJ x29 b Bw zD
def jL (i28 : Int) (x29 : Tok) (b : List dO) (Bw : List Int → Option Int) (zD : List Int) (MS : List Int → Option Int) : Option Int :=
  bif decide ((0 : Int) < (zD.length : Int)) then gD (jg ((zD.length : Int) - 1)) ((idx zD ((zD.length : Int) - 1)).bind fun x89 => jK zD MS i28 x29 b Bw (decide ((x89 : Int) = 0))) else jK zD MS i28 x29 b Bw false
def jM (Dh : Bool) : Option Int :=
  bif Dh then some 4 else some 0
def jN (N : Nat) (b : List dO) (c : Int) (i28 : Int) (x29 : Tok) (MU : List Int) (Bw : List Int → Option Int) : Option Int :=
  bif decide (((dG x29 b c) : Int) ≠ 0) then some (dG x29 b c) else again (jL i28 x29 b Bw) N MU
def jO (N : Nat) (a : List Tok) (MU : List Int) : Option Int :=
  bif decide (((a.length : Int) : Int) = 0) then jM true else gD (Room 8 [0] MU) ((slices_Max_int N ([0] ++ MU)).bind fun Ry => jM (decide ((0 : Int) < Ry)))
def jP (x4 : dO) (s : Unit) (Dw : Unit → Option Int) : Option Int :=
  bif (!(aP x4.params 0 3)) then some 3 else Dw ()
def jQ (N : Nat) (b : List dO) (c : Int) (a : List Tok) (s : Unit) : Option Int :=
  eU (jN N b c) (jO N a) 0 a []
def nH (N : Nat) (a : List Tok) (b : List dO) (c : Int) : Option Int :=
  bif decide ((24 : Int) < (a.length : Int)) then some 2 else each jP (jQ N b c a) b ()
theorem qw (N : Nat) (w0 : World) (M : BS) (hM : ∀ b, M b → b < w0.heap.size) (va : Value) (a : List Tok) (ha : eY jw w0 BE M va a) (vb : Value) (b : List dO) (hb : eY gT w0 BE M vb b) (c : Int) (r : Int) (hs : nH N a b c = some r) :
    Calls Tryz.prog 146 #[va, vb, (I6 c)] w0 (fun e w' => Grow w0 w' ∧ e = .returned (.int .i64 r)) := by
 refine aH (args := [va, vb, (I6 c)]) Tryz.func146 rfl Tryz.ntmps146 (bB rfl) ?_
 have h := SH.init hM
 replace h := h.dR 1 ha aT
 replace h := h.dR 2 hb (bA aT)
 have tZ := ha.bG
 have FB := hb.bG
 refine nG (aa (ae (v := (I6 0)) rfl) (nK (aa (ag (v := va) rfl) (aa (bC ji rfl (h.fT 1 rfl)) (aa (iV rfl rfl) (nN (aG hs rfl (fun c1 hs => ?_) (fun c1 hs => ?_))))))))
 refine nG (aa (ae (v := (I6 2)) rfl) (nR (ax (bE (v := (I6 2)) Tryz.results146 rfl ?_))))
 obtain rfl := gM hs
 exact ⟨h.grown, rfl⟩
 refine aF (aj (aK (nG (aa (ag (v := vb) rfl) (aa (bC gH rfl (h.fT 2 rfl)) (aa (ag (v := (I6 0)) rfl) (nN (aI (fe (σ := Nat × Int) (inl ([6, 8] ++ rg 18 9)) (fun ⟨k2, i3⟩ => [(18, (I6 i3))]) (fun ⟨k2, i3⟩ w => SH w0 M BE w (hset [(1, .sr jw va a), (2, .sr gT vb b)]) ∧ i3 = (k2 : Int) ∧ each jP (jQ N b c a) (b.drop k2) () = some r) (fun ⟨k2, i3⟩ => b.length - k2) ⟨0, 0⟩ ⟨rfl, trivial⟩ ?_ ?_)))))))))
 exact ⟨h.cn _, rfl, hs⟩
 rintro ⟨k2, i3⟩ w cZ ⟨h, hik, hs⟩
 refine nG ?_
 refine aa (dm rfl rfl) (nN ?_)
 refine aK (gF rfl (fun e7 => ?_) (fun e7 => ?_))
 refine aF (aj ?_)
 obtain ⟨x4, Uk, Ul⟩ := fH (hik ▸ e7)
 rw [Ul, cz] at hs
 generalize Ep : each jP (jQ N b c a) (b.drop (k2 + 1)) = Dw at hs
 have O6 := fK ((h.fT 2 rfl)).bG hik e7
 refine aK (aI (nG ?_))
 obtain ⟨b10, YK, Um, h, Un, i9⟩ := h.xx 2 3 rfl gH rfl (ic hik) (fJ hik Uk)
 obtain ⟨Gb, rfl, g15⟩ := qo Un
 replace h := h.bD 4 g15.up
 refine aa (i9 _ _ _ _ _ _ _ _ _ rfl rfl) (aa (iH (k := 0) (vs := [(I6 x4.params), (I6 x4.locals), Gb]) h 3 rfl kI rfl rfl rfl (bB rfl)) (bL h 5 kI fun w b16 h => dS (vs := [(I6 x4.params), (I6 x4.locals), Gb]) h 5 [(I6 x4.params), (I6 x4.locals), Gb] rfl kI rfl rfl rfl rfl rfl (ai rfl (ai rfl (ai (h.fq 4 rfl).one aZ))) fun w h => nJ (aa (ah sO rfl) (aa (aC h 5 rfl aS rfl rfl) (aM vT rfl rfl (fC _ _ h.lt x4.params 0 3 _ rfl) ?_)))))
 rintro _ w ⟨k17, rfl⟩
 refine ⟨_, rfl, ?_⟩
 replace h := h.grow k17
 refine aa (fU rfl) (nN (aG hs rfl (fun c18 hs => ?_) (fun c18 hs => ?_)))
 refine nG (aa (ae (v := (I6 3)) rfl) (nR (aD (ax (ax (aD (ax (bE (v := (I6 3)) Tryz.results146 rfl ?_))))))))
 obtain rfl := gM hs
 exact ⟨h.grown, rfl⟩
 refine aF (au (aj (az (aa (bU rfl rfl O6) (aa (ag (v := (I6 ((i3 + 1)))) rfl) (aB (ak ?_)))))))
 subst Ep
 exact iW ⟨k2 + 1, i3 + 1⟩ ⟨h.cn _, by omega, hs⟩ (by have := nX e7; dsimp only; omega)
 rw [fI (hik ▸ e7), fw] at hs
 refine nE (aa (ae (v := (.slice none 0 0)) rfl) (nK (aa (ag (v := va) rfl) (aa (bC ji rfl (h.fT 1 rfl)) (aa (ag (v := (I6 0)) rfl) (nN (aI ?_)))))))
 replace h := h.vS (R := cu) (E := 3) 9
 refine fe (σ := Nat × Int × Value × List Int) (inl ([6, 9, 10, 11, 12] ++ rg 29 53)) (fun ⟨k27, i28, v25, MU⟩ => [(9, v25), (29, (I6 i28))]) (fun ⟨k27, i28, v25, MU⟩ w => SH w0 M BE w (hset [(1, .sr jw va a), (2, .sr gT vb b), (9, .own cu 3 v25 MU)]) ∧ i28 = (k27 : Int) ∧ eU (jN N b c) (jO N a) i28 (a.drop k27) MU = some r) (fun ⟨k27, i28, v25, MU⟩ => a.length - k27) ⟨0, 0, (.slice none 0 0), []⟩ ⟨rfl, rfl, trivial⟩ ?_ ?_
 exact ⟨h.cn _, rfl, hs⟩
 rintro ⟨k27, i28, v25, MU⟩ w cZ ⟨h, hik, hs⟩
 refine nG ?_
 refine aa (dm rfl rfl) (nN ?_)
 refine aK (gF rfl (fun e32 => ?_) (fun e32 => ?_))
 refine aF (aj ?_)
 obtain ⟨x29, YL, YM⟩ := fH (hik ▸ e32)
 rw [YM, jh] at hs
 generalize V6 : eU (jN N b c) (jO N a) (i28 + 1) (a.drop (k27 + 1)) = Bw at hs
 have YN := fK ((h.fT 1 rfl)).bG hik e32
 refine aK (aI (nG (aa (ag (v := (I6 i28)) rfl) ?_)))
 obtain ⟨b35, o36, YO, h, YP, i34⟩ := h.xx 1 10 rfl ji rfl (ic hik) (fJ hik YL)
 obtain rfl := YP
 refine aa (i34 _ _ _ _ _ _ _ _ _ rfl rfl) (aa (iH (k := 0) (vs := [(I6 x29.kind), (I6 x29.n)]) h 10 rfl je rfl rfl rfl (bB rfl)) (bL h 11 je fun w Ya h => aa (ae (v := (I6 i28)) rfl) (dS (vs := [(I6 x29.kind), (I6 x29.n)]) h 11 [(I6 x29.kind), (I6 x29.n)] rfl je rfl rfl rfl rfl rfl (ai rfl (ai rfl aZ)) fun w h => nK (aa (fu (vs := [(I6 x29.kind), (I6 x29.n)]) h 11 rfl je rfl rfl rfl) (aa (ag (v := vb) rfl) (aa (ag (v := (I6 c)) rfl) (aM LY rfl rfl (qL _ _ h.lt x29 vb b (h.fT 2 rfl) c _ rfl) ?_)))))))
 rintro _ w ⟨k40, rfl⟩
 refine ⟨_, rfl, ?_⟩
 replace h := h.grow k40
 refine aa (ae (v := (I6 ((dG x29 b c)))) rfl) (nJ (aa (ag (v := (I6 ((dG x29 b c)))) rfl) (aa (iK rfl rfl) (nN (aG hs rfl (fun Uo hs => ?_) (fun Uo hs => ?_))))))
 refine nG (aa (ag (v := (I6 ((dG x29 b c)))) rfl) (aa (ae (v := (I6 ((dG x29 b c)))) rfl) (nR (ax (aD (ax (ax (aD (ax (bE (v := (I6 ((dG x29 b c)))) Tryz.results146 rfl ?_))))))))))
 obtain rfl := gM hs
 exact ⟨h.grown, rfl⟩
 refine aF (aj (aK (aI (fe (σ := Nat × Value × List Int) (inl ([9] ++ rg 41 17)) (fun ⟨V7, v48, zD⟩ => [(9, v48)]) (fun ⟨V7, v48, zD⟩ w => SH w0 M BE w (hset [(1, .sr jw va a), (2, .sr gT vb b), (9, .own cu 3 v48 zD), (11, .blk Ya [(I6 x29.kind), (I6 x29.n)])]) ∧ again (jL i28 x29 b Bw) V7 zD = some r) (fun ⟨V7, v48, zD⟩ => V7) ⟨N, v25, MU⟩ ⟨rfl, trivial⟩ ?_ ?_))))
 exact ⟨h.cn _, hs⟩
 rintro ⟨V7, v48, zD⟩ w cZ ⟨h, hs⟩
 obtain ⟨V8, YQ, YR⟩ := nC hs
 subst YQ
 replace hs := YR
 generalize V9 : again (jL i28 x29 b Bw) V8 = MS at hs
 refine aK (bQ (σ := Bool) (inl (rg 41 12)) (fun Vp => [(52, (.bool (Vp)))]) (fun Vp w => SH w0 M BE w (hset [(1, .sr jw va a), (2, .sr gT vb b), (9, .own cu 3 v48 zD), (11, .blk Ya [(I6 x29.kind), (I6 x29.n)])]) ∧ jK zD MS i28 x29 b Bw Vp = some r) ?_ ?_)
 rintro Vp w cZ ⟨h, hs⟩
 refine aG hs rfl (fun Er hs => ?_) (fun Er hs => ?_)
 refine aF (aj (aI (az (aa (ag (v := v48) rfl) (aa (ag (v := v48) rfl) (aa (bC bP rfl (h.dE 9 rfl)) ?_))))))
 obtain ⟨a59, hs⟩ := aW hs
 refine aa (sG rfl rfl a59) ?_
 obtain ⟨x60, e61, hs⟩ := aJ hs
 obtain ⟨e64, e64a, YS, YT⟩ := IC e61
 obtain ⟨Vq, h, i63⟩ := h.Yo 9 rfl bP rfl YS YT
 refine aa (i63 _ _ _ _ _ _ _ _ _ _ rfl (.inl ⟨rfl, rfl⟩) (.inr (congrArg some rfl))) (aa (ae (v := Vq) rfl) (aB (au (ak ?_))))
 subst V9
 exact iW ⟨V8, Vq, (zD.take (((zD.length : Int) - 1)).toNat)⟩ ⟨h.cn _, hs⟩
 refine jd (bK (bK (eF (aj (aK (nG (aa (ag (v := (I6 i28)) rfl) (aa (iV rfl rfl) (aa (ag (v := (.bool (decide ((0 : Int) < i28)))) rfl) (aA rfl rfl (fun q => ag (v := v48) rfl) (aA rfl rfl (fun q => bC bP (bZ q) (h.dE 9 rfl)) (aA rfl rfl (fun q => bH (bZ q) rfl) (aa (gG rfl rfl mX) (nN (aG hs rfl (fun Wd hs => ?_) (fun Wd hs => ?_))))))))))))))))
 refine nG (aa (ae (v := (I6 4)) rfl) (nR (ax (aD (ax (ax (aD (ax (bE (v := (I6 4)) Tryz.results146 rfl ?_)))))))))
 obtain rfl := gM hs
 exact ⟨h.grown, rfl⟩
 refine aF (aj (bQ (σ := List Int) (inl (rg 65 10)) (fun x66 => []) (fun x66 w => SH w0 M BE w (hset [(1, .sr jw va a), (2, .sr gT vb b), (9, .own cu 3 v48 x66), (11, .blk Ya [(I6 x29.kind), (I6 x29.n)])]) ∧ jJ x29 b Bw x66 = some r) ?_ ?_))
 rintro x66 w cZ ⟨h, hs⟩
 refine az (aa (ag (v := v48) rfl) (aa (fu (vs := [(I6 x29.kind), (I6 x29.n)]) h 11 rfl je rfl rfl rfl) (aa (ag (v := vb) rfl) ?_)))
 obtain ⟨Bz, Rz, hs⟩ := aJ hs
 refine aM He rfl rfl (qd _ _ h.lt x29 vb b (h.fT 2 rfl) _ Rz) ?_
 rintro _ w ⟨k69, rfl⟩
 refine ⟨_, rfl, ?_⟩
 replace h := h.grow k69
 refine pK (R := cu) (vs := [(I6 Bz)]) (xs := [Bz]) h 13 fM rfl rfl rfl ⟨rfl, trivial⟩ rfl fun w u70 h => ?_
 obtain ⟨a71, hs⟩ := aW hs
 refine jm (R := cu) (m := [Bz]) h 9 rfl (h.dE 13 rfl) fM rfl rfl rfl a71.1 a71.2 fun w u72 h => aa (ae (v := u72) rfl) (aB (au (aj (az (aa (bU rfl rfl YN) (aa (ag (v := (I6 ((i28 + 1)))) rfl) (aB (ak ?_))))))))
 subst V6
 exact iW ⟨k27 + 1, i28 + 1, u72, (x66 ++ [Bz])⟩ ⟨h.cn _, by omega, hs⟩ (by have := nX e32; dsimp only; omega)
 refine nG (aa (ag (v := (I6 i28)) rfl) (aa (iV rfl rfl) (nN (aG hs rfl (fun YU hs => ?_) (fun YU hs => ?_)))))
 refine az (aa (ag (v := v48) rfl) (aa (ag (v := v48) rfl) (aa (bC bP rfl (h.dE 9 rfl)) ?_)))
 obtain ⟨a74, hs⟩ := aW hs
 refine aa (sG rfl rfl a74) ?_
 obtain ⟨V5, Vr, hs⟩ := aJ hs
 obtain ⟨b78, q79, i77⟩ := h.II 9 rfl bP rfl (aU Vr).1 (aU Vr).2
 refine aa (i77 _ _ _ _ _ _ _ _ _ rfl rfl) ?_
 obtain ⟨cs80, m81, r82⟩ := h.NT 9 rfl q79 (aU Vr).2
 obtain rfl := r82
 refine aa (CZ (k := 0) m81 aS rfl rfl) ?_
 obtain ⟨a83, hs⟩ := aW hs
 refine aa (sG rfl rfl a83) ?_
 obtain ⟨FC, q86, i84⟩ := h.II 9 rfl bP rfl (aU Vr).1 (aU Vr).2
 refine aa (i84 _ _ _ _ _ _ _ _ _ rfl rfl) (Oj (off := 0) (a' := (V5 - 1)) h 9 rfl q86 rfl (aU Vr).2 aS rfl rfl rfl rfl (fun cs hq => set1 rfl hq rfl rfl) fun w h => aB (ak ?_))
 exact bO (zD.set (((zD.length : Int) - 1)).toNat (V5 - 1)) ⟨h.cn _, hs⟩
 refine aF (ak ?_)
 exact bO zD ⟨h.cn _, hs⟩
 refine az (aa (ag (v := v48) rfl) (aa (bC bP rfl (h.dE 9 rfl)) (aa (iV rfl rfl) (aa (ag (v := (.bool (decide ((0 : Int) < (zD.length : Int))))) rfl) (mi (b := decide ((0 : Int) < (zD.length : Int))) hs (fun c87 hs => ?_) (fun c87 hs => ?_))))))
 refine dB rfl (cB c87) (aa (ag (v := v48) rfl) (dB rfl (cB c87) (aa (ag (v := v48) rfl) (dB rfl (cB c87) (aa (bC bP rfl (h.dE 9 rfl)) (dB rfl (cB c87) ?_))))))
 obtain ⟨a88, hs⟩ := aW hs
 refine aa (sG rfl rfl a88) (dB rfl (cB c87) ?_)
 obtain ⟨x89, We, hs⟩ := aJ hs
 obtain ⟨b92, q93, i91⟩ := h.II 9 rfl bP rfl (aU We).1 (aU We).2
 refine aa (i91 _ _ _ _ _ _ _ _ _ rfl rfl) (dB rfl (cB c87) ?_)
 obtain ⟨cs94, m95, r96⟩ := h.NT 9 rfl q93 (aU We).2
 obtain rfl := r96
 refine aa (CZ (k := 0) m95 aS rfl rfl) (dB rfl (cB c87) (aa (bH rfl rfl) (aa (fo (b := true) (v := (.bool (decide ((x89 : Int) = 0)))) (cB c87) rfl) (aB (ak ?_)))))
 exact bO (decide ((x89 : Int) = 0)) ⟨h.cn _, hs⟩
 refine uZ rfl (cB c87) rfl (uZ rfl (cB c87) rfl (uZ rfl (cB c87) rfl (uZ rfl (cB c87) rfl (uZ rfl (cB c87) rfl (uZ rfl (cB c87) rfl (uZ rfl (cB c87) rfl (aa (fo (b := false) (v := (.bool (false))) (cB c87) rfl) (aB (ak ?_)))))))))
 exact bO false ⟨h.cn _, hs⟩
 rw [fI (hik ▸ e32), oO] at hs
 refine jd (bK (bK (eF (aj (aK (bQ (σ := Bool) (inl (rg 82 10)) (fun Dh => [(91, (.bool (Dh)))]) (fun Dh w => SH w0 M BE w (hset []) ∧ jM Dh = some r) ?_ ?_))))))
 rintro Dh w cZ ⟨h, hs⟩
 refine aG hs rfl (fun c98 hs => ?_) (fun c98 hs => ?_)
 refine nG (aa (ae (v := (I6 4)) rfl) (nR (ax (bE (v := (I6 4)) Tryz.results146 rfl ?_))))
 obtain rfl := gM hs
 exact ⟨h.grown, rfl⟩
 refine nS (aa (ae (v := (I6 0)) rfl) (nR (bE (v := (I6 0)) Tryz.results146 rfl ?_)))
 obtain rfl := gM hs
 exact ⟨h.grown, rfl⟩
 refine az (aa (ag (v := va) rfl) (aa (bC ji rfl (h.fT 1 rfl)) (aa (bH rfl rfl) (aa (ag (v := (.bool (decide (((a.length : Int) : Int) = 0)))) rfl) (mi (b := decide (((a.length : Int) : Int) = 0)) hs (fun MV hs => ?_) (fun MV hs => ?_))))))
 refine NV rfl (cB MV) rfl (NV rfl (cB MV) rfl (NV rfl (cB MV) rfl (NV rfl (cB MV) rfl (NV rfl (cB MV) rfl (aa (fo (b := true) (v := (.bool (true))) (cB MV) rfl) (aB (ak ?_)))))))
 exact bO true ⟨h.cn _, hs⟩
 refine dB rfl (cB MV) (pK (R := cu) (vs := [(I6 0)]) (xs := [0]) h 14 fM rfl rfl rfl ⟨rfl, trivial⟩ rfl fun w Uq h => dB rfl (cB MV) (aa (ag (v := v25) rfl) (dB rfl (cB MV) ?_)))
 obtain ⟨RA, hs⟩ := aW hs
 refine jm (R := cu) (m := MU) h 14 rfl (h.dE 9 rfl) fM rfl rfl rfl RA.1 RA.2 fun w YV h => dB rfl (cB MV) ?_
 obtain ⟨Ry, RB, hs⟩ := aJ hs
 refine aM Rw rfl rfl (Cs N _ _ h.lt YV ([0] ++ MU) (h.dE 14 rfl) _ RB) ?_
 rintro _ w ⟨YW, rfl⟩
 refine ⟨_, rfl, ?_⟩
 replace h := h.grow YW
 refine dB rfl (cB MV) (aa (iV rfl rfl) (aa (fo (b := false) (v := (.bool (decide ((0 : Int) < Ry)))) (cB MV) rfl) (aB (ak ?_))))
 exact bO (decide ((0 : Int) < Ry)) ⟨h.cn _, hs⟩
def aQ (jc : Str) : Bool :=
  (hasB jc 78)
theorem sQ (w0 : World) (M : BS) (hM : ∀ b, M b → b < w0.heap.size) (jc : Str) (q0 : Nat) (hq0 : ∃ E, w0.heap[q0]? = some (.cells #[(aN jc)] E (0, 0))) (r : Bool) (hs : aQ jc = r) :
    Calls Tryz.prog 144 #[(aN [78]), (.pointer (some ⟨q0, 0, none⟩))] w0 (fun e w' => Grow w0 w' ∧ e = .returned (.bool r)) := by
 refine aH (args := [(aN [78]), (.pointer (some ⟨q0, 0, none⟩))]) Tryz.func144 rfl Tryz.ntmps144 (bB rfl) ?_
 have h := SH.init hM
 replace h := h.FX 1 (cs := [(aN jc)]) hq0 aT
 refine nG (aa (ae (v := (.bool (false))) rfl) (nJ (aa (dY (k := 0) h 1 rfl wK rfl rfl) (aa (ag (v := (aN [78])) rfl) (aM zC rfl rfl (iM _ _ h.lt jc 78 _ rfl) ?_)))))
 rintro _ w ⟨k1, rfl⟩
 refine ⟨_, rfl, ?_⟩
 replace h := h.grow k1
 refine aa (ae (v := (.bool ((hasB jc 78)))) rfl) (nR (bE (v := (.bool ((hasB jc 78)))) Tryz.results144 rfl ?_))
 obtain rfl := hs
 exact ⟨h.grown, rfl⟩
def aX (jc : Str) : Bool :=
  (hasB jc 69)
theorem sS (w0 : World) (M : BS) (hM : ∀ b, M b → b < w0.heap.size) (jc : Str) (q0 : Nat) (hq0 : ∃ E, w0.heap[q0]? = some (.cells #[(aN jc)] E (0, 0))) (r : Bool) (hs : aX jc = r) :
    Calls Tryz.prog 144 #[(aN [69]), (.pointer (some ⟨q0, 0, none⟩))] w0 (fun e w' => Grow w0 w' ∧ e = .returned (.bool r)) := by
 refine aH (args := [(aN [69]), (.pointer (some ⟨q0, 0, none⟩))]) Tryz.func144 rfl Tryz.ntmps144 (bB rfl) ?_
 have h := SH.init hM
 replace h := h.FX 1 (cs := [(aN jc)]) hq0 aT
 refine nG (aa (ae (v := (.bool (false))) rfl) (nJ (aa (dY (k := 0) h 1 rfl wK rfl rfl) (aa (ag (v := (aN [69])) rfl) (aM zC rfl rfl (iM _ _ h.lt jc 69 _ rfl) ?_)))))
 rintro _ w ⟨k1, rfl⟩
 refine ⟨_, rfl, ?_⟩
 replace h := h.grow k1
 refine aa (ae (v := (.bool ((hasB jc 69)))) rfl) (nR (bE (v := (.bool ((hasB jc 69)))) Tryz.results144 rfl ?_))
 obtain rfl := hs
 exact ⟨h.grown, rfl⟩
def bI (jc : Str) : Bool :=
  (hasB jc 70)
theorem mg (w0 : World) (M : BS) (hM : ∀ b, M b → b < w0.heap.size) (jc : Str) (q0 : Nat) (hq0 : ∃ E, w0.heap[q0]? = some (.cells #[(aN jc)] E (0, 0))) (r : Bool) (hs : bI jc = r) :
    Calls Tryz.prog 144 #[(aN [70]), (.pointer (some ⟨q0, 0, none⟩))] w0 (fun e w' => Grow w0 w' ∧ e = .returned (.bool r)) := by
 refine aH (args := [(aN [70]), (.pointer (some ⟨q0, 0, none⟩))]) Tryz.func144 rfl Tryz.ntmps144 (bB rfl) ?_
 have h := SH.init hM
 replace h := h.FX 1 (cs := [(aN jc)]) hq0 aT
 refine nG (aa (ae (v := (.bool (false))) rfl) (nJ (aa (dY (k := 0) h 1 rfl wK rfl rfl) (aa (ag (v := (aN [70])) rfl) (aM zC rfl rfl (iM _ _ h.lt jc 70 _ rfl) ?_)))))
 rintro _ w ⟨k1, rfl⟩
 refine ⟨_, rfl, ?_⟩
 replace h := h.grow k1
 refine aa (ae (v := (.bool ((hasB jc 70)))) rfl) (nR (bE (v := (.bool ((hasB jc 70)))) Tryz.results144 rfl ?_))
 obtain rfl := hs
 exact ⟨h.grown, rfl⟩
def dW (jc : Str) : Bool :=
  (hasB jc 65)
theorem sU (w0 : World) (M : BS) (hM : ∀ b, M b → b < w0.heap.size) (jc : Str) (q0 : Nat) (hq0 : ∃ E, w0.heap[q0]? = some (.cells #[(aN jc)] E (0, 0))) (r : Bool) (hs : dW jc = r) :
    Calls Tryz.prog 144 #[(aN [65]), (.pointer (some ⟨q0, 0, none⟩))] w0 (fun e w' => Grow w0 w' ∧ e = .returned (.bool r)) := by
 refine aH (args := [(aN [65]), (.pointer (some ⟨q0, 0, none⟩))]) Tryz.func144 rfl Tryz.ntmps144 (bB rfl) ?_
 have h := SH.init hM
 replace h := h.FX 1 (cs := [(aN jc)]) hq0 aT
 refine nG (aa (ae (v := (.bool (false))) rfl) (nJ (aa (dY (k := 0) h 1 rfl wK rfl rfl) (aa (ag (v := (aN [65])) rfl) (aM zC rfl rfl (iM _ _ h.lt jc 65 _ rfl) ?_)))))
 rintro _ w ⟨k1, rfl⟩
 refine ⟨_, rfl, ?_⟩
 replace h := h.grow k1
 refine aa (ae (v := (.bool ((hasB jc 65)))) rfl) (nR (bE (v := (.bool ((hasB jc 65)))) Tryz.results144 rfl ?_))
 obtain rfl := hs
 exact ⟨h.grown, rfl⟩
def nV (jc : Str) : Bool :=
  (hasB jc 66)
theorem sV (w0 : World) (M : BS) (hM : ∀ b, M b → b < w0.heap.size) (jc : Str) (q0 : Nat) (hq0 : ∃ E, w0.heap[q0]? = some (.cells #[(aN jc)] E (0, 0))) (r : Bool) (hs : nV jc = r) :
    Calls Tryz.prog 144 #[(aN [66]), (.pointer (some ⟨q0, 0, none⟩))] w0 (fun e w' => Grow w0 w' ∧ e = .returned (.bool r)) := by
 refine aH (args := [(aN [66]), (.pointer (some ⟨q0, 0, none⟩))]) Tryz.func144 rfl Tryz.ntmps144 (bB rfl) ?_
 have h := SH.init hM
 replace h := h.FX 1 (cs := [(aN jc)]) hq0 aT
 refine nG (aa (ae (v := (.bool (false))) rfl) (nJ (aa (dY (k := 0) h 1 rfl wK rfl rfl) (aa (ag (v := (aN [66])) rfl) (aM zC rfl rfl (iM _ _ h.lt jc 66 _ rfl) ?_)))))
 rintro _ w ⟨k1, rfl⟩
 refine ⟨_, rfl, ?_⟩
 replace h := h.grow k1
 refine aa (ae (v := (.bool ((hasB jc 66)))) rfl) (nR (bE (v := (.bool ((hasB jc 66)))) Tryz.results144 rfl ?_))
 obtain rfl := hs
 exact ⟨h.grown, rfl⟩
def jR (FD : Unit → Option Int) (qf : Int) : Option Int :=
  bif decide ((qf : Int) ≠ 0) then some qf else FD ()
def jS (F0 : List aR → List dO → Int → Option Int) (x3 : aR) (b : List dO) (c : Int) (FD : Unit → Option Int) (xk : Int) : Option Int :=
  bif decide ((xk : Int) = 0) then (F0 x3.b b c).bind fun y39 => jR FD y39 else jR FD xk
def jT (F0 : List aR → List dO → Int → Option Int) (x3 : aR) (a : List aR) (b : List dO) (c : Int) (FD : Unit → Option Int) (x34 : Int) : Option Int :=
  bif decide ((x34 : Int) = 0) then (F0 x3.a b c).bind fun xL => jS F0 x3 b c FD xL else jS F0 x3 b c FD x34
def jU (N : Nat) (F0 : List aR → List dO → Int → Option Int) (x3 : aR) (b : List dO) (c : Int) (a : List aR) (FD : Unit → Option Int) (A7 : Int) : Option Int :=
  bif (decide ((A7 : Int) = 0) && (bI ((lk x3.kind ([(1, [78, 69]), (2, [78, 69, 70]), (3, [69]), (4, []), (5, [69]), (6, [69, 65, 66]), (7, [69, 65]), (8, [69])] : List (Int × Str))).getD []))) then (nH N x3.f b c).bind fun xm => jT F0 x3 a b c FD xm else jT F0 x3 a b c FD A7
def jV (N : Nat) (F0 : List aR → List dO → Int → Option Int) (a : List aR) (b : List dO) (c : Int) (x3 : aR) (s : Unit) (FD : Unit → Option Int) : Option Int :=
  bif ((((((!(lk x3.kind ([(1, [78, 69]), (2, [78, 69, 70]), (3, [69]), (4, []), (5, [69]), (6, [69, 65, 66]), (7, [69, 65]), (8, [69])] : List (Int × Str))).isSome) || (decide ((x3.n : Int) ≠ 0) && (!(aQ ((lk x3.kind ([(1, [78, 69]), (2, [78, 69, 70]), (3, [69]), (4, []), (5, [69]), (6, [69, 65, 66]), (7, [69, 65]), (8, [69])] : List (Int × Str))).getD []))))) || (decide ((0 : Int) < (x3.e.length : Int)) && (!(aX ((lk x3.kind ([(1, [78, 69]), (2, [78, 69, 70]), (3, [69]), (4, []), (5, [69]), (6, [69, 65, 66]), (7, [69, 65]), (8, [69])] : List (Int × Str))).getD []))))) || (decide ((0 : Int) < (x3.f.length : Int)) && (!(bI ((lk x3.kind ([(1, [78, 69]), (2, [78, 69, 70]), (3, [69]), (4, []), (5, [69]), (6, [69, 65, 66]), (7, [69, 65]), (8, [69])] : List (Int × Str))).getD []))))) || (decide ((0 : Int) < (x3.a.length : Int)) && (!(dW ((lk x3.kind ([(1, [78, 69]), (2, [78, 69, 70]), (3, [69]), (4, []), (5, [69]), (6, [69, 65, 66]), (7, [69, 65]), (8, [69])] : List (Int × Str))).getD []))))) || (decide ((0 : Int) < (x3.b.length : Int)) && (!(nV ((lk x3.kind ([(1, [78, 69]), (2, [78, 69, 70]), (3, [69]), (4, []), (5, [69]), (6, [69, 65, 66]), (7, [69, 65]), (8, [69])] : List (Int × Str))).getD []))))) then some 4 else bif ((decide ((x3.kind : Int) = 1) && (!(aL x3.n c))) || (decide ((x3.kind : Int) = 2) && (!(aP x3.n 0 3)))) then some 3 else bif (hasB ((lk x3.kind ([(1, [78, 69]), (2, [78, 69, 70]), (3, [69]), (4, []), (5, [69]), (6, [69, 65, 66]), (7, [69, 65]), (8, [69])] : List (Int × Str))).getD []) 69) then (nH N x3.e b c).bind fun Ja => jU N F0 x3 b c a FD Ja else jU N F0 x3 b c a FD 0
def jW (s : Unit) : Option Int :=
  some 0
def pO (N : Nat) (F0 : List aR → List dO → Int → Option Int) (a : List aR) (b : List dO) (c : Int) : Option Int :=
  each (jV N F0 a b c) jW a ()
def il : Nat → List aR → List dO → Int → Option Int
  | 0 => fun _ _ _ => none
  | N + 1 => pO N (il N)
theorem vV : ∀ (N : Nat) (w0 : World) (M : BS) (hM : ∀ b, M b → b < w0.heap.size) (va : Value) (a : List aR) (ha : eY dJ w0 BE M va a) (vb : Value) (b : List dO) (hb : eY gT w0 BE M vb b) (c : Int) (r : Int) (hs : il N a b c = some r),
    Calls Tryz.prog 129 #[va, vb, (I6 c)] w0 (fun e w' => Grow w0 w' ∧ e = .returned (.int .i64 r)) := by
 intro N
 induction N with
 | zero => intro w0 M hM va a ha vb b hb c r hs; cases hs
 | succ N ih =>
 intro w0 M hM va a ha vb b hb c r hs
 replace hs : pO N (il N) a b c = some r := hs
 generalize il N = F0 at hs ih
 refine aH (args := [va, vb, (I6 c)]) Tryz.func129 rfl Tryz.ntmps129 (bB rfl) ?_
 have h := SH.init hM
 replace h := h.dR 1 ha aT
 replace h := h.dR 2 hb (bA aT)
 have tZ := ha.bG
 have FB := hb.bG
 refine nG (aa (ae (v := (I6 0)) rfl) (nK (aa (ag (v := va) rfl) (aa (bC jI rfl (h.fT 1 rfl)) (aa (ag (v := (I6 0)) rfl) (nN (aI (fe (σ := Nat × Int) (inl ([6, 8, 9, 10, 11, 12] ++ rg 15 126)) (fun ⟨k1, i2⟩ => [(15, (I6 i2))]) (fun ⟨k1, i2⟩ w => SH w0 M BE w (hset [(1, .sr dJ va a), (2, .sr gT vb b)]) ∧ i2 = (k1 : Int) ∧ each (jV N F0 a b c) jW (a.drop k1) () = some r) (fun ⟨k1, i2⟩ => a.length - k1) ⟨0, 0⟩ ⟨rfl, trivial⟩ ?_ ?_))))))))
 exact ⟨h.cn _, rfl, hs⟩
 rintro ⟨k1, i2⟩ w cZ ⟨h, hik, hs⟩
 refine nG ?_
 refine aa (dm rfl rfl) (nN ?_)
 refine aK (gF rfl (fun e6 => ?_) (fun e6 => ?_))
 refine aF (aj ?_)
 obtain ⟨x3, YX, YY⟩ := fH (hik ▸ e6)
 rw [YY, cz] at hs
 generalize Ur : each (jV N F0 a b c) jW (a.drop (k1 + 1)) = FD at hs
 have YZ := fK ((h.fT 1 rfl)).bG hik e6
 refine aK (aI (nG ?_))
 obtain ⟨b9, o10, Y0, h, Y1, i8⟩ := h.xx 1 3 rfl jI rfl (ic hik) (fJ hik YX)
 obtain ⟨O7, A8, Dx, Jb, rfl, g14, g16, g18, g20⟩ := xz Y1
 replace h := h.bD 4 g14.up
 replace h := h.bD 5 g16.up.up
 replace h := h.bD 6 g18.up.up.up
 replace h := h.bD 7 g20.up.up.up.up
 refine aa (i8 _ _ _ _ _ _ _ _ _ rfl rfl) (aa (iH (k := 0) (vs := [(I6 x3.kind), (I6 x3.n), O7, A8, Dx, Jb]) h 3 rfl mr rfl rfl rfl (bB rfl)) (bL h 8 mr fun w FE h => dS (vs := [(I6 x3.kind), (I6 x3.n), O7, A8, Dx, Jb]) h 8 [(I6 x3.kind), (I6 x3.n), O7, A8, Dx, Jb] rfl mr rfl rfl rfl rfl rfl (ai rfl (ai rfl (ai (h.fq 4 rfl).one (ai (h.fq 5 rfl).one (ai (h.fq 6 rfl).one (ai (h.fq 7 rfl).one aZ)))))) fun w h => nJ (zo h 9 fun w b22 h => lL (nT := [(1, (aN [78, 69]))]) h 9 rfl jH rfl rfl rfl rfl fun w h => lL (nT := [(1, (aN [78, 69])), (2, (aN [78, 69, 70]))]) h 9 rfl jH rfl rfl rfl rfl fun w h => lL (nT := [(1, (aN [78, 69])), (2, (aN [78, 69, 70])), (3, (aN [69]))]) h 9 rfl jH rfl rfl rfl rfl fun w h => lL (nT := [(1, (aN [78, 69])), (2, (aN [78, 69, 70])), (3, (aN [69])), (4, (aN []))]) h 9 rfl jH rfl rfl rfl rfl fun w h => lL (nT := [(1, (aN [78, 69])), (2, (aN [78, 69, 70])), (3, (aN [69])), (4, (aN [])), (5, (aN [69]))]) h 9 rfl jH rfl rfl rfl rfl fun w h => lL (nT := [(1, (aN [78, 69])), (2, (aN [78, 69, 70])), (3, (aN [69])), (4, (aN [])), (5, (aN [69])), (6, (aN [69, 65, 66]))]) h 9 rfl jH rfl rfl rfl rfl fun w h => lL (nT := [(1, (aN [78, 69])), (2, (aN [78, 69, 70])), (3, (aN [69])), (4, (aN [])), (5, (aN [69])), (6, (aN [69, 65, 66])), (7, (aN [69, 65]))]) h 9 rfl jH rfl rfl rfl rfl fun w h => lL (nT := [(1, (aN [78, 69])), (2, (aN [78, 69, 70])), (3, (aN [69])), (4, (aN [])), (5, (aN [69])), (6, (aN [69, 65, 66])), (7, (aN [69, 65])), (8, (aN [69]))]) h 9 rfl jH rfl rfl rfl rfl fun w h => aa (ag (v := (.map (some b22))) rfl) (aa (ah iZ rfl) (aa (aC h 8 rfl aS rfl rfl) (aa (VS (f := aN) (zz := []) ([(1, [78, 69]), (2, [78, 69, 70]), (3, [69]), (4, []), (5, [69]), (6, [69, 65, 66]), (7, [69, 65]), (8, [69])] : List (Int × Str)) h 9 rfl jH rfl rfl rfl rfl) (aa (ag (v := (.tuple #[(aN ((lk x3.kind ([(1, [78, 69]), (2, [78, 69, 70]), (3, [69]), (4, []), (5, [69]), (6, [69, 65, 66]), (7, [69, 65]), (8, [69])] : List (Int × Str))).getD [])), (.bool ((lk x3.kind ([(1, [78, 69]), (2, [78, 69, 70]), (3, [69]), (4, []), (5, [69]), (6, [69, 65, 66]), (7, [69, 65]), (8, [69])] : List (Int × Str))).isSome))])) rfl) (aa (bz rfl rfl) (aa (bz rfl rfl) ?_)))))))))
 refine nZ h 10 wK fun w Aa h => dV h 10 [(aN ((lk x3.kind ([(1, [78, 69]), (2, [78, 69, 70]), (3, [69]), (4, []), (5, [69]), (6, [69, 65, 66]), (7, [69, 65]), (8, [69])] : List (Int × Str))).getD []))] rfl wK rfl rfl rfl rfl rfl fun w h => aa (ae (v := (.bool ((lk x3.kind ([(1, [78, 69]), (2, [78, 69, 70]), (3, [69]), (4, []), (5, [69]), (6, [69, 65, 66]), (7, [69, 65]), (8, [69])] : List (Int × Str))).isSome))) rfl) (nJ (aa (qc (c1 := []) (c2 := [(.pointer (some ⟨Aa, 0, none⟩))]) rfl rfl) (aa (ae (v := (.func (.func 144) #[] #[(.pointer (some ⟨Aa, 0, none⟩))])) rfl) (nK (aa (ag (v := (.bool ((lk x3.kind ([(1, [78, 69]), (2, [78, 69, 70]), (3, [69]), (4, []), (5, [69]), (6, [69, 65, 66]), (7, [69, 65]), (8, [69])] : List (Int × Str))).isSome))) rfl) (aa (fU rfl) (aa (ag (v := (.bool ((!(lk x3.kind ([(1, [78, 69]), (2, [78, 69, 70]), (3, [69]), (4, []), (5, [69]), (6, [69, 65, 66]), (7, [69, 65]), (8, [69])] : List (Int × Str))).isSome)))) rfl) (aA rfl rfl (fun q => ah sP rfl) (aA rfl rfl (fun q => aC h 8 rfl aS (bZ q) rfl) (aA rfl rfl (fun q => iK (bZ q) rfl) (aA rfl rfl (fun q => ag (v := (.bool (decide ((x3.n : Int) ≠ 0)))) (bZ q)) (l9 ((!(lk x3.kind ([(1, [78, 69]), (2, [78, 69, 70]), (3, [69]), (4, []), (5, [69]), (6, [69, 65, 66]), (7, [69, 65]), (8, [69])] : List (Int × Str))).isSome) == false) rfl rfl (fun q => ag (v := (.func (.func 144) #[] #[(.pointer (some ⟨Aa, 0, none⟩))])) rfl) (zq [(.pointer (some ⟨Aa, 0, none⟩))] ((!(lk x3.kind ([(1, [78, 69]), (2, [78, 69, 70]), (3, [69]), (4, []), (5, [69]), (6, [69, 65, 66]), (7, [69, 65]), (8, [69])] : List (Int × Str))).isSome) == false) rfl rfl xJ (fun q => (bZ q)) (fun q => kF rfl rfl) (sQ _ _ h.lt ((lk x3.kind ([(1, [78, 69]), (2, [78, 69, 70]), (3, [69]), (4, []), (5, [69]), (6, [69, 65, 66]), (7, [69, 65]), (8, [69])] : List (Int × Str))).getD []) Aa (h.pJ 10 rfl) _ rfl) fun w k24 => ?_)))))))))))))
 replace h := h.grow k24
 refine l9 ((!(lk x3.kind ([(1, [78, 69]), (2, [78, 69, 70]), (3, [69]), (4, []), (5, [69]), (6, [69, 65, 66]), (7, [69, 65]), (8, [69])] : List (Int × Str))).isSome) == false) rfl rfl (fun q => fU (bZ q)) (aA rfl rfl (fun q => gG (bZ q) (Ol q) mX) (aa (gK rfl rfl mX) (aa (ag (v := (.bool (((!(lk x3.kind ([(1, [78, 69]), (2, [78, 69, 70]), (3, [69]), (4, []), (5, [69]), (6, [69, 65, 66]), (7, [69, 65]), (8, [69])] : List (Int × Str))).isSome) || (decide ((x3.n : Int) ≠ 0) && (!(aQ ((lk x3.kind ([(1, [78, 69]), (2, [78, 69, 70]), (3, [69]), (4, []), (5, [69]), (6, [69, 65, 66]), (7, [69, 65]), (8, [69])] : List (Int × Str))).getD [])))))))) rfl) (aA rfl rfl (fun q => ah wG rfl) (aA rfl rfl (fun q => aC h 8 rfl u7 (bZ q) rfl) (aA rfl rfl (fun q => bC ji (bZ q) (h.mY 4 rfl)) (aA rfl rfl (fun q => iV (bZ q) rfl) (aA rfl rfl (fun q => ag (v := (.bool (decide ((0 : Int) < (x3.e.length : Int))))) (bZ q)) (l9 (((!(lk x3.kind ([(1, [78, 69]), (2, [78, 69, 70]), (3, [69]), (4, []), (5, [69]), (6, [69, 65, 66]), (7, [69, 65]), (8, [69])] : List (Int × Str))).isSome) || (decide ((x3.n : Int) ≠ 0) && (!(aQ ((lk x3.kind ([(1, [78, 69]), (2, [78, 69, 70]), (3, [69]), (4, []), (5, [69]), (6, [69, 65, 66]), (7, [69, 65]), (8, [69])] : List (Int × Str))).getD []))))) == false) rfl rfl (fun q => ag (v := (.func (.func 144) #[] #[(.pointer (some ⟨Aa, 0, none⟩))])) rfl) (zq [(.pointer (some ⟨Aa, 0, none⟩))] (((!(lk x3.kind ([(1, [78, 69]), (2, [78, 69, 70]), (3, [69]), (4, []), (5, [69]), (6, [69, 65, 66]), (7, [69, 65]), (8, [69])] : List (Int × Str))).isSome) || (decide ((x3.n : Int) ≠ 0) && (!(aQ ((lk x3.kind ([(1, [78, 69]), (2, [78, 69, 70]), (3, [69]), (4, []), (5, [69]), (6, [69, 65, 66]), (7, [69, 65]), (8, [69])] : List (Int × Str))).getD []))))) == false) rfl rfl xJ (fun q => (bZ q)) (fun q => kF rfl rfl) (sS _ _ h.lt ((lk x3.kind ([(1, [78, 69]), (2, [78, 69, 70]), (3, [69]), (4, []), (5, [69]), (6, [69, 65, 66]), (7, [69, 65]), (8, [69])] : List (Int × Str))).getD []) Aa (h.pJ 10 rfl) _ rfl) fun w k25 => ?_))))))))))
 replace h := h.grow k25
 refine l9 (((!(lk x3.kind ([(1, [78, 69]), (2, [78, 69, 70]), (3, [69]), (4, []), (5, [69]), (6, [69, 65, 66]), (7, [69, 65]), (8, [69])] : List (Int × Str))).isSome) || (decide ((x3.n : Int) ≠ 0) && (!(aQ ((lk x3.kind ([(1, [78, 69]), (2, [78, 69, 70]), (3, [69]), (4, []), (5, [69]), (6, [69, 65, 66]), (7, [69, 65]), (8, [69])] : List (Int × Str))).getD []))))) == false) rfl rfl (fun q => fU (bZ q)) (aA rfl rfl (fun q => gG (bZ q) (Ol q) mX) (aa (gK rfl rfl mX) (aa (ag (v := (.bool ((((!(lk x3.kind ([(1, [78, 69]), (2, [78, 69, 70]), (3, [69]), (4, []), (5, [69]), (6, [69, 65, 66]), (7, [69, 65]), (8, [69])] : List (Int × Str))).isSome) || (decide ((x3.n : Int) ≠ 0) && (!(aQ ((lk x3.kind ([(1, [78, 69]), (2, [78, 69, 70]), (3, [69]), (4, []), (5, [69]), (6, [69, 65, 66]), (7, [69, 65]), (8, [69])] : List (Int × Str))).getD []))))) || (decide ((0 : Int) < (x3.e.length : Int)) && (!(aX ((lk x3.kind ([(1, [78, 69]), (2, [78, 69, 70]), (3, [69]), (4, []), (5, [69]), (6, [69, 65, 66]), (7, [69, 65]), (8, [69])] : List (Int × Str))).getD [])))))))) rfl) (aA rfl rfl (fun q => ah yK rfl) (aA rfl rfl (fun q => aC h 8 rfl u7 (bZ q) rfl) (aA rfl rfl (fun q => bC ji (bZ q) (h.mY 5 rfl)) (aA rfl rfl (fun q => iV (bZ q) rfl) (aA rfl rfl (fun q => ag (v := (.bool (decide ((0 : Int) < (x3.f.length : Int))))) (bZ q)) (l9 ((((!(lk x3.kind ([(1, [78, 69]), (2, [78, 69, 70]), (3, [69]), (4, []), (5, [69]), (6, [69, 65, 66]), (7, [69, 65]), (8, [69])] : List (Int × Str))).isSome) || (decide ((x3.n : Int) ≠ 0) && (!(aQ ((lk x3.kind ([(1, [78, 69]), (2, [78, 69, 70]), (3, [69]), (4, []), (5, [69]), (6, [69, 65, 66]), (7, [69, 65]), (8, [69])] : List (Int × Str))).getD []))))) || (decide ((0 : Int) < (x3.e.length : Int)) && (!(aX ((lk x3.kind ([(1, [78, 69]), (2, [78, 69, 70]), (3, [69]), (4, []), (5, [69]), (6, [69, 65, 66]), (7, [69, 65]), (8, [69])] : List (Int × Str))).getD []))))) == false) rfl rfl (fun q => ag (v := (.func (.func 144) #[] #[(.pointer (some ⟨Aa, 0, none⟩))])) rfl) (zq [(.pointer (some ⟨Aa, 0, none⟩))] ((((!(lk x3.kind ([(1, [78, 69]), (2, [78, 69, 70]), (3, [69]), (4, []), (5, [69]), (6, [69, 65, 66]), (7, [69, 65]), (8, [69])] : List (Int × Str))).isSome) || (decide ((x3.n : Int) ≠ 0) && (!(aQ ((lk x3.kind ([(1, [78, 69]), (2, [78, 69, 70]), (3, [69]), (4, []), (5, [69]), (6, [69, 65, 66]), (7, [69, 65]), (8, [69])] : List (Int × Str))).getD []))))) || (decide ((0 : Int) < (x3.e.length : Int)) && (!(aX ((lk x3.kind ([(1, [78, 69]), (2, [78, 69, 70]), (3, [69]), (4, []), (5, [69]), (6, [69, 65, 66]), (7, [69, 65]), (8, [69])] : List (Int × Str))).getD []))))) == false) rfl rfl xJ (fun q => (bZ q)) (fun q => kF rfl rfl) (mg _ _ h.lt ((lk x3.kind ([(1, [78, 69]), (2, [78, 69, 70]), (3, [69]), (4, []), (5, [69]), (6, [69, 65, 66]), (7, [69, 65]), (8, [69])] : List (Int × Str))).getD []) Aa (h.pJ 10 rfl) _ rfl) fun w k26 => ?_))))))))))
 replace h := h.grow k26
 refine l9 ((((!(lk x3.kind ([(1, [78, 69]), (2, [78, 69, 70]), (3, [69]), (4, []), (5, [69]), (6, [69, 65, 66]), (7, [69, 65]), (8, [69])] : List (Int × Str))).isSome) || (decide ((x3.n : Int) ≠ 0) && (!(aQ ((lk x3.kind ([(1, [78, 69]), (2, [78, 69, 70]), (3, [69]), (4, []), (5, [69]), (6, [69, 65, 66]), (7, [69, 65]), (8, [69])] : List (Int × Str))).getD []))))) || (decide ((0 : Int) < (x3.e.length : Int)) && (!(aX ((lk x3.kind ([(1, [78, 69]), (2, [78, 69, 70]), (3, [69]), (4, []), (5, [69]), (6, [69, 65, 66]), (7, [69, 65]), (8, [69])] : List (Int × Str))).getD []))))) == false) rfl rfl (fun q => fU (bZ q)) (aA rfl rfl (fun q => gG (bZ q) (Ol q) mX) (aa (gK rfl rfl mX) (aa (ag (v := (.bool (((((!(lk x3.kind ([(1, [78, 69]), (2, [78, 69, 70]), (3, [69]), (4, []), (5, [69]), (6, [69, 65, 66]), (7, [69, 65]), (8, [69])] : List (Int × Str))).isSome) || (decide ((x3.n : Int) ≠ 0) && (!(aQ ((lk x3.kind ([(1, [78, 69]), (2, [78, 69, 70]), (3, [69]), (4, []), (5, [69]), (6, [69, 65, 66]), (7, [69, 65]), (8, [69])] : List (Int × Str))).getD []))))) || (decide ((0 : Int) < (x3.e.length : Int)) && (!(aX ((lk x3.kind ([(1, [78, 69]), (2, [78, 69, 70]), (3, [69]), (4, []), (5, [69]), (6, [69, 65, 66]), (7, [69, 65]), (8, [69])] : List (Int × Str))).getD []))))) || (decide ((0 : Int) < (x3.f.length : Int)) && (!(bI ((lk x3.kind ([(1, [78, 69]), (2, [78, 69, 70]), (3, [69]), (4, []), (5, [69]), (6, [69, 65, 66]), (7, [69, 65]), (8, [69])] : List (Int × Str))).getD [])))))))) rfl) (aA rfl rfl (fun q => ah wH rfl) (aA rfl rfl (fun q => aC h 8 rfl nD (bZ q) rfl) (aA rfl rfl (fun q => bC jI (bZ q) (h.mY 6 rfl)) (aA rfl rfl (fun q => iV (bZ q) rfl) (aA rfl rfl (fun q => ag (v := (.bool (decide ((0 : Int) < (x3.a.length : Int))))) (bZ q)) (l9 (((((!(lk x3.kind ([(1, [78, 69]), (2, [78, 69, 70]), (3, [69]), (4, []), (5, [69]), (6, [69, 65, 66]), (7, [69, 65]), (8, [69])] : List (Int × Str))).isSome) || (decide ((x3.n : Int) ≠ 0) && (!(aQ ((lk x3.kind ([(1, [78, 69]), (2, [78, 69, 70]), (3, [69]), (4, []), (5, [69]), (6, [69, 65, 66]), (7, [69, 65]), (8, [69])] : List (Int × Str))).getD []))))) || (decide ((0 : Int) < (x3.e.length : Int)) && (!(aX ((lk x3.kind ([(1, [78, 69]), (2, [78, 69, 70]), (3, [69]), (4, []), (5, [69]), (6, [69, 65, 66]), (7, [69, 65]), (8, [69])] : List (Int × Str))).getD []))))) || (decide ((0 : Int) < (x3.f.length : Int)) && (!(bI ((lk x3.kind ([(1, [78, 69]), (2, [78, 69, 70]), (3, [69]), (4, []), (5, [69]), (6, [69, 65, 66]), (7, [69, 65]), (8, [69])] : List (Int × Str))).getD []))))) == false) rfl rfl (fun q => ag (v := (.func (.func 144) #[] #[(.pointer (some ⟨Aa, 0, none⟩))])) rfl) (zq [(.pointer (some ⟨Aa, 0, none⟩))] (((((!(lk x3.kind ([(1, [78, 69]), (2, [78, 69, 70]), (3, [69]), (4, []), (5, [69]), (6, [69, 65, 66]), (7, [69, 65]), (8, [69])] : List (Int × Str))).isSome) || (decide ((x3.n : Int) ≠ 0) && (!(aQ ((lk x3.kind ([(1, [78, 69]), (2, [78, 69, 70]), (3, [69]), (4, []), (5, [69]), (6, [69, 65, 66]), (7, [69, 65]), (8, [69])] : List (Int × Str))).getD []))))) || (decide ((0 : Int) < (x3.e.length : Int)) && (!(aX ((lk x3.kind ([(1, [78, 69]), (2, [78, 69, 70]), (3, [69]), (4, []), (5, [69]), (6, [69, 65, 66]), (7, [69, 65]), (8, [69])] : List (Int × Str))).getD []))))) || (decide ((0 : Int) < (x3.f.length : Int)) && (!(bI ((lk x3.kind ([(1, [78, 69]), (2, [78, 69, 70]), (3, [69]), (4, []), (5, [69]), (6, [69, 65, 66]), (7, [69, 65]), (8, [69])] : List (Int × Str))).getD []))))) == false) rfl rfl xJ (fun q => (bZ q)) (fun q => kF rfl rfl) (sU _ _ h.lt ((lk x3.kind ([(1, [78, 69]), (2, [78, 69, 70]), (3, [69]), (4, []), (5, [69]), (6, [69, 65, 66]), (7, [69, 65]), (8, [69])] : List (Int × Str))).getD []) Aa (h.pJ 10 rfl) _ rfl) fun w k27 => ?_))))))))))
 replace h := h.grow k27
 refine l9 (((((!(lk x3.kind ([(1, [78, 69]), (2, [78, 69, 70]), (3, [69]), (4, []), (5, [69]), (6, [69, 65, 66]), (7, [69, 65]), (8, [69])] : List (Int × Str))).isSome) || (decide ((x3.n : Int) ≠ 0) && (!(aQ ((lk x3.kind ([(1, [78, 69]), (2, [78, 69, 70]), (3, [69]), (4, []), (5, [69]), (6, [69, 65, 66]), (7, [69, 65]), (8, [69])] : List (Int × Str))).getD []))))) || (decide ((0 : Int) < (x3.e.length : Int)) && (!(aX ((lk x3.kind ([(1, [78, 69]), (2, [78, 69, 70]), (3, [69]), (4, []), (5, [69]), (6, [69, 65, 66]), (7, [69, 65]), (8, [69])] : List (Int × Str))).getD []))))) || (decide ((0 : Int) < (x3.f.length : Int)) && (!(bI ((lk x3.kind ([(1, [78, 69]), (2, [78, 69, 70]), (3, [69]), (4, []), (5, [69]), (6, [69, 65, 66]), (7, [69, 65]), (8, [69])] : List (Int × Str))).getD []))))) == false) rfl rfl (fun q => fU (bZ q)) (aA rfl rfl (fun q => gG (bZ q) (Ol q) mX) (aa (gK rfl rfl mX) (aa (ag (v := (.bool ((((((!(lk x3.kind ([(1, [78, 69]), (2, [78, 69, 70]), (3, [69]), (4, []), (5, [69]), (6, [69, 65, 66]), (7, [69, 65]), (8, [69])] : List (Int × Str))).isSome) || (decide ((x3.n : Int) ≠ 0) && (!(aQ ((lk x3.kind ([(1, [78, 69]), (2, [78, 69, 70]), (3, [69]), (4, []), (5, [69]), (6, [69, 65, 66]), (7, [69, 65]), (8, [69])] : List (Int × Str))).getD []))))) || (decide ((0 : Int) < (x3.e.length : Int)) && (!(aX ((lk x3.kind ([(1, [78, 69]), (2, [78, 69, 70]), (3, [69]), (4, []), (5, [69]), (6, [69, 65, 66]), (7, [69, 65]), (8, [69])] : List (Int × Str))).getD []))))) || (decide ((0 : Int) < (x3.f.length : Int)) && (!(bI ((lk x3.kind ([(1, [78, 69]), (2, [78, 69, 70]), (3, [69]), (4, []), (5, [69]), (6, [69, 65, 66]), (7, [69, 65]), (8, [69])] : List (Int × Str))).getD []))))) || (decide ((0 : Int) < (x3.a.length : Int)) && (!(dW ((lk x3.kind ([(1, [78, 69]), (2, [78, 69, 70]), (3, [69]), (4, []), (5, [69]), (6, [69, 65, 66]), (7, [69, 65]), (8, [69])] : List (Int × Str))).getD [])))))))) rfl) (aA rfl rfl (fun q => ah wI rfl) (aA rfl rfl (fun q => aC h 8 rfl nD (bZ q) rfl) (aA rfl rfl (fun q => bC jI (bZ q) (h.mY 7 rfl)) (aA rfl rfl (fun q => iV (bZ q) rfl) (aA rfl rfl (fun q => ag (v := (.bool (decide ((0 : Int) < (x3.b.length : Int))))) (bZ q)) (l9 ((((((!(lk x3.kind ([(1, [78, 69]), (2, [78, 69, 70]), (3, [69]), (4, []), (5, [69]), (6, [69, 65, 66]), (7, [69, 65]), (8, [69])] : List (Int × Str))).isSome) || (decide ((x3.n : Int) ≠ 0) && (!(aQ ((lk x3.kind ([(1, [78, 69]), (2, [78, 69, 70]), (3, [69]), (4, []), (5, [69]), (6, [69, 65, 66]), (7, [69, 65]), (8, [69])] : List (Int × Str))).getD []))))) || (decide ((0 : Int) < (x3.e.length : Int)) && (!(aX ((lk x3.kind ([(1, [78, 69]), (2, [78, 69, 70]), (3, [69]), (4, []), (5, [69]), (6, [69, 65, 66]), (7, [69, 65]), (8, [69])] : List (Int × Str))).getD []))))) || (decide ((0 : Int) < (x3.f.length : Int)) && (!(bI ((lk x3.kind ([(1, [78, 69]), (2, [78, 69, 70]), (3, [69]), (4, []), (5, [69]), (6, [69, 65, 66]), (7, [69, 65]), (8, [69])] : List (Int × Str))).getD []))))) || (decide ((0 : Int) < (x3.a.length : Int)) && (!(dW ((lk x3.kind ([(1, [78, 69]), (2, [78, 69, 70]), (3, [69]), (4, []), (5, [69]), (6, [69, 65, 66]), (7, [69, 65]), (8, [69])] : List (Int × Str))).getD []))))) == false) rfl rfl (fun q => ag (v := (.func (.func 144) #[] #[(.pointer (some ⟨Aa, 0, none⟩))])) rfl) (zq [(.pointer (some ⟨Aa, 0, none⟩))] ((((((!(lk x3.kind ([(1, [78, 69]), (2, [78, 69, 70]), (3, [69]), (4, []), (5, [69]), (6, [69, 65, 66]), (7, [69, 65]), (8, [69])] : List (Int × Str))).isSome) || (decide ((x3.n : Int) ≠ 0) && (!(aQ ((lk x3.kind ([(1, [78, 69]), (2, [78, 69, 70]), (3, [69]), (4, []), (5, [69]), (6, [69, 65, 66]), (7, [69, 65]), (8, [69])] : List (Int × Str))).getD []))))) || (decide ((0 : Int) < (x3.e.length : Int)) && (!(aX ((lk x3.kind ([(1, [78, 69]), (2, [78, 69, 70]), (3, [69]), (4, []), (5, [69]), (6, [69, 65, 66]), (7, [69, 65]), (8, [69])] : List (Int × Str))).getD []))))) || (decide ((0 : Int) < (x3.f.length : Int)) && (!(bI ((lk x3.kind ([(1, [78, 69]), (2, [78, 69, 70]), (3, [69]), (4, []), (5, [69]), (6, [69, 65, 66]), (7, [69, 65]), (8, [69])] : List (Int × Str))).getD []))))) || (decide ((0 : Int) < (x3.a.length : Int)) && (!(dW ((lk x3.kind ([(1, [78, 69]), (2, [78, 69, 70]), (3, [69]), (4, []), (5, [69]), (6, [69, 65, 66]), (7, [69, 65]), (8, [69])] : List (Int × Str))).getD []))))) == false) rfl rfl xJ (fun q => (bZ q)) (fun q => kF rfl rfl) (sV _ _ h.lt ((lk x3.kind ([(1, [78, 69]), (2, [78, 69, 70]), (3, [69]), (4, []), (5, [69]), (6, [69, 65, 66]), (7, [69, 65]), (8, [69])] : List (Int × Str))).getD []) Aa (h.pJ 10 rfl) _ rfl) fun w k28 => ?_))))))))))
 replace h := h.grow k28
 refine l9 ((((((!(lk x3.kind ([(1, [78, 69]), (2, [78, 69, 70]), (3, [69]), (4, []), (5, [69]), (6, [69, 65, 66]), (7, [69, 65]), (8, [69])] : List (Int × Str))).isSome) || (decide ((x3.n : Int) ≠ 0) && (!(aQ ((lk x3.kind ([(1, [78, 69]), (2, [78, 69, 70]), (3, [69]), (4, []), (5, [69]), (6, [69, 65, 66]), (7, [69, 65]), (8, [69])] : List (Int × Str))).getD []))))) || (decide ((0 : Int) < (x3.e.length : Int)) && (!(aX ((lk x3.kind ([(1, [78, 69]), (2, [78, 69, 70]), (3, [69]), (4, []), (5, [69]), (6, [69, 65, 66]), (7, [69, 65]), (8, [69])] : List (Int × Str))).getD []))))) || (decide ((0 : Int) < (x3.f.length : Int)) && (!(bI ((lk x3.kind ([(1, [78, 69]), (2, [78, 69, 70]), (3, [69]), (4, []), (5, [69]), (6, [69, 65, 66]), (7, [69, 65]), (8, [69])] : List (Int × Str))).getD []))))) || (decide ((0 : Int) < (x3.a.length : Int)) && (!(dW ((lk x3.kind ([(1, [78, 69]), (2, [78, 69, 70]), (3, [69]), (4, []), (5, [69]), (6, [69, 65, 66]), (7, [69, 65]), (8, [69])] : List (Int × Str))).getD []))))) == false) rfl rfl (fun q => fU (bZ q)) (aA rfl rfl (fun q => gG (bZ q) (Ol q) mX) (aa (gK rfl rfl mX) (nN (aG hs rfl (fun c29 hs => ?_) (fun c29 hs => ?_)))))
 refine nG (aa (ae (v := (I6 4)) rfl) (nR (ax (aD (ax (ax (aD (ax (bE (v := (I6 4)) Tryz.results129 rfl ?_)))))))))
 obtain rfl := gM hs
 exact ⟨h.grown, rfl⟩
 refine aF (aj (aK (nG (aa (ah iZ rfl) (aa (aC h 8 rfl aS rfl rfl) (aa (bH rfl rfl) (aa (ag (v := (.bool (decide ((x3.kind : Int) = 1)))) rfl) (aA rfl rfl (fun q => ah sP rfl) (aA rfl rfl (fun q => aC h 8 rfl aS (bZ q) rfl) (aA rfl rfl (fun q => ag (v := (I6 c)) rfl) (IJ rfl rfl Kq rfl (fun q => kF (bZ q) (kF (bZ q) rfl)) (pF _ _ h.lt x3.n c _ rfl) fun w Wh => ?_)))))))))))
 replace h := h.grow Wh
 refine aA rfl rfl (fun q => fU (bZ q)) (aa (gG rfl rfl mX) (aa (ag (v := (.bool ((decide ((x3.kind : Int) = 1) && (!(aL x3.n c)))))) rfl) (aA rfl rfl (fun q => ah iZ rfl) (aA rfl rfl (fun q => aC h 8 rfl aS (bZ q) rfl) (aA rfl rfl (fun q => bH (bZ q) rfl) (aA rfl rfl (fun q => ag (v := (.bool (decide ((x3.kind : Int) = 2)))) (bZ q)) (l9 ((decide ((x3.kind : Int) = 1) && (!(aL x3.n c))) == false) rfl rfl (fun q => ah sP rfl) (l9 ((decide ((x3.kind : Int) = 1) && (!(aL x3.n c))) == false) rfl rfl (fun q => aC h 8 rfl aS (bZ q) rfl) (LH ((decide ((x3.kind : Int) = 1) && (!(aL x3.n c))) == false) rfl rfl vT rfl (fun q => kF (bZ q) (kF rfl (kF rfl rfl))) (fC _ _ h.lt x3.n 0 3 _ rfl) fun w k31 => ?_)))))))))
 replace h := h.grow k31
 refine l9 ((decide ((x3.kind : Int) = 1) && (!(aL x3.n c))) == false) rfl rfl (fun q => fU (bZ q)) (aA rfl rfl (fun q => gG (bZ q) (Ol q) mX) (aa (gK rfl rfl mX) (nN (aG hs rfl (fun c32 hs => ?_) (fun c32 hs => ?_)))))
 refine nG (aa (ae (v := (I6 3)) rfl) (nR (ax (aD (ax (ax (aD (ax (bE (v := (I6 3)) Tryz.results129 rfl ?_)))))))))
 obtain rfl := gM hs
 exact ⟨h.grown, rfl⟩
 refine nS (aa (ae (v := (I6 0)) rfl) (nN (bQ (σ := Int) (inl ([12] ++ rg 105 7)) (fun A7 => [(12, (I6 A7))]) (fun A7 w => SH w0 M BE w (hset [(1, .sr dJ va a), (2, .sr gT vb b), (4, .rd jw O7 x3.e), (5, .rd jw A8 x3.f), (6, .rd dJ Dx x3.a), (7, .rd dJ Jb x3.b), (8, .blk FE [(I6 x3.kind), (I6 x3.n), O7, A8, Dx, Jb]), (10, .blk Aa [(aN ((lk x3.kind ([(1, [78, 69]), (2, [78, 69, 70]), (3, [69]), (4, []), (5, [69]), (6, [69, 65, 66]), (7, [69, 65]), (8, [69])] : List (Int × Str))).getD []))])]) ∧ jU N F0 x3 b c a FD A7 = some r) ?_ ?_)))
 rintro A7 w cZ ⟨h, hs⟩
 refine bQ (σ := Int) (inl ([12] ++ rg 112 11)) (fun x34 => [(12, (I6 x34)), (115, (gv (decide ((A7 : Int) = 0) == true) (.func (.func 144) #[] #[(.pointer (some ⟨Aa, 0, none⟩))])))]) (fun x34 w => SH w0 M BE w (hset [(1, .sr dJ va a), (2, .sr gT vb b), (4, .rd jw O7 x3.e), (5, .rd jw A8 x3.f), (6, .rd dJ Dx x3.a), (7, .rd dJ Jb x3.b), (8, .blk FE [(I6 x3.kind), (I6 x3.n), O7, A8, Dx, Jb]), (10, .blk Aa [(aN ((lk x3.kind ([(1, [78, 69]), (2, [78, 69, 70]), (3, [69]), (4, []), (5, [69]), (6, [69, 65, 66]), (7, [69, 65]), (8, [69])] : List (Int × Str))).getD []))])]) ∧ jT F0 x3 a b c FD x34 = some r) ?_ ?_
 rintro x34 w cZ ⟨h, hs⟩
 refine bQ (σ := Int) (inl ([12] ++ rg 123 7)) (fun xk => [(12, (I6 xk))]) (fun xk w => SH w0 M BE w (hset [(1, .sr dJ va a), (2, .sr gT vb b), (4, .rd jw O7 x3.e), (5, .rd jw A8 x3.f), (6, .rd dJ Dx x3.a), (7, .rd dJ Jb x3.b), (8, .blk FE [(I6 x3.kind), (I6 x3.n), O7, A8, Dx, Jb]), (10, .blk Aa [(aN ((lk x3.kind ([(1, [78, 69]), (2, [78, 69, 70]), (3, [69]), (4, []), (5, [69]), (6, [69, 65, 66]), (7, [69, 65]), (8, [69])] : List (Int × Str))).getD []))])]) ∧ jS F0 x3 b c FD xk = some r) ?_ ?_
 rintro xk w cZ ⟨h, hs⟩
 refine bQ (σ := Int) (inl ([12] ++ rg 130 7)) (fun qf => [(12, (I6 qf))]) (fun qf w => SH w0 M BE w (hset [(1, .sr dJ va a), (2, .sr gT vb b), (10, .blk Aa [(aN ((lk x3.kind ([(1, [78, 69]), (2, [78, 69, 70]), (3, [69]), (4, []), (5, [69]), (6, [69, 65, 66]), (7, [69, 65]), (8, [69])] : List (Int × Str))).getD []))])]) ∧ jR FD qf = some r) ?_ ?_
 rintro qf w cZ ⟨h, hs⟩
 refine nG (aa (ag (v := (I6 qf)) rfl) (aa (iK rfl rfl) (nN (aG hs rfl (fun c37 hs => ?_) (fun c37 hs => ?_)))))
 refine nG (aa (ag (v := (I6 qf)) rfl) (aa (ae (v := (I6 qf)) rfl) (nR (aD (ax (ax (aD (ax (bE (v := (I6 qf)) Tryz.results129 rfl ?_)))))))))
 obtain rfl := gM hs
 exact ⟨h.grown, rfl⟩
 refine aF (au (aj (az (aa (bU rfl rfl YZ) (aa (ag (v := (I6 ((i2 + 1)))) rfl) (aB (ak ?_)))))))
 subst Ur
 exact iW ⟨k1 + 1, i2 + 1⟩ ⟨h.cn _, by omega, hs⟩ (by have := nX e6; dsimp only; omega)
 refine nG (aa (ag (v := (I6 xk)) rfl) (aa (bH rfl rfl) (nN (aG hs rfl (fun Kv hs => ?_) (fun Kv hs => ?_)))))
 refine az (aa (ah wI rfl) (aa (aC h 8 rfl nD rfl rfl) (aa (ag (v := vb) rfl) (aa (ag (v := (I6 c)) rfl) ?_))))
 obtain ⟨y39, e40, hs⟩ := aJ hs
 refine aM Hg rfl rfl (ih _ _ h.lt Jb x3.b (h.mY 7 rfl) vb b (h.fT 2 rfl) c _ e40) ?_
 rintro _ w ⟨Y2, rfl⟩
 refine ⟨_, rfl, ?_⟩
 replace h := h.grow Y2
 refine aa (ae (v := (I6 y39)) rfl) (aB (ak ?_))
 exact bO y39 ⟨h.cn _, hs⟩
 refine aF (ak ?_)
 exact bO xk ⟨h.cn _, hs⟩
 refine nG (aa (ag (v := (I6 x34)) rfl) (aa (bH rfl rfl) (nN (aG hs rfl (fun c42 hs => ?_) (fun c42 hs => ?_)))))
 refine az (aa (ah wH rfl) (aa (aC h 8 rfl nD rfl rfl) (aa (ag (v := vb) rfl) (aa (ag (v := (I6 c)) rfl) ?_))))
 obtain ⟨xL, e44, hs⟩ := aJ hs
 refine aM Hg rfl rfl (ih _ _ h.lt Dx x3.a (h.mY 6 rfl) vb b (h.fT 2 rfl) c _ e44) ?_
 rintro _ w ⟨k45, rfl⟩
 refine ⟨_, rfl, ?_⟩
 replace h := h.grow k45
 refine aa (ae (v := (I6 xL)) rfl) (aB (ak ?_))
 exact bO xL ⟨h.cn _, hs⟩
 refine aF (ak ?_)
 exact bO x34 ⟨h.cn _, hs⟩
 refine nG (aa (ag (v := (I6 A7)) rfl) (aa (bH rfl rfl) (aa (ag (v := (.bool (decide ((A7 : Int) = 0)))) rfl) (aA rfl rfl (fun q => ag (v := (.func (.func 144) #[] #[(.pointer (some ⟨Aa, 0, none⟩))])) rfl) (Ea [(.pointer (some ⟨Aa, 0, none⟩))] rfl rfl xJ (fun q => (bZ q)) (fun q => kF rfl rfl) (mg _ _ h.lt ((lk x3.kind ([(1, [78, 69]), (2, [78, 69, 70]), (3, [69]), (4, []), (5, [69]), (6, [69, 65, 66]), (7, [69, 65]), (8, [69])] : List (Int × Str))).getD []) Aa (h.pJ 10 rfl) _ rfl) fun w Y3 => ?_)))))
 replace h := h.grow Y3
 refine aa (gG rfl rfl mX) (nN (aG hs rfl (fun Y4 hs => ?_) (fun Y4 hs => ?_)))
 refine az (aa (ah yK rfl) (aa (aC h 8 rfl u7 rfl rfl) (aa (ag (v := vb) rfl) (aa (ag (v := (I6 c)) rfl) ?_))))
 obtain ⟨xm, e49, hs⟩ := aJ hs
 refine aM L8 rfl rfl (qw N _ _ h.lt A8 x3.f (h.mY 5 rfl) vb b (h.fT 2 rfl) c _ e49) ?_
 rintro _ w ⟨Y5, rfl⟩
 refine ⟨_, rfl, ?_⟩
 replace h := h.grow Y5
 refine aa (ae (v := (I6 xm)) rfl) (aB (ak ?_))
 exact bO xm ⟨h.cn _, hs⟩
 refine aF (ak ?_)
 exact bO A7 ⟨h.cn _, hs⟩
 refine nG (aa (ag (v := (.func (.func 144) #[] #[(.pointer (some ⟨Aa, 0, none⟩))])) rfl) (jo (args := [(aN [69]), (.pointer (some ⟨Aa, 0, none⟩))]) xJ rfl rfl (aH (args := [(aN [69]), (.pointer (some ⟨Aa, 0, none⟩))]) Tryz.func144 rfl Tryz.ntmps144 (bB rfl) (nG (aa (ae (v := (.bool (false))) rfl) (nJ (aa (aC h 10 rfl wK rfl rfl) (aa (ag (v := (aN [69])) rfl) (aM zC rfl rfl (iM _ _ h.lt ((lk x3.kind ([(1, [78, 69]), (2, [78, 69, 70]), (3, [69]), (4, []), (5, [69]), (6, [69, 65, 66]), (7, [69, 65]), (8, [69])] : List (Int × Str))).getD []) 69 _ rfl) ?_)))))))))
 rintro _ w ⟨Y6, rfl⟩
 refine ⟨_, rfl, ?_⟩
 replace h := h.grow Y6
 refine aa (ae (v := (.bool ((hasB ((lk x3.kind ([(1, [78, 69]), (2, [78, 69, 70]), (3, [69]), (4, []), (5, [69]), (6, [69, 65, 66]), (7, [69, 65]), (8, [69])] : List (Int × Str))).getD []) 69)))) rfl) (nR (bE (v := (.bool ((hasB ((lk x3.kind ([(1, [78, 69]), (2, [78, 69, 70]), (3, [69]), (4, []), (5, [69]), (6, [69, 65, 66]), (7, [69, 65]), (8, [69])] : List (Int × Str))).getD []) 69)))) Tryz.results144 rfl (⟨_, rfl, ?_⟩)))
 refine nN (aG hs rfl (fun Ak hs => ?_) (fun Ak hs => ?_))
 refine az (aa (ah wG rfl) (aa (aC h 8 rfl u7 rfl rfl) (aa (ag (v := vb) rfl) (aa (ag (v := (I6 c)) rfl) ?_))))
 obtain ⟨Ja, e54, hs⟩ := aJ hs
 refine aM L8 rfl rfl (qw N _ _ h.lt O7 x3.e (h.mY 4 rfl) vb b (h.fT 2 rfl) c _ e54) ?_
 rintro _ w ⟨Y7, rfl⟩
 refine ⟨_, rfl, ?_⟩
 replace h := h.grow Y7
 refine aa (ae (v := (I6 Ja)) rfl) (aB (ak ?_))
 exact bO Ja ⟨h.cn _, hs⟩
 refine aF (ak ?_)
 exact bO 0 ⟨h.cn _, hs⟩
 rw [fI (hik ▸ e6), fw] at hs
 refine nE (aa (ae (v := (I6 0)) rfl) (nR (bE (v := (I6 0)) Tryz.results129 rfl ?_)))
 obtain rfl := gM hs
 exact ⟨h.grown, rfl⟩
def jX (N : Nat) (a : List dO) (rM : dO) (s : Unit) (wM : Unit → Option Int) : Option Int :=
  (lg N rM.body 4).bind fun kJ => bif (!kJ.2) then some 2 else (il N rM.body a rM.locals).bind fun SC => bif decide ((SC : Int) ≠ 0) then some SC else wM ()
def jY (s : Unit) : Option Int :=
  some 0
def jZ (i4 : Int) (x5 : dO) (s : Unit) (nx7 : Unit → Option Int) : Option Int :=
  bif (((!(aP x5.params 0 3)) || (!(aP x5.locals x5.params 6))) || (decide ((i4 : Int) = 0) && decide ((x5.params : Int) ≠ 0))) then some 3 else nx7 ()
def j3 (N : Nat) (a : List dO) (s : Unit) : Option Int :=
  each (jX N a) jY a ()
def qx (N : Nat) (a : List dO) : Option Int :=
  bif (!(aP (a.length : Int) 1 4)) then some 2 else eU jZ (j3 N a) 0 a ()
theorem vH (N : Nat) (w0 : World) (M : BS) (hM : ∀ b, M b → b < w0.heap.size) (va : Value) (a : List dO) (ha : eY gT w0 BE M va a) (r : Int) (hs : qx N a = some r) :
    Calls Tryz.prog 112 #[va] w0 (fun e w' => Grow w0 w' ∧ e = .returned (.int .i64 r)) := by
 refine aH (args := [va]) Tryz.func112 rfl Tryz.ntmps112 (bB rfl) ?_
 have h := SH.init hM
 replace h := h.dR 1 ha aT
 have tZ := ha.bG
 refine nG (aa (ae (v := (I6 0)) rfl) (nK (aa (ag (v := va) rfl) (aa (bC gH rfl (h.fT 1 rfl)) (aM vT rfl rfl (fC _ _ h.lt (a.length : Int) 1 4 _ rfl) ?_)))))
 rintro _ w ⟨k1, rfl⟩
 refine ⟨_, rfl, ?_⟩
 replace h := h.grow k1
 refine aa (fU rfl) (nN (aG hs rfl (fun c2 hs => ?_) (fun c2 hs => ?_)))
 refine nG (aa (ae (v := (I6 2)) rfl) (nR (ax (bE (v := (I6 2)) Tryz.results112 rfl ?_))))
 obtain rfl := gM hs
 exact ⟨h.grown, rfl⟩
 refine aF (aj (aK (nG (aa (ag (v := va) rfl) (aa (bC gH rfl (h.fT 1 rfl)) (aa (ag (v := (I6 0)) rfl) (nN (aI (fe (σ := Nat × Int) (inl ([2, 3, 4] ++ rg 16 27)) (fun ⟨k3, i4⟩ => [(16, (I6 i4))]) (fun ⟨k3, i4⟩ w => SH w0 M BE w (hset [(1, .sr gT va a)]) ∧ i4 = (k3 : Int) ∧ eU jZ (j3 N a) i4 (a.drop k3) () = some r) (fun ⟨k3, i4⟩ => a.length - k3) ⟨0, 0⟩ ⟨rfl, trivial⟩ ?_ ?_)))))))))
 exact ⟨h.cn _, rfl, hs⟩
 rintro ⟨k3, i4⟩ w cZ ⟨h, hik, hs⟩
 refine nG ?_
 refine aa (dm rfl rfl) (nN ?_)
 refine aK (gF rfl (fun e8 => ?_) (fun e8 => ?_))
 refine aF (aj ?_)
 obtain ⟨x5, e9a, e9b⟩ := fH (hik ▸ e8)
 rw [e9b, jh] at hs
 generalize Y8 : eU jZ (j3 N a) (i4 + 1) (a.drop (k3 + 1)) = nx7 at hs
 have e9r := fK ((h.fT 1 rfl)).bG hik e8
 refine aK (aI (nG (aa (ag (v := (I6 i4)) rfl) ?_)))
 obtain ⟨b11, o12, Y9, h, Za, i10⟩ := h.xx 1 2 rfl gH rfl (ic hik) (fJ hik e9a)
 obtain ⟨A8, rfl, g16⟩ := qo Za
 replace h := h.bD 3 g16.up
 refine aa (i10 _ _ _ _ _ _ _ _ _ rfl rfl) (aa (iH (k := 0) (vs := [(I6 x5.params), (I6 x5.locals), A8]) h 2 rfl kI rfl rfl rfl (bB rfl)) (bL h 4 kI fun w b17 h => aa (ae (v := (I6 i4)) rfl) (dS (vs := [(I6 x5.params), (I6 x5.locals), A8]) h 4 [(I6 x5.params), (I6 x5.locals), A8] rfl kI rfl rfl rfl rfl rfl (ai rfl (ai rfl (ai (h.fq 3 rfl).one aZ))) fun w h => nJ (aa (ah sO rfl) (aa (aC h 4 rfl aS rfl rfl) (aM vT rfl rfl (fC _ _ h.lt x5.params 0 3 _ rfl) ?_))))))
 rintro _ w ⟨k18, rfl⟩
 refine ⟨_, rfl, ?_⟩
 replace h := h.grow k18
 refine aa (fU rfl) (aa (ag (v := (.bool ((!(aP x5.params 0 3))))) rfl) (aA rfl rfl (fun q => ah wF rfl) (aA rfl rfl (fun q => aC h 4 rfl aS (bZ q) rfl) (aA rfl rfl (fun q => ah sO rfl) (aA rfl rfl (fun q => aC h 4 rfl aS (bZ q) rfl) (IJ rfl rfl vT rfl (fun q => kF (bZ q) (kF (bZ q) (kF rfl rfl))) (fC _ _ h.lt x5.locals x5.params 6 _ rfl) fun w k19 => ?_))))))
 replace h := h.grow k19
 refine aA rfl rfl (fun q => fU (bZ q)) (aa (gK rfl rfl mX) (aa (ag (v := (.bool (((!(aP x5.params 0 3)) || (!(aP x5.locals x5.params 6)))))) rfl) (aA rfl rfl (fun q => ag (v := (I6 i4)) rfl) (aA rfl rfl (fun q => bH (bZ q) rfl) (aA rfl rfl (fun q => ag (v := (.bool (decide ((i4 : Int) = 0)))) (bZ q)) (l9 (((!(aP x5.params 0 3)) || (!(aP x5.locals x5.params 6))) == false) rfl rfl (fun q => ah sO rfl) (l9 (((!(aP x5.params 0 3)) || (!(aP x5.locals x5.params 6))) == false) rfl rfl (fun q => aC h 4 rfl aS (bZ q) rfl) (l9 (((!(aP x5.params 0 3)) || (!(aP x5.locals x5.params 6))) == false) rfl rfl (fun q => iK (bZ q) rfl) (aA rfl rfl (fun q => gG (bZ q) (Ol q) mX) (aa (gK rfl rfl mX) (nN (aG hs rfl (fun c20 hs => ?_) (fun c20 hs => ?_)))))))))))))
 refine nG (aa (ae (v := (I6 3)) rfl) (nR (aD (ax (ax (aD (ax (bE (v := (I6 3)) Tryz.results112 rfl ?_))))))))
 obtain rfl := gM hs
 exact ⟨h.grown, rfl⟩
 refine aF (au (aj (az (aa (bU rfl rfl e9r) (aa (ag (v := (I6 ((i4 + 1)))) rfl) (aB (ak ?_)))))))
 subst Y8
 exact iW ⟨k3 + 1, i4 + 1⟩ ⟨h.cn _, by omega, hs⟩ (by have := nX e8; dsimp only; omega)
 rw [fI (hik ▸ e8), oO] at hs
 refine jd (bK (bK (eF (aj (aK (nG (aa (ag (v := va) rfl) (aa (bC gH rfl (h.fT 1 rfl)) (aa (ag (v := (I6 0)) rfl) (nN (aI (fe (σ := Nat × Int) (inl ([2, 6, 7, 8, 9] ++ rg 45 22)) (fun ⟨k21, i22⟩ => [(45, (I6 i22))]) (fun ⟨k21, i22⟩ w => SH w0 M BE w (hset [(1, .sr gT va a)]) ∧ i22 = (k21 : Int) ∧ each (jX N a) jY (a.drop k21) () = some r) (fun ⟨k21, i22⟩ => a.length - k21) ⟨0, 0⟩ ⟨rfl, trivial⟩ ?_ ?_))))))))))))
 exact ⟨h.cn _, rfl, hs⟩
 rintro ⟨k21, i22⟩ w cZ ⟨h, hik, hs⟩
 refine nG ?_
 refine aa (dm rfl rfl) (nN ?_)
 refine aK (gF rfl (fun e26 => ?_) (fun e26 => ?_))
 refine aF (aj ?_)
 obtain ⟨rM, Zb, Zc⟩ := fH (hik ▸ e26)
 rw [Zc, cz] at hs
 generalize O8 : each (jX N a) jY (a.drop (k21 + 1)) = wM at hs
 have Zd := fK ((h.fT 1 rfl)).bG hik e26
 refine aK (aI (nG ?_))
 obtain ⟨Yb, o30, cs31, h, r32, i28⟩ := h.xx 1 5 rfl gH rfl (ic hik) (fJ hik Zb)
 obtain ⟨u33, rfl, Ze⟩ := qo r32
 replace h := h.bD 6 Ze.up
 refine aa (i28 _ _ _ _ _ _ _ _ _ rfl rfl) (aa (iH (k := 0) (vs := [(I6 rM.params), (I6 rM.locals), u33]) h 5 rfl kI rfl rfl rfl (bB rfl)) (bL h 7 kI fun w b35 h => dS (vs := [(I6 rM.params), (I6 rM.locals), u33]) h 7 [(I6 rM.params), (I6 rM.locals), u33] rfl kI rfl rfl rfl rfl rfl (ai rfl (ai rfl (ai (h.fq 6 rfl).one aZ))) fun w h => nK (aa (ah yJ rfl) (aa (aC h 7 rfl nD rfl rfl) ?_))))
 obtain ⟨kJ, e37, hs⟩ := aJ hs
 refine aM L6 rfl rfl (zS N _ _ h.lt u33 rM.body (h.mY 6 rfl) 4 _ e37) ?_
 rintro _ w ⟨RD, rfl⟩
 refine ⟨_, rfl, ?_⟩
 replace h := h.grow RD
 refine aa (ag (v := (.tuple #[(I6 kJ.1), (.bool (kJ.2))])) rfl) (aa (bz rfl rfl) (aa (bz rfl rfl) (aa (ae (v := (I6 kJ.1)) rfl) (aa (ae (v := (.bool (kJ.2))) rfl) (nJ (aa (ag (v := (.bool (kJ.2))) rfl) (aa (fU rfl) (nN (aG hs rfl (fun c39 hs => ?_) (fun c39 hs => ?_))))))))))
 refine nG (aa (ae (v := (I6 2)) rfl) (nR (ax (aD (ax (ax (aD (ax (bE (v := (I6 2)) Tryz.results112 rfl ?_)))))))))
 obtain rfl := gM hs
 exact ⟨h.grown, rfl⟩
 refine nS (aa (ah yJ rfl) (aa (aC h 7 rfl nD rfl rfl) (aa (ag (v := va) rfl) (aa (ah wF rfl) (aa (aC h 7 rfl aS rfl rfl) ?_)))))
 obtain ⟨SC, e41, hs⟩ := aJ hs
 refine aM Hg rfl rfl (vV N _ _ h.lt u33 rM.body (h.mY 6 rfl) va a (h.fT 1 rfl) rM.locals _ e41) ?_
 rintro _ w ⟨k42, rfl⟩
 refine ⟨_, rfl, ?_⟩
 replace h := h.grow k42
 refine aa (ae (v := (I6 SC)) rfl) (nJ (aa (ag (v := (I6 SC)) rfl) (aa (iK rfl rfl) (nN (aG hs rfl (fun Zf hs => ?_) (fun Zf hs => ?_))))))
 refine nG (aa (ag (v := (I6 SC)) rfl) (aa (ae (v := (I6 SC)) rfl) (nR (aD (ax (ax (aD (ax (bE (v := (I6 SC)) Tryz.results112 rfl ?_)))))))))
 obtain rfl := gM hs
 exact ⟨h.grown, rfl⟩
 refine aF (au (aj (az (aa (bU rfl rfl Zd) (aa (ag (v := (I6 ((i22 + 1)))) rfl) (aB (ak ?_)))))))
 subst O8
 exact iW ⟨k21 + 1, i22 + 1⟩ ⟨h.cn _, by omega, hs⟩ (by have := nX e26; dsimp only; omega)
 rw [fI (hik ▸ e26), fw] at hs
 refine nE (aa (ae (v := (I6 0)) rfl) (nR (bE (v := (I6 0)) Tryz.results112 rfl ?_)))
 obtain rfl := gM hs
 exact ⟨h.grown, rfl⟩
theorem qN (w0 : World) (M : BS) (hM : ∀ b, M b → b < w0.heap.size) (hT : sM Tryz.prog 4 w0) (a : Int) (r : Str) (hs : F3 a = some r) :
    Calls Tryz.prog 125 #[.int .i64 a] w0 (fun e w' => Grow w0 w' ∧ e = .returned (aN r)) :=
  TB Tryz.strconv_Itoa hT hs
theorem wN (w0 : World) (M : BS) (hM : ∀ b, M b → b < w0.heap.size) (hT : sM Tryz.prog 4 w0) (a : Str) (r : List Str) (hs : Bl a = some r) :
    Calls Tryz.prog 111 #[aN a] w0 (fun e w' => Grow w0 w' ∧ ∃ u, e = .returned u ∧ eB l8 w' M u r) :=
  OL Tryz.strings_Fields (q := 0) (by kernel_rfl) hM hT hs
def iG (a : Tok) : Option Str :=
  (F3 a.n).bind fun y2 => bif decide ((a.kind : Int) = 2) then gD ([118].length + y2.length ≤ 9223372036854775807) (some ([118] ++ y2)) else bif decide ((a.kind : Int) = 3) then gD (jg (a.n + 1)) ((subs? [63, 43, 45, 42, 60, 61] a.n (a.n + 1)).bind fun x9 => some x9) else bif decide ((a.kind : Int) = 4) then gD ([46].length + y2.length ≤ 9223372036854775807) (some ([46] ++ y2)) else bif decide ((a.kind : Int) = 5) then gD ([110, 101, 119].length + y2.length ≤ 9223372036854775807) (some ([110, 101, 119] ++ y2)) else bif decide ((a.kind : Int) = 6) then gD ([102].length + y2.length ≤ 9223372036854775807) (some ([102] ++ y2)) else some y2
theorem nI (w0 : World) (M : BS) (hM : ∀ b, M b → b < w0.heap.size) (hT : sM Tryz.prog 4 w0) (a : Tok) (r : Str) (hs : iG a = some r) :
    Calls Tryz.prog 106 #[(.agg #[(I6 a.kind), (I6 a.n)])] w0 (fun e w' => Grow w0 w' ∧ e = .returned (aN r)) := by
 refine aH (args := [(.agg #[(I6 a.kind), (I6 a.n)])]) Tryz.func106 rfl Tryz.ntmps106 (bB rfl) ?_
 have h := SH.init hM
 refine nG (ql (cs := [(I6 a.kind), (I6 a.n)]) h 1 rfl rfl fun w b1 h => aa (ae (v := (aN [])) rfl) (nJ (aa (ah lN rfl) (aa (aC h 1 rfl aS rfl rfl) ?_))))
 obtain ⟨y2, e3, hs⟩ := aJ hs
 refine aM DR rfl rfl (qN _ _ h.lt (hT.go h.keep) a.n _ e3) ?_
 rintro _ w ⟨k4, rfl⟩
 refine ⟨_, rfl, ?_⟩
 replace h := h.grow k4
 refine aa (ae (v := (aN y2)) rfl) (nK (aa (ah Bp rfl) (aa (aC h 1 rfl aS rfl rfl) (nN (aI (nG (aa (bH rfl rfl) (aa (ae (v := (.bool (decide ((a.kind : Int) = 2)))) rfl) (nN (aG hs rfl (fun c5 hs => ?_) (fun c5 hs => ?_)))))))))))
 refine nG (aa (ag (v := (aN y2)) rfl) ?_)
 obtain ⟨a6, hs⟩ := aW hs
 refine aa (kN rfl rfl a6) (aa (ae (v := (aN ([118] ++ y2))) rfl) (nR (aD (ax (bE (v := (aN ([118] ++ y2))) Tryz.results106 rfl ?_)))))
 obtain rfl := gM hs
 exact ⟨h.grown, rfl⟩
 refine nG (aa (bH rfl rfl) (aa (ae (v := (.bool (decide ((a.kind : Int) = 3)))) rfl) (nN (aG hs rfl (fun c7 hs => ?_) (fun c7 hs => ?_)))))
 refine nG (aa (ah lN rfl) (aa (aC h 1 rfl aS rfl rfl) (aa (ah lN rfl) (aa (aC h 1 rfl aS rfl rfl) ?_))))
 obtain ⟨a8, hs⟩ := aW hs
 refine aa (bU rfl rfl a8) ?_
 obtain ⟨x9, e10, hs⟩ := aJ hs
 obtain ⟨O9, Pb, Zg, e11⟩ := Kj e10
 refine aa (Ki e11 Tryz.underlying9 rfl (.inr (congrArg some rfl)) (.inr (congrArg some rfl)) O9 Pb Zg) (aa (ae (v := (aN x9)) rfl) (nR (aD (ax (bE (v := (aN x9)) Tryz.results106 rfl ?_)))))
 obtain rfl := gM hs
 exact ⟨h.grown, rfl⟩
 refine nG (aa (bH rfl rfl) (aa (ae (v := (.bool (decide ((a.kind : Int) = 4)))) rfl) (nN (aG hs rfl (fun c12 hs => ?_) (fun c12 hs => ?_)))))
 refine nG (aa (ag (v := (aN y2)) rfl) ?_)
 obtain ⟨a13, hs⟩ := aW hs
 refine aa (kN rfl rfl a13) (aa (ae (v := (aN ([46] ++ y2))) rfl) (nR (aD (ax (bE (v := (aN ([46] ++ y2))) Tryz.results106 rfl ?_)))))
 obtain rfl := gM hs
 exact ⟨h.grown, rfl⟩
 refine nG (aa (bH rfl rfl) (aa (ae (v := (.bool (decide ((a.kind : Int) = 5)))) rfl) (nN (aG hs rfl (fun c14 hs => ?_) (fun c14 hs => ?_)))))
 refine nG (aa (ag (v := (aN y2)) rfl) ?_)
 obtain ⟨a15, hs⟩ := aW hs
 refine aa (kN rfl rfl a15) (aa (ae (v := (aN ([110, 101, 119] ++ y2))) rfl) (nR (aD (ax (bE (v := (aN ([110, 101, 119] ++ y2))) Tryz.results106 rfl ?_)))))
 obtain rfl := gM hs
 exact ⟨h.grown, rfl⟩
 refine nG (aa (bH rfl rfl) (aa (ae (v := (.bool (decide ((a.kind : Int) = 6)))) rfl) (nN (aG hs rfl (fun c16 hs => ?_) (fun c16 hs => ?_)))))
 refine nG (aa (ag (v := (aN y2)) rfl) ?_)
 obtain ⟨a17, hs⟩ := aW hs
 refine aa (kN rfl rfl a17) (aa (ae (v := (aN ([102] ++ y2))) rfl) (nR (aD (ax (bE (v := (aN ([102] ++ y2))) Tryz.results106 rfl ?_)))))
 obtain rfl := gM hs
 exact ⟨h.grown, rfl⟩
 refine aF (au (aj (nG (aa (ag (v := (aN y2)) rfl) (aa (ae (v := (aN y2)) rfl) (nR (bE (v := (aN y2)) Tryz.results106 rfl ?_)))))))
 obtain rfl := gM hs
 exact ⟨h.grown, rfl⟩
def lS (x7 : Tok) (x4 : Str) (DT : Str → Option Str) : Option Str :=
  (iG x7).bind fun Fu => gD ([32].length + Fu.length ≤ 9223372036854775807) (gD (x4.length + ([32] ++ Fu).length ≤ 9223372036854775807) (DT (x4 ++ ([32] ++ Fu))))
def lT (x4 : Str) : Option Str :=
  some x4
def oo (a : List Tok) : Option Str :=
  each lS lT a []
theorem qO (w0 : World) (M : BS) (hM : ∀ b, M b → b < w0.heap.size) (hT : sM Tryz.prog 4 w0) (va : Value) (a : List Tok) (ha : eY jw w0 BE M va a) (r : Str) (hs : oo a = some r) :
    Calls Tryz.prog 147 #[va] w0 (fun e w' => Grow w0 w' ∧ e = .returned (aN r)) := by
 refine aH (args := [va]) Tryz.func147 rfl Tryz.ntmps147 (bB rfl) ?_
 have h := SH.init hM
 replace h := h.dR 1 ha aT
 have tZ := ha.bG
 refine nG (aa (ae (v := (aN [])) rfl) (nJ (aa (ae (v := (aN [])) rfl) (nK (aa (ag (v := va) rfl) (aa (bC ji rfl (h.fT 1 rfl)) (aa (ag (v := (I6 0)) rfl) (nN (aI (fe (σ := Nat × Int × Str) (inl ([3, 5] ++ rg 8 10)) (fun ⟨k5, i6, x4⟩ => [(3, (aN x4)), (8, (I6 i6))]) (fun ⟨k5, i6, x4⟩ w => SH w0 M BE w (hset [(1, .sr jw va a)]) ∧ i6 = (k5 : Int) ∧ each lS lT (a.drop k5) x4 = some r) (fun ⟨k5, i6, x4⟩ => a.length - k5) ⟨0, 0, []⟩ ⟨rfl, rfl, trivial⟩ ?_ ?_))))))))))
 exact ⟨h.cn _, rfl, hs⟩
 rintro ⟨k5, i6, x4⟩ w cZ ⟨h, hik, hs⟩
 refine nG ?_
 refine aa (dm rfl rfl) (nN ?_)
 refine aK (gF rfl (fun e10 => ?_) (fun e10 => ?_))
 refine aF (aj ?_)
 obtain ⟨x7, O9, Pb⟩ := fH (hik ▸ e10)
 rw [Pb, cz] at hs
 generalize Pf : each lS lT (a.drop (k5 + 1)) = DT at hs
 have Pg := fK ((h.fT 1 rfl)).bG hik e10
 refine aK (aI (nG ?_))
 obtain ⟨b13, o14, cs15, h, r16, i12⟩ := h.xx 1 2 rfl ji rfl (ic hik) (fJ hik O9)
 obtain rfl := r16
 refine aa (i12 _ _ _ _ _ _ _ _ _ rfl rfl) (aa (iH (k := 0) (vs := [(I6 x7.kind), (I6 x7.n)]) h 2 rfl je rfl rfl rfl (bB rfl)) (bL h 3 je fun w b17 h => dS (vs := [(I6 x7.kind), (I6 x7.n)]) h 3 [(I6 x7.kind), (I6 x7.n)] rfl je rfl rfl rfl rfl rfl (ai rfl (ai rfl aZ)) fun w h => nN (az (aa (ag (v := (aN x4)) rfl) (aa (fu (vs := [(I6 x7.kind), (I6 x7.n)]) h 3 rfl je rfl rfl rfl) ?_)))))
 obtain ⟨Fu, e19, hs⟩ := aJ hs
 refine aM Hd rfl rfl (nI _ _ h.lt (hT.go h.keep) x7 _ e19) ?_
 rintro _ w ⟨k20, rfl⟩
 refine ⟨_, rfl, ?_⟩
 replace h := h.grow k20
 obtain ⟨a21, hs⟩ := aW hs
 refine aa (kN rfl rfl a21) ?_
 obtain ⟨a22, hs⟩ := aW hs
 refine aa (kN rfl rfl a22) (aa (ae (v := (aN (x4 ++ ([32] ++ Fu)))) rfl) (aB (au (aj (az (aa (bU rfl rfl Pg) (aa (ag (v := (I6 ((i6 + 1)))) rfl) (aB (ak ?_)))))))))
 subst Pf
 exact iW ⟨k5 + 1, i6 + 1, (x4 ++ ([32] ++ Fu))⟩ ⟨h.cn _, by omega, hs⟩ (by have := nX e10; dsimp only; omega)
 rw [fI (hik ▸ e10), fw] at hs
 refine nE (aa (ag (v := (aN x4)) rfl) (aa (ae (v := (aN x4)) rfl) (nR (bE (v := (aN x4)) Tryz.results147 rfl ?_))))
 obtain rfl := gM hs
 exact ⟨h.grown, rfl⟩
def kP (DT : Str → Option Str) (Ir : Str) : Option Str :=
  DT Ir
def kQ (F0 : List aR → Option Str) (x7 : aR) (DT : Str → Option Str) (x34 : Str) : Option Str :=
  bif decide ((x7.kind : Int) = 6) then (F0 x7.b).bind fun kJ => gD ([32].length + kJ.length ≤ 9223372036854775807) (gD (x34.length + ([32] ++ kJ).length ≤ 9223372036854775807) (kP DT (x34 ++ ([32] ++ kJ)))) else kP DT x34
def kR (F0 : List aR → Option Str) (x7 : aR) (a : List aR) (DT : Str → Option Str) (x30 : Str) : Option Str :=
  (oo x7.e).bind fun oq => (oo x7.f).bind fun ou => gD (oq.length + ou.length ≤ 9223372036854775807) (gD (x30.length + (oq ++ ou).length ≤ 9223372036854775807) (bif (decide ((x7.kind : Int) = 6) || decide ((x7.kind : Int) = 7)) then (F0 x7.a).bind fun nL => gD ([32].length + nL.length ≤ 9223372036854775807) (gD ((x30 ++ (oq ++ ou)).length + ([32] ++ nL).length ≤ 9223372036854775807) (kQ F0 x7 DT ((x30 ++ (oq ++ ou)) ++ ([32] ++ nL)))) else kQ F0 x7 DT (x30 ++ (oq ++ ou))))
def kS (F0 : List aR → Option Str) (a : List aR) (x7 : aR) (x4 : Str) (DT : Str → Option Str) : Option Str :=
  gD (jg (x7.kind - 1)) ((Bl [115, 101, 116, 32, 112, 117, 116, 32, 115, 97, 121, 32, 112, 97, 117, 115, 101, 32, 103, 111, 32, 105, 102, 32, 119, 104, 105, 108, 101, 32, 114, 101, 116, 117, 114, 110]).bind fun Jc => (idx Jc (x7.kind - 1)).bind fun ow => gD ([32].length + ow.length ≤ 9223372036854775807) (gD (x4.length + ([32] ++ ow).length ≤ 9223372036854775807) (bif decide ((x7.kind : Int) ≤ 2) then (F3 x7.n).bind fun xm => gD ([32].length + xm.length ≤ 9223372036854775807) (gD ((x4 ++ ([32] ++ ow)).length + ([32] ++ xm).length ≤ 9223372036854775807) (kR F0 x7 a DT ((x4 ++ ([32] ++ ow)) ++ ([32] ++ xm)))) else kR F0 x7 a DT (x4 ++ ([32] ++ ow)))))
def kT (x4 : Str) : Option Str :=
  gD (x4.length + [32, 125].length ≤ 9223372036854775807) (some (x4 ++ [32, 125]))
def qy (F0 : List aR → Option Str) (a : List aR) : Option Str :=
  each (kS F0 a) kT a [123]
def iL : Nat → List aR → Option Str
  | 0 => fun _ => none
  | N + 1 => qy (iL N)
theorem wO : ∀ (N : Nat) (w0 : World) (M : BS) (hM : ∀ b, M b → b < w0.heap.size) (hT : sM Tryz.prog 4 w0) (va : Value) (a : List aR) (ha : eY dJ w0 BE M va a) (r : Str) (hs : iL N a = some r),
    Calls Tryz.prog 130 #[va] w0 (fun e w' => Grow w0 w' ∧ e = .returned (aN r)) := by
 intro N
 induction N with
 | zero => intro w0 M hM hT va a ha r hs; cases hs
 | succ N ih =>
 intro w0 M hM hT va a ha r hs
 replace hs : qy (iL N) a = some r := hs
 generalize iL N = F0 at hs ih
 refine aH (args := [va]) Tryz.func130 rfl Tryz.ntmps130 (bB rfl) ?_
 have h := SH.init hM
 replace h := h.dR 1 ha aT
 have tZ := ha.bG
 refine nG (aa (ae (v := (aN [])) rfl) (nJ (aa (ae (v := (aN [123])) rfl) (nK (aa (ag (v := va) rfl) (aa (bC jI rfl (h.fT 1 rfl)) (aa (ag (v := (I6 0)) rfl) (nN (aI (fe (σ := Nat × Int × Str) (inl ([3, 5] ++ rg 8 55)) (fun ⟨k5, i6, x4⟩ => [(3, (aN x4)), (8, (I6 i6))]) (fun ⟨k5, i6, x4⟩ w => SH w0 M BE w (hset [(1, .sr dJ va a)]) ∧ i6 = (k5 : Int) ∧ each (kS F0 a) kT (a.drop k5) x4 = some r) (fun ⟨k5, i6, x4⟩ => a.length - k5) ⟨0, 0, [123]⟩ ⟨rfl, rfl, trivial⟩ ?_ ?_))))))))))
 exact ⟨h.cn _, rfl, hs⟩
 rintro ⟨k5, i6, x4⟩ w cZ ⟨h, hik, hs⟩
 refine nG ?_
 refine aa (dm rfl rfl) (nN ?_)
 refine aK (gF rfl (fun e10 => ?_) (fun e10 => ?_))
 refine aF (aj ?_)
 obtain ⟨x7, O9, Pb⟩ := fH (hik ▸ e10)
 rw [Pb, cz] at hs
 generalize Pf : each (kS F0 a) kT (a.drop (k5 + 1)) = DT at hs
 have Pg := fK ((h.fT 1 rfl)).bG hik e10
 refine bQ (σ := Str) (inl ([3, 5] ++ rg 10 52)) (fun Ir => [(3, (aN Ir))]) (fun Ir w => SH w0 M BE w (hset [(1, .sr dJ va a)]) ∧ kP DT Ir = some r) ?_ ?_
 rintro Ir w cZ ⟨h, hs⟩
 refine az (aa (bU rfl rfl Pg) (aa (ag (v := (I6 ((i6 + 1)))) rfl) (aB (ak ?_))))
 subst Pf
 exact iW ⟨k5 + 1, i6 + 1, Ir⟩ ⟨h.cn _, by omega, hs⟩ (by have := nX e10; dsimp only; omega)
 refine aI (nG ?_)
 obtain ⟨b14, o15, YA, h, YB, i13⟩ := h.xx 1 2 rfl jI rfl (ic hik) (fJ hik O9)
 obtain ⟨NW, u20, u22, u24, rfl, g19, g21, g23, Uj⟩ := xz YB
 replace h := h.bD 3 g19.up
 replace h := h.bD 4 g21.up.up
 replace h := h.bD 5 g23.up.up.up
 replace h := h.bD 6 Uj.up.up.up.up
 refine aa (i13 _ _ _ _ _ _ _ _ _ rfl rfl) (aa (iH (k := 0) (vs := [(I6 x7.kind), (I6 x7.n), NW, u20, u22, u24]) h 2 rfl mr rfl rfl rfl (bB rfl)) (bL h 7 mr fun w Vo h => dS (vs := [(I6 x7.kind), (I6 x7.n), NW, u20, u22, u24]) h 7 [(I6 x7.kind), (I6 x7.n), NW, u20, u22, u24] rfl mr rfl rfl rfl rfl rfl (ai rfl (ai rfl (ai (h.fq 3 rfl).one (ai (h.fq 4 rfl).one (ai (h.fq 5 rfl).one (ai (h.fq 6 rfl).one aZ)))))) fun w h => nN (aK (DJ mixed h fun w h => ma 0 (aO.refl BE _) rfl ay (by kernel_rfl) (by kernel_rfl) (by kernel_rfl) (fun w hk => ag (v := (aN x4)) rfl) (ma 2 (aO.refl BE _) rfl ay (by kernel_rfl) (by kernel_rfl) (by kernel_rfl) (fun w hk => ah iZ rfl) (ma 3 (aO.refl BE _) rfl ay (by kernel_rfl) (by kernel_rfl) (by kernel_rfl) (fun w hk => have h := h.grow hk; aC h 7 rfl aS rfl rfl) ?_))))))
 obtain ⟨Et, hs⟩ := aW hs
 refine ma 4 (aO.refl BE _) rfl ay (by kernel_rfl) (by kernel_rfl) (by kernel_rfl) (fun w hk => sG rfl rfl Et) ?_
 obtain ⟨Ph, Jd⟩ : ∃ x, x = w := ⟨_, rfl⟩
 have qE : Grow Ph w := Jd ▸ aO.refl BE w
 refine LJ Jd.symm (xy 1 (by kernel_rfl) rfl ay ?_)
 obtain ⟨Jc, Pj, hs⟩ := aJ hs
 refine aM LZ rfl rfl (wN _ _ h.lt (hT.go h.keep) [115, 101, 116, 32, 112, 117, 116, 32, 115, 97, 121, 32, 112, 97, 117, 115, 101, 32, 103, 111, 32, 105, 102, 32, 119, 104, 105, 108, 101, 32, 114, 101, 116, 117, 114, 110] _ Pj) ?_
 rintro _ w ⟨Je, Wi, rfl, Pk⟩
 refine ⟨_, rfl, ?_⟩
 replace h := h.Bc 20 Je Pk
 replace qE := qE.trans Je
 refine aB (uE qE ?_)
 obtain ⟨ow, Jf, hs⟩ := aJ hs
 obtain ⟨Wj, Wl, Vs, h, Pm, Pn⟩ := h.FU 20 68 rfl dK rfl (aU Jf).1 (aU Jf).2
 obtain rfl := Pm
 refine Ai 5 qE rfl (by kernel_rfl) (fun w hk => Pn _ _ _ _ _ _ _ _ _ rfl rfl) (QY qE ?_)
 obtain ⟨MW, Kw⟩ : ∃ x, x = w := ⟨_, rfl⟩
 have Vt : Grow MW w := Kw ▸ aO.refl _ _
 refine ma 6 (aO.refl BE _) rfl ay (by kernel_rfl) (by kernel_rfl) (by kernel_rfl) (fun w hk => have h := h.grow hk; dY (k := 0) h 68 rfl wK rfl rfl) ?_
 obtain ⟨Po, hs⟩ := aW hs
 refine ma 7 (aO.refl BE _) rfl ay (by kernel_rfl) (by kernel_rfl) (by kernel_rfl) (fun w hk => kN rfl rfl Po) ?_
 obtain ⟨Pp, hs⟩ := aW hs
 refine ma 8 (aO.refl BE _) rfl ay (by kernel_rfl) (by kernel_rfl) (by kernel_rfl) (fun w hk => kN rfl rfl Pp) (ma 9 (aO.refl BE _) rfl ay (by kernel_rfl) (by kernel_rfl) (by kernel_rfl) (fun w hk => ae (v := (aN (x4 ++ ([32] ++ ow)))) rfl) (Bh (by kernel_rfl) (aj (bQ (σ := Str) (inl ([3] ++ rg 21 9)) (fun x30 => [(3, (aN x30))]) (fun x30 w => SH w0 M BE w (hset [(1, .sr dJ va a), (3, .rd jw NW x7.e), (4, .rd jw u20 x7.f), (5, .rd dJ u22 x7.a), (6, .rd dJ u24 x7.b), (7, .blk Vo [(I6 x7.kind), (I6 x7.n), NW, u20, u22, u24])]) ∧ kR F0 x7 a DT x30 = some r) ?_ ?_))))
 rintro x30 w cZ ⟨h, hs⟩
 refine aK (DJ mixed h fun w h => ma 0 (aO.refl BE _) rfl ay (by kernel_rfl) (by kernel_rfl) (by kernel_rfl) (fun w hk => ag (v := (aN x30)) rfl) (ma 1 (aO.refl BE _) rfl ay (by kernel_rfl) (by kernel_rfl) (by kernel_rfl) (fun w hk => ah wG rfl) (ma 2 (aO.refl BE _) rfl ay (by kernel_rfl) (by kernel_rfl) (by kernel_rfl) (fun w hk => have h := h.grow hk; aC h 7 rfl u7 rfl rfl) (ma 4 (aO.refl BE _) rfl ay (by kernel_rfl) (by kernel_rfl) (by kernel_rfl) (fun w hk => ah yK rfl) (ma 5 (aO.refl BE _) rfl ay (by kernel_rfl) (by kernel_rfl) (by kernel_rfl) (fun w hk => have h := h.grow hk; aC h 7 rfl u7 rfl rfl) ?_)))))
 obtain ⟨Ky, Jg⟩ : ∃ x, x = w := ⟨_, rfl⟩
 have lI : Grow Ky w := Jg ▸ aO.refl BE w
 refine LJ Jg.symm (xy 3 (by kernel_rfl) rfl ay ?_)
 obtain ⟨oq, Pq, hs⟩ := aJ hs
 refine aM L9 rfl rfl (qO _ _ h.lt (hT.go h.keep) NW x7.e (h.mY 3 rfl) _ Pq) ?_
 rintro _ w ⟨Jh, rfl⟩
 refine ⟨_, rfl, ?_⟩
 replace h := h.grow Jh
 replace lI := lI.trans Jh
 refine aB (uE lI (xy 6 (by kernel_rfl) rfl ay ?_))
 obtain ⟨ou, Ps, hs⟩ := aJ hs
 refine aM L9 rfl rfl (qO _ _ h.lt (hT.go h.keep) u20 x7.f (h.mY 4 rfl) _ Ps) ?_
 rintro _ w ⟨Ji, rfl⟩
 refine ⟨_, rfl, ?_⟩
 replace h := h.grow Ji
 replace lI := lI.trans Ji
 refine aB (uE lI ?_)
 obtain ⟨Pt, hs⟩ := aW hs
 refine Ai 7 lI rfl (by kernel_rfl) (fun w hk => kN rfl rfl Pt) ?_
 obtain ⟨Pv, hs⟩ := aW hs
 refine Ai 8 lI rfl (by kernel_rfl) (fun w hk => kN rfl rfl Pv) (Ai 9 lI rfl (by kernel_rfl) (fun w hk => ae (v := (aN (x30 ++ (oq ++ ou)))) rfl) (Bh (by kernel_rfl) (aj (bQ (σ := Str) (inl ([3] ++ rg 39 14)) (fun x34 => [(3, (aN x34))]) (fun x34 w => SH w0 M BE w (hset [(1, .sr dJ va a), (3, .rd jw NW x7.e), (4, .rd jw u20 x7.f), (5, .rd dJ u22 x7.a), (6, .rd dJ u24 x7.b), (7, .blk Vo [(I6 x7.kind), (I6 x7.n), NW, u20, u22, u24])]) ∧ kQ F0 x7 DT x34 = some r) ?_ ?_))))
 rintro x34 w cZ ⟨h, hs⟩
 refine nG (aa (ah iZ rfl) (aa (aC h 7 rfl aS rfl rfl) (aa (bH rfl rfl) (nN (aG hs rfl (fun Us hs => ?_) (fun Us hs => ?_))))))
 refine az (aa (ag (v := (aN x34)) rfl) (aa (ah wI rfl) (aa (aC h 7 rfl nD rfl rfl) ?_)))
 obtain ⟨kJ, e37, hs⟩ := aJ hs
 refine aM Hl rfl rfl (ih _ _ h.lt (hT.go h.keep) u24 x7.b (h.mY 6 rfl) _ e37) ?_
 rintro _ w ⟨RD, rfl⟩
 refine ⟨_, rfl, ?_⟩
 replace h := h.grow RD
 obtain ⟨a39, hs⟩ := aW hs
 refine aa (kN rfl rfl a39) ?_
 obtain ⟨a40, hs⟩ := aW hs
 refine aa (kN rfl rfl a40) (aa (ae (v := (aN (x34 ++ ([32] ++ kJ)))) rfl) (aB (au (ak ?_))))
 exact bO (x34 ++ ([32] ++ kJ)) ⟨h.cn _, hs⟩
 refine aF (au (ak ?_))
 exact bO x34 ⟨h.cn _, hs⟩
 refine nG (aa (ah iZ rfl) (aa (aC h 7 rfl aS rfl rfl) (aa (bH rfl rfl) (aa (ag (v := (.bool (decide ((x7.kind : Int) = 6)))) rfl) (aA rfl rfl (fun q => ah iZ rfl) (aA rfl rfl (fun q => aC h 7 rfl aS (bZ q) rfl) (aA rfl rfl (fun q => bH (bZ q) rfl) (aa (gK rfl rfl mX) (nN (aG hs rfl (fun Uo hs => ?_) (fun Uo hs => ?_)))))))))))
 refine az (aa (ag (v := (aN (x30 ++ (oq ++ ou)))) rfl) (aa (ah wH rfl) (aa (aC h 7 rfl nD rfl rfl) ?_)))
 obtain ⟨nL, e43, hs⟩ := aJ hs
 refine aM Hl rfl rfl (ih _ _ h.lt (hT.go h.keep) u22 x7.a (h.mY 5 rfl) _ e43) ?_
 rintro _ w ⟨k44, rfl⟩
 refine ⟨_, rfl, ?_⟩
 replace h := h.grow k44
 obtain ⟨a45, hs⟩ := aW hs
 refine aa (kN rfl rfl a45) ?_
 obtain ⟨a46, hs⟩ := aW hs
 refine aa (kN rfl rfl a46) (aa (ae (v := (aN ((x30 ++ (oq ++ ou)) ++ ([32] ++ nL)))) rfl) (aB (ak ?_)))
 exact bO ((x30 ++ (oq ++ ou)) ++ ([32] ++ nL)) ⟨h.cn _, hs⟩
 refine aF (ak ?_)
 exact bO (x30 ++ (oq ++ ou)) ⟨h.cn _, hs⟩
 refine nG (aa (ah iZ rfl) (aa (aC h 7 rfl aS rfl rfl) (aa (CY rfl rfl) (nN (aG hs rfl (fun Y4 hs => ?_) (fun Y4 hs => ?_))))))
 refine az (aa (ag (v := (aN (x4 ++ ([32] ++ ow)))) rfl) (aa (ah sP rfl) (aa (aC h 7 rfl aS rfl rfl) ?_)))
 obtain ⟨xm, e49, hs⟩ := aJ hs
 refine aM DR rfl rfl (qN _ _ h.lt (hT.go h.keep) x7.n _ e49) ?_
 rintro _ w ⟨Y5, rfl⟩
 refine ⟨_, rfl, ?_⟩
 replace h := h.grow Y5
 obtain ⟨a51, hs⟩ := aW hs
 refine aa (kN rfl rfl a51) ?_
 obtain ⟨a52, hs⟩ := aW hs
 refine aa (kN rfl rfl a52) (aa (ae (v := (aN ((x4 ++ ([32] ++ ow)) ++ ([32] ++ xm)))) rfl) (aB (ak ?_)))
 exact bO ((x4 ++ ([32] ++ ow)) ++ ([32] ++ xm)) ⟨h.cn _, hs⟩
 refine aF (ak ?_)
 exact bO (x4 ++ ([32] ++ ow)) ⟨h.cn _, hs⟩
 rw [fI (hik ▸ e10), fw] at hs
 refine nE (aa (ag (v := (aN x4)) rfl) ?_)
 obtain ⟨a53, hs⟩ := aW hs
 refine aa (kN rfl rfl a53) (aa (ae (v := (aN (x4 ++ [32, 125]))) rfl) (nR (bE (v := (aN (x4 ++ [32, 125]))) Tryz.results130 rfl ?_)))
 obtain rfl := gM hs
 exact ⟨h.grown, rfl⟩
theorem Eu (w0 : World) (M : BS) (hM : ∀ b, M b → b < w0.heap.size) (va : Value) (a : List Str) (ha : eY l8 w0 BE M va a) (b : Str) (r : Str) (hs : Oz a b = some r) :
    Calls Tryz.prog 131 #[va, aN b] w0 (fun e w' => Grow w0 w' ∧ e = .returned (aN r)) :=
  TE Tryz.strings_Join_none Tryz.strings_Join ha hs
def kU (N : Nat) (dx : dO) (x8 : List Str) (lD : List Str → Option Str) : Option Str :=
  (F3 dx.params).bind fun ni => gD ([102, 117, 110, 32].length + ni.length ≤ 9223372036854775807) (gD (([102, 117, 110, 32] ++ ni).length + [32].length ≤ 9223372036854775807) ((F3 dx.locals).bind fun pQ => gD ((([102, 117, 110, 32] ++ ni) ++ [32]).length + pQ.length ≤ 9223372036854775807) (gD (((([102, 117, 110, 32] ++ ni) ++ [32]) ++ pQ).length + [32].length ≤ 9223372036854775807) ((iL N dx.body).bind fun qz => gD ((((([102, 117, 110, 32] ++ ni) ++ [32]) ++ pQ) ++ [32]).length + qz.length ≤ 9223372036854775807) (gD (Room 16 x8 [((((([102, 117, 110, 32] ++ ni) ++ [32]) ++ pQ) ++ [32]) ++ qz)]) (lD (x8 ++ [((((([102, 117, 110, 32] ++ ni) ++ [32]) ++ pQ) ++ [32]) ++ qz)])))))))
def kV (x8 : List Str) : Option Str :=
  (Oz x8 [32]).bind fun DU => some DU
def qP (N : Nat) (a : List dO) : Option Str :=
  each (kU N) kV a []
theorem vX (N : Nat) (w0 : World) (M : BS) (hM : ∀ b, M b → b < w0.heap.size) (hT : sM Tryz.prog 4 w0) (va : Value) (a : List dO) (ha : eY gT w0 BE M va a) (r : Str) (hs : qP N a = some r) :
    Calls Tryz.prog 113 #[va] w0 (fun e w' => Grow w0 w' ∧ e = .returned (aN r)) := by
 refine aH (args := [va]) Tryz.func113 rfl Tryz.ntmps113 (bB rfl) ?_
 have h := SH.init hM
 replace h := h.dR 1 ha aT
 have tZ := ha.bG
 refine nG (aa (ae (v := (aN [])) rfl) (nJ (aa (ae (v := (.slice none 0 0)) rfl) (nK (aa (ag (v := va) rfl) (aa (bC gH rfl (h.fT 1 rfl)) (aa (ag (v := (I6 0)) rfl) (nN (aI ?_)))))))))
 replace h := h.vS (R := l8) (E := 9) 5
 refine fe (σ := Nat × Int × Value × List Str) (inl ([3, 5] ++ rg 8 22)) (fun ⟨k9, i10, v7, x8⟩ => [(3, v7), (8, (I6 i10))]) (fun ⟨k9, i10, v7, x8⟩ w => SH w0 M BE w (hset [(1, .sr gT va a), (5, .own l8 9 v7 x8)]) ∧ i10 = (k9 : Int) ∧ each (kU N) kV (a.drop k9) x8 = some r) (fun ⟨k9, i10, v7, x8⟩ => a.length - k9) ⟨0, 0, (.slice none 0 0), []⟩ ⟨rfl, rfl, trivial⟩ ?_ ?_
 exact ⟨h.cn _, rfl, hs⟩
 rintro ⟨k9, i10, v7, x8⟩ w cZ ⟨h, hik, hs⟩
 refine nG ?_
 refine aa (dm rfl rfl) (nN ?_)
 refine aK (gF rfl (fun e14 => ?_) (fun e14 => ?_))
 refine aF (aj ?_)
 obtain ⟨dx, Hr, Ht⟩ := fH (hik ▸ e14)
 rw [Ht, cz] at hs
 generalize BA : each (kU N) kV (a.drop (k9 + 1)) = lD at hs
 have Hu := fK ((h.fT 1 rfl)).bG hik e14
 refine aK (aI (nG ?_))
 obtain ⟨b17, Yc, RF, h, Pw, i16⟩ := h.xx 1 6 rfl gH rfl (ic hik) (fJ hik Hr)
 obtain ⟨u21, rfl, g22⟩ := qo Pw
 replace h := h.bD 7 g22.up
 refine aa (i16 _ _ _ _ _ _ _ _ _ rfl rfl) (aa (iH (k := 0) (vs := [(I6 dx.params), (I6 dx.locals), u21]) h 6 rfl kI rfl rfl rfl (bB rfl)) (bL h 8 kI fun w Aa h => dS (vs := [(I6 dx.params), (I6 dx.locals), u21]) h 8 [(I6 dx.params), (I6 dx.locals), u21] rfl kI rfl rfl rfl rfl rfl (ai rfl (ai rfl (ai (h.fq 7 rfl).one aZ))) fun w h => nN (sJ (L := (ob v7)) mixed h fun w h => dn 0 (aO.refl _ _) rfl ay (by kernel_rfl) (by kernel_rfl) (by kernel_rfl) (fun w hk => ag (v := v7) rfl) (dn 1 (aO.refl _ _) rfl ay (by kernel_rfl) (by kernel_rfl) (by kernel_rfl) (fun w hk => ah sO rfl) (dn 2 (aO.refl _ _) rfl ay (by kernel_rfl) (by kernel_rfl) (by kernel_rfl) (fun w hk => have h := h.uw 5 rfl hk; aC h 8 rfl aS rfl rfl) (dn 6 (aO.refl _ _) rfl ay (by kernel_rfl) (by kernel_rfl) (by kernel_rfl) (fun w hk => ah wF rfl) (dn 7 (aO.refl _ _) rfl ay (by kernel_rfl) (by kernel_rfl) (by kernel_rfl) (fun w hk => have h := h.uw 5 rfl hk; aC h 8 rfl aS rfl rfl) (dn 11 (aO.refl _ _) rfl ay (by kernel_rfl) (by kernel_rfl) (by kernel_rfl) (fun w hk => ah yJ rfl) (dn 12 (aO.refl _ _) rfl ay (by kernel_rfl) (by kernel_rfl) (by kernel_rfl) (fun w hk => have h := h.uw 5 rfl hk; aC h 8 rfl nD rfl rfl) ?_)))))))))
 obtain ⟨Ph, Jd⟩ : ∃ x, x = w := ⟨_, rfl⟩
 have qE : aO (ob v7) Ph w := Jd ▸ aO.refl (ob v7) w
 refine yB Jd.symm (bS 3 (by kernel_rfl) rfl ay ?_)
 obtain ⟨ni, Px, hs⟩ := aJ hs
 refine aM DR rfl rfl (qN _ _ h.lt (hT.go h.keep) dx.params _ Px) ?_
 rintro _ w ⟨Jj, rfl⟩
 refine ⟨_, rfl, ?_⟩
 replace h := h.grow Jj
 replace qE := qE.grow Jj
 refine aB (aV qE ?_)
 obtain ⟨Et, hs⟩ := aW hs
 refine gQ 4 qE rfl (by kernel_rfl) (fun w hk => kN rfl rfl Et) ?_
 obtain ⟨Py, hs⟩ := aW hs
 refine gQ 5 qE rfl (by kernel_rfl) (fun w hk => kN rfl rfl Py) (bS 8 (by kernel_rfl) rfl ay ?_)
 obtain ⟨pQ, Pz, hs⟩ := aJ hs
 refine aM DR rfl rfl (qN _ _ h.lt (hT.go h.keep) dx.locals _ Pz) ?_
 rintro _ w ⟨Jk, rfl⟩
 refine ⟨_, rfl, ?_⟩
 replace h := h.grow Jk
 replace qE := qE.grow Jk
 refine aB (aV qE ?_)
 obtain ⟨PD, hs⟩ := aW hs
 refine gQ 9 qE rfl (by kernel_rfl) (fun w hk => kN rfl rfl PD) ?_
 obtain ⟨MX, hs⟩ := aW hs
 refine gQ 10 qE rfl (by kernel_rfl) (fun w hk => kN rfl rfl MX) (bS 13 (by kernel_rfl) rfl ay ?_)
 obtain ⟨qz, MZ, hs⟩ := aJ hs
 refine aM Hl rfl rfl (wO N _ _ h.lt (hT.go h.keep) u21 dx.body (h.mY 7 rfl) _ MZ) ?_
 rintro _ w ⟨Gc, rfl⟩
 refine ⟨_, rfl, ?_⟩
 replace h := h.grow Gc
 replace qE := qE.grow Gc
 refine aB (aV qE ?_)
 obtain ⟨M0, hs⟩ := aW hs
 refine gQ 14 qE rfl (by kernel_rfl) (fun w hk => kN rfl rfl M0) (bS 15 (by kernel_rfl) rfl ay (zZ (R := l8) (vs := [(aN ((((([102, 117, 110, 32] ++ ni) ++ [32]) ++ pQ) ++ [32]) ++ qz))]) (xs := [((((([102, 117, 110, 32] ++ ni) ++ [32]) ++ pQ) ++ [32]) ++ qz)]) h 189 Ga rfl rfl rfl ⟨rfl, trivial⟩ rfl fun w M3 h Kz KA => ?_))
 have Ut : ∀ b, ob M3 b → Ph.heap.size ≤ b := fun b hb => Nat.le_trans qE.size (KA b hb)
 replace qE := qE.grow Kz
 refine aB (aV qE (bS 16 (by kernel_rfl) rfl ay ?_))
 obtain ⟨Gd, hs⟩ := aW hs
 have Uu := qE.size
 refine pY (R := l8) (m := [((((([102, 117, 110, 32] ++ ni) ++ [32]) ++ pQ) ++ [32]) ++ qz)]) h 5 rfl (h.dE 189 rfl) Ga rfl rfl rfl Gd.1 Gd.2 fun w Ct h KC KD => ?_
 have Uv : ∀ b, ob Ct b → b < Ph.heap.size → ob v7 b := fun b hb hl => KD b hb (Nat.lt_of_lt_of_le hl (qE).size)
 replace qE := qE.same KC
 refine aB (aV qE (gQ 17 qE rfl (by kernel_rfl) (fun w hk => ae (v := Ct) rfl) (jG (by kernel_rfl) (au (aj (az (aa (bU rfl rfl Hu) (aa (ag (v := (I6 ((i10 + 1)))) rfl) (aB (ak ?_))))))))))
 subst BA
 exact iW ⟨k9 + 1, i10 + 1, Ct, (x8 ++ [((((([102, 117, 110, 32] ++ ni) ++ [32]) ++ pQ) ++ [32]) ++ qz)])⟩ ⟨h.cn _, by omega, hs⟩ (by have := nX e14; dsimp only; omega)
 rw [fI (hik ▸ e14), fw] at hs
 refine nE (aa (ag (v := v7) rfl) ?_)
 obtain ⟨DU, e31, hs⟩ := aJ hs
 refine aM Ru rfl rfl (Eu _ _ h.lt v7 x8 (h.dE 5 rfl) [32] _ e31) ?_
 rintro _ w ⟨k32, rfl⟩
 refine ⟨_, rfl, ?_⟩
 replace h := h.grow k32
 refine aa (ae (v := (aN DU)) rfl) (nR (bE (v := (aN DU)) Tryz.results113 rfl ?_))
 obtain rfl := gM hs
 exact ⟨h.grown, rfl⟩
def stringslite_HasPrefix (a : Str) (b : Str) : Option Bool :=
  bif decide (((b.length : Int) : Int) ≤ (a.length : Int)) then (subs? a 0 (b.length : Int)).bind fun x2 => some (decide ((x2 : Str) = b)) else some false
theorem wP (w0 : World) (M : BS) (hM : ∀ b, M b → b < w0.heap.size) (a : Str) (b : Str) (r : Bool) (hs : stringslite_HasPrefix a b = some r) :
    Calls Tryz.prog 141 #[(aN a), (aN b)] w0 (fun e w' => Grow w0 w' ∧ e = .returned (.bool r)) := by
 refine aH (args := [(aN a), (aN b)]) Tryz.func141 rfl Tryz.ntmps141 (bB rfl) ?_
 have h := SH.init hM
 refine nG (aa (ae (v := (.bool (false))) rfl) (nJ (aa (ag (v := (aN a)) rfl) (aa (GM Tryz.underlying9 rfl) (aa (ag (v := (aN b)) rfl) (aa (GM Tryz.underlying9 rfl) (aa (pq rfl rfl) (aa (ag (v := (.bool (decide (((b.length : Int) : Int) ≤ (a.length : Int))))) rfl) (mi (b := decide (((b.length : Int) : Int) ≤ (a.length : Int))) hs (fun c1 hs => ?_) (fun c1 hs => ?_))))))))))
 refine dB rfl (cB c1) (aa (ag (v := (aN a)) rfl) (dB rfl (cB c1) (aa (ag (v := (aN b)) rfl) (dB rfl (cB c1) (aa (GM Tryz.underlying9 rfl) (dB rfl (cB c1) ?_))))))
 obtain ⟨x2, e3, hs⟩ := aJ hs
 obtain ⟨e4a, e4b, e4c, e4⟩ := Kj e3
 refine aa (Ki e4 Tryz.underlying9 rfl (.inl ⟨rfl, rfl⟩) (.inr (congrArg some rfl)) e4a e4b e4c) (dB rfl (cB c1) (aa (ag (v := (aN b)) rfl) (dB rfl (cB c1) (aa (Cj rfl rfl) (aa (fo (b := true) (v := (.bool (decide ((x2 : Str) = b)))) (cB c1) rfl) (aa (ae (v := (.bool (decide ((x2 : Str) = b)))) rfl) (nR (bE (v := (.bool (decide ((x2 : Str) = b)))) Tryz.results141 rfl ?_))))))))
 obtain rfl := gM hs
 exact ⟨h.grown, rfl⟩
 refine uZ rfl (cB c1) rfl (uZ rfl (cB c1) rfl (uZ rfl (cB c1) rfl (uZ rfl (cB c1) rfl (uZ rfl (cB c1) rfl (uZ rfl (cB c1) rfl (aa (fo (b := false) (v := (.bool (false))) (cB c1) rfl) (aa (ae (v := (.bool (false))) rfl) (nR (bE (v := (.bool (false))) Tryz.results141 rfl ?_)))))))))
 obtain rfl := gM hs
 exact ⟨h.grown, rfl⟩
def stringslite_TrimPrefix (a : Str) (b : Str) : Option Str :=
  (stringslite_HasPrefix a b).bind fun y1 => bif y1 then (subs? a (b.length : Int) (a.length : Int)).bind fun x5 => some x5 else some a
theorem vY (w0 : World) (M : BS) (hM : ∀ b, M b → b < w0.heap.size) (a : Str) (b : Str) (r : Str) (hs : stringslite_TrimPrefix a b = some r) :
    Calls Tryz.prog 124 #[(aN a), (aN b)] w0 (fun e w' => Grow w0 w' ∧ e = .returned (aN r)) := by
 refine aH (args := [(aN a), (aN b)]) Tryz.func124 rfl Tryz.ntmps124 (bB rfl) ?_
 have h := SH.init hM
 refine nG (aa (ae (v := (aN [])) rfl) (nK (aa (ag (v := (aN a)) rfl) (aa (ag (v := (aN b)) rfl) ?_))))
 obtain ⟨y1, e2, hs⟩ := aJ hs
 refine aM Rv rfl rfl (wP _ _ h.lt a b _ e2) ?_
 rintro _ w ⟨k3, rfl⟩
 refine ⟨_, rfl, ?_⟩
 replace h := h.grow k3
 refine nN (aG hs rfl (fun c4 hs => ?_) (fun c4 hs => ?_))
 refine nG (aa (ag (v := (aN a)) rfl) (aa (ag (v := (aN b)) rfl) (aa (GM Tryz.underlying9 rfl) ?_)))
 obtain ⟨x5, e6, hs⟩ := aJ hs
 obtain ⟨YX, YY, e7c, e7⟩ := Kj e6
 refine aa (Ki e7 Tryz.underlying9 rfl (.inr (congrArg some rfl)) (.inl ⟨rfl, rfl⟩) YX YY e7c) (aa (ae (v := (aN x5)) rfl) (nR (ax (bE (v := (aN x5)) Tryz.results124 rfl ?_))))
 obtain rfl := gM hs
 exact ⟨h.grown, rfl⟩
 refine nS (aa (ag (v := (aN a)) rfl) (aa (ae (v := (aN a)) rfl) (nR (bE (v := (aN a)) Tryz.results124 rfl ?_))))
 obtain rfl := gM hs
 exact ⟨h.grown, rfl⟩
def strings_TrimPrefix (a : Str) (b : Str) : Option Str :=
  (stringslite_TrimPrefix a b).bind fun y1 => some y1
theorem yL (w0 : World) (M : BS) (hM : ∀ b, M b → b < w0.heap.size) (a : Str) (b : Str) (r : Str) (hs : strings_TrimPrefix a b = some r) :
    Calls Tryz.prog 105 #[(aN a), (aN b)] w0 (fun e w' => Grow w0 w' ∧ e = .returned (aN r)) := by
 refine aH (args := [(aN a), (aN b)]) Tryz.func105 rfl Tryz.ntmps105 (bB rfl) ?_
 have h := SH.init hM
 refine nG (aa (ae (v := (aN [])) rfl) (nJ (aa (ag (v := (aN a)) rfl) (aa (ag (v := (aN b)) rfl) ?_))))
 obtain ⟨y1, e2, hs⟩ := aJ hs
 refine aM Rt rfl rfl (vY _ _ h.lt a b _ e2) ?_
 rintro _ w ⟨k3, rfl⟩
 refine ⟨_, rfl, ?_⟩
 replace h := h.grow k3
 refine aa (ae (v := (aN y1)) rfl) (nR (bE (v := (aN y1)) Tryz.results105 rfl ?_))
 obtain rfl := gM hs
 exact ⟨h.grown, rfl⟩
def mI (a : List Str) (b : Str) (i2 : Int) (s : Unit) (FD : Unit → Option Int) : Option Int :=
  (idx a i2).bind fun x8 => bif decide ((b : Str) = x8) then some i2 else FD ()
def mJ (s : Unit) : Option Int :=
  some (-1)
def slices_Index_string (a : List Str) (b : Str) : Option Int :=
  upto (mI a b) mJ 0 ((a.length : Int)).toNat ()
theorem yl (w0 : World) (M : BS) (hM : ∀ b, M b → b < w0.heap.size) (va : Value) (a : List Str) (ha : eY l8 w0 BE M va a) (b : Str) (r : Int) (hs : slices_Index_string a b = some r) :
    Calls Tryz.prog 110 #[va, (aN b)] w0 (fun e w' => Grow w0 w' ∧ e = .returned (.int .i64 r)) := by
 refine aH (args := [va, (aN b)]) Tryz.func110 rfl Tryz.ntmps110 (bB rfl) ?_
 have h := SH.init hM
 replace h := h.dR 1 ha aT
 have tZ := ha.bG
 refine nG (aa (ae (v := (I6 0)) rfl) (nK (aa (ag (v := va) rfl) (aa (bC dK rfl (h.fT 1 rfl)) (aa (ag (v := (I6 0)) rfl) (nN (aI ?_)))))))
 have Zh := (h.fT 1 rfl).bG
 refine fe (σ := Nat × Int) (inl ([4, 5] ++ rg 8 11)) (fun ⟨k1, i2⟩ => [(8, (I6 i2))]) (fun ⟨k1, i2⟩ w => SH w0 M BE w (hset [(1, .sr l8 va a)]) ∧ i2 = (k1 : Int) ∧ upto (mI a b) mJ i2 (((a.length : Int)).toNat - k1) () = some r) (fun ⟨k1, i2⟩ => ((a.length : Int)).toNat - k1) ⟨0, 0⟩ ⟨rfl, trivial⟩ ?_ ?_
 exact ⟨h.cn _, rfl, hs⟩
 rintro ⟨k1, i2⟩ w cZ ⟨h, hik, hs⟩
 refine nG ?_
 refine aa (dm rfl rfl) (nN ?_)
 refine aK (gF rfl (fun e6 => ?_) (fun e6 => ?_))
 refine aF (aj ?_)
 rw [pW (by have := nX e6; omega)] at hs
 generalize Ur : upto (mI a b) mJ (i2 + 1) (((a.length : Int)).toNat - (k1 + 1)) = FD at hs
 have YZ : jg (i2 + 1) := (by have := nX e6; have := Zh; exact jg.mk (by omega) (by omega))
 refine aK (aI (nG (aa (ag (v := (I6 i2)) rfl) (aa (ae (v := (I6 i2)) rfl) (nJ (aa (ag (v := (aN b)) rfl) (aa (ag (v := va) rfl) (aa (ag (v := (I6 i2)) rfl) ?_))))))))
 obtain ⟨x8, e9, hs⟩ := aJ hs
 obtain ⟨b11, o12, Y9, h, Za, i10⟩ := h.xx 1 2 rfl dK rfl (aU e9).1 (aU e9).2
 obtain rfl := Za
 refine aa (i10 _ _ _ _ _ _ _ _ _ rfl rfl) (aa (dY (k := 0) h 2 rfl wK rfl rfl) (aa (Cj rfl rfl) (nN (aG hs rfl (fun c15 hs => ?_) (fun c15 hs => ?_)))))
 refine nG (aa (ag (v := (I6 i2)) rfl) (aa (ae (v := (I6 i2)) rfl) (nR (aD (ax (ax (aD (ax (bE (v := (I6 i2)) Tryz.results110 rfl ?_)))))))))
 obtain rfl := gM hs
 exact ⟨h.grown, rfl⟩
 refine aF (au (aj (az (aa (bU rfl rfl YZ) (aa (ag (v := (I6 ((i2 + 1)))) rfl) (aB (ak ?_)))))))
 subst Ur
 exact iW ⟨k1 + 1, i2 + 1⟩ ⟨h.cn _, by omega, hs⟩ (by have := nX e6; dsimp only; omega)
 rw [pX (by have := of_decide_eq_false e6; omega)] at hs
 refine nE (aa (ae (v := (I6 (-1))) rfl) (nR (bE (v := (I6 (-1))) Tryz.results110 rfl ?_)))
 obtain rfl := gM hs
 exact ⟨h.grown, rfl⟩
def xM (vE : Int) (M4 : (Int × Int × Int) → Option (List Tok × cK)) (zF : Int) (Iu : Int) : Option (List Tok × cK) :=
  gD (jg (vE + 1)) (M4 ((vE + 1), zF, Iu))
def xN (x29 : Str) (zT : List Tok) (F : List dO) (y31 : Int) (xn : Int) (wM : (List Tok × Int × Bool × Int) → Option (List Tok × cK)) (DU : Bool) (s : Int × Int × Int) (M4 : Int × Int × Int → Option (List Tok × cK)) : Option (List Tok × cK) :=
  match s with | (vE, DV, yM) => bif decide ((vE : Int) ≤ 5) then (iG (⟨3, vE⟩ : Tok)).bind fun y72 => bif decide ((y72 : Str) = x29) then xM vE M4 3 vE else xM vE M4 DV yM else gD (Room 16 zT [(⟨DV, yM⟩ : Tok)]) (bif (decide (((dG (⟨DV, yM⟩ : Tok) F 6) : Int) ≠ 0) || decide ((24 : Int) < ((zT ++ [(⟨DV, yM⟩ : Tok)]).length : Int))) then some ((zT ++ [(⟨DV, yM⟩ : Tok)]), (⟨y31, false⟩ : cK)) else (oU (⟨DV, yM⟩ : Tok) F).bind fun SE => gD (jg (xn + SE)) (gD (jg ((xn + SE) - 1)) (wM ((zT ++ [(⟨DV, yM⟩ : Tok)]), ((xn + SE) - 1), DU, y31))))
def qQ (uf : (Int × Str)) (BB : Int × Bool) (A9 : Int) (nL : Int) (Vu : Bool) : Option (Int × Int) :=
  bif Vu then some (uf.1, BB.1) else some (A9, nL)
def mK (x29 : Str) (uf : (Int × Str)) (s : Int × Int) : Option (Int × Int) :=
  match s with | (A9, nL) => (strings_TrimPrefix x29 uf.2).bind fun Hw => (yD Hw).bind fun BB => bif (!BB.2) then (iG (⟨uf.1, BB.1⟩ : Tok)).bind fun pI => qQ uf BB A9 nL (decide ((pI : Str) = x29)) else qQ uf BB A9 nL false
def BC (N : Nat) (x29 : Str) (zT : List Tok) (F : List dO) (y31 : Int) (xn : Int) (wM : (List Tok × Int × Bool × Int) → Option (List Tok × cK)) (DU : Bool) (s : Int × Int) : Option (List Tok × cK) :=
  match s with | (A9, nL) => again (xN x29 zT F y31 xn wM DU) N (1, A9, nL)
def qR (N : Nat) (zT : List Tok) (F : List dO) (xn : Int) (wM : (List Tok × Int × Bool × Int) → Option (List Tok × cK)) (x29 : Str) (DU : Bool) (y31 : Int) : Option (List Tok × cK) :=
  (vK (mK x29) ([(2, [118]), (4, [46]), (5, [110, 101, 119]), (6, [102]), (1, [])] : List (Int × Str)) (0, 0)).bind fun Jl => (BC N x29 zT F y31 xn wM DU) Jl
def qU (N : Nat) (W : List Str) (F : List dO) (s : List Tok × Int × Bool × Int) (wM : List Tok × Int × Bool × Int → Option (List Tok × cK)) : Option (List Tok × cK) :=
  match s with | (zT, xn, KE, y20) => bif (decide ((0 : Int) < xn) && KE) then bif decide (((W.length : Int) : Int) ≤ y20) then qR N zT F xn wM [] false y20 else gD (jg (y20 + 1)) (gD (jg ((y20 + 1) - 1)) ((idx W ((y20 + 1) - 1)).bind fun x103 => qR N zT F xn wM x103 KE (y20 + 1))) else some (zT, (⟨y20, KE⟩ : cK))
def BD (N : Nat) (sx : cK) (W : List Str) (F : List dO) : Option (List Tok × cK) :=
  again (qU N W F) N ([], 1, sx.ok, sx.at_)
theorem Gf (N : Nat) (w0 : World) (M : BS) (hM : ∀ b, M b → b < w0.heap.size) (hT : sM Tryz.prog 4 w0) (ba bo bw bwd bf : Nat) (sx : cK) (hC : Chunk.holds w0 M (Chunk.own' (.two (.blk ba [(I6 sx.at_)]) (.blk bo [(.bool (sx.ok))]) : Chunk)) (.two (.blk ba [(I6 sx.at_)]) (.blk bo [(.bool (sx.ok))]) : Chunk)) (hap : ∀ b, Chunk.own' (.two (.blk ba [(I6 sx.at_)]) (.blk bo [(.bool (sx.ok))]) : Chunk) b → ¬ M b) (vW : Value) (W : List Str) (Wm : eB l8 w0 (fun b => M b ∨ Chunk.own' (.two (.blk ba [(I6 sx.at_)]) (.blk bo [(.bool (sx.ok))]) : Chunk) b) vW W) (vF : Value) (F : List dO) (Wn : eY gT w0 (Chunk.own' (.two (.blk ba [(I6 sx.at_)]) (.blk bo [(.bool (sx.ok))]) : Chunk)) (fun b => M b ∨ Chunk.own' (.two (.blk ba [(I6 sx.at_)]) (.blk bo [(.bool (sx.ok))]) : Chunk) b) vF F) (hbw : ∃ E, w0.heap[bw]? = some (.cells #[vW] E (0, 0))) (PE : ¬ Chunk.own' (.two (.blk ba [(I6 sx.at_)]) (.blk bo [(.bool (sx.ok))]) : Chunk) bw) (Hy : ∃ E, w0.heap[bwd]? = some (.cells #[(.func (.func 103) #[] #[(.pointer (some ⟨ba, 0, none⟩)), (.pointer (some ⟨bw, 0, none⟩)), (.pointer (some ⟨bo, 0, none⟩))])] E (0, 0))) (Ev : ¬ Chunk.own' (.two (.blk ba [(I6 sx.at_)]) (.blk bo [(.bool (sx.ok))]) : Chunk) bwd) (hbf : ∃ E, w0.heap[bf]? = some (.cells #[vF] E (0, 0))) (PG : ¬ Chunk.own' (.two (.blk ba [(I6 sx.at_)]) (.blk bo [(.bool (sx.ok))]) : Chunk) bf) (hG : ∀ b, Chunk.own' (.two (.blk ba [(I6 sx.at_)]) (.blk bo [(.bool (sx.ok))]) : Chunk) b → Tryz.prog.globals.size ≤ b) (r : List Tok × cK) (hs : BD N sx W F = some r) :
    Calls Tryz.prog 104 #[(.pointer (some ⟨bo, 0, none⟩)), (.pointer (some ⟨bwd, 0, none⟩)), (.pointer (some ⟨bf, 0, none⟩))] w0 (fun e w' => aO (Chunk.own' (.two (.blk ba [(I6 sx.at_)]) (.blk bo [(.bool (sx.ok))]) : Chunk)) w0 w' ∧ ∃ u0, e = .returned (u0) ∧ Chunk.holds w' M (Chunk.own' (.two (.blk ba [.int .i64 r.2.at_]) (.blk bo [.bool r.2.ok]) : Chunk)) (.two (.blk ba [.int .i64 r.2.at_]) (.blk bo [.bool r.2.ok]) : Chunk) ∧ (∀ b, Chunk.own' (.two (.blk ba [.int .i64 r.2.at_]) (.blk bo [.bool r.2.ok]) : Chunk) b → b < w0.heap.size → Chunk.own' (.two (.blk ba [(I6 sx.at_)]) (.blk bo [(.bool (sx.ok))]) : Chunk) b) ∧ eB jw w' (fun b => M b ∨ Chunk.own' (.two (.blk ba [.int .i64 r.2.at_]) (.blk bo [.bool r.2.ok]) : Chunk) b) u0 r.1) := by
 refine aH (args := [(.pointer (some ⟨bo, 0, none⟩)), (.pointer (some ⟨bwd, 0, none⟩)), (.pointer (some ⟨bf, 0, none⟩))]) Tryz.func104 rfl Tryz.ntmps104 (bB rfl) ?_
 have h := SH.Eb hM hC hap
 replace h := h.Ck 3 Wm yG
 replace h := h.OI 4 Wn (rY yG)
 replace h := h.xC 5 (cs := [vW]) hbw PE (vL (rY yG))
 replace h := h.xC 6 (cs := [(.func (.func 103) #[] #[(.pointer (some ⟨ba, 0, none⟩)), (.pointer (some ⟨bw, 0, none⟩)), (.pointer (some ⟨bo, 0, none⟩))])]) Hy Ev (oQ (vL (rY yG)))
 replace h := h.xC 7 (cs := [vF]) hbf PG (oQ (oQ (vL (rY yG))))
 have KF := PE
 have Ew := Ev
 have KG := PG
 generalize Iw : (.two (.blk ba [(I6 sx.at_)]) (.blk bo [(.bool (sx.ok))]) : Chunk).own' = K0 at h KF Ew KG hG
 replace h := h.iX 1 2 (by decide) rfl rfl
 refine nG (aa (ae (v := (.slice none 0 0)) rfl) (nJ (aa (ae (v := (.slice none 0 0)) rfl) (nK (aa (ae (v := (I6 1)) rfl) (nN (aI ?_)))))))
 replace h := h.vS (R := jw) (E := 160) 11
 refine fe (σ := Nat × Value × List Tok × Int × Bool × Int) (inl (rg 4 76)) (fun ⟨m24, v16, zT, xn, KE, y20⟩ => [(4, v16), (5, (I6 xn))]) (fun ⟨m24, v16, zT, xn, KE, y20⟩ w => SH w0 M K0 w (hset [(1, .blk ba [(I6 y20)]), (2, .blk bo [(.bool (KE))]), (3, .rd l8 vW W), (4, .sr gT vF F), (5, .pt bw 0 [vW]), (6, .pt bwd 0 [(.func (.func 103) #[] #[(.pointer (some ⟨ba, 0, none⟩)), (.pointer (some ⟨bw, 0, none⟩)), (.pointer (some ⟨bo, 0, none⟩))])]), (7, .pt bf 0 [vF]), (11, .own jw 160 v16 zT)]) ∧ again (qU N W F) m24 (zT, xn, KE, y20) = some r) (fun ⟨m24, v16, zT, xn, KE, y20⟩ => m24) ⟨N, (.slice none 0 0), [], 1, sx.ok, sx.at_⟩ ⟨rfl, rfl, trivial⟩ ?_ ?_
 exact ⟨h.cn _, hs⟩
 rintro ⟨m24, v16, zT, xn, KE, y20⟩ w cZ ⟨h, hs⟩
 obtain ⟨Wo, Zi, Zj⟩ := nC hs
 subst Zi
 replace hs := Zj
 generalize O8 : again (qU N W F) Wo = wM at hs
 refine aK (nG (aa (ag (v := (I6 xn)) rfl) (aa (iV rfl rfl) (aa (ag (v := (.bool (decide ((0 : Int) < xn)))) rfl) (aA rfl rfl (fun q => aC h 2 rfl vU rfl rfl) (aa (gG rfl rfl mX) (nN (aG hs rfl (fun c28 hs => ?_) (fun c28 hs => ?_)))))))))
 refine aF (aj (aK (aI (bQ (σ := Str × Bool × Int) (inl [6, 20, 21]) (fun ⟨x29, DU, y31⟩ => [(6, (aN x29))]) (fun ⟨x29, DU, y31⟩ w => SH w0 M K0 w (hset [(1, .blk ba [(I6 y31)]), (2, .blk bo [(.bool (DU))]), (3, .rd l8 vW W), (4, .sr gT vF F), (5, .pt bw 0 [vW]), (6, .pt bwd 0 [(.func (.func 103) #[] #[(.pointer (some ⟨ba, 0, none⟩)), (.pointer (some ⟨bw, 0, none⟩)), (.pointer (some ⟨bo, 0, none⟩))])]), (7, .pt bf 0 [vF]), (11, .own jw 160 v16 zT)]) ∧ qR N zT F xn wM x29 DU y31 = some r) ?_ ?_))))
 rintro ⟨x29, DU, y31⟩ w cZ ⟨h, hs⟩
 refine nG (aa (ek (pv := []) (out := [(I6 0), (I6 0)]) wL rfl rfl) (bL h 12 je fun w b32 h => dS (vs := [(I6 0), (I6 0)]) h 12 [(I6 0), (I6 0)] rfl je rfl rfl rfl rfl rfl (ai rfl (ai rfl aZ)) fun w h => nK (zo h 13 fun w Vv h => lL (nT := [(2, (aN [118]))]) h 13 rfl jH rfl rfl rfl rfl fun w h => lL (nT := [(2, (aN [118])), (4, (aN [46]))]) h 13 rfl jH rfl rfl rfl rfl fun w h => lL (nT := [(2, (aN [118])), (4, (aN [46])), (5, (aN [110, 101, 119]))]) h 13 rfl jH rfl rfl rfl rfl fun w h => lL (nT := [(2, (aN [118])), (4, (aN [46])), (5, (aN [110, 101, 119])), (6, (aN [102]))]) h 13 rfl jH rfl rfl rfl rfl fun w h => lL (nT := [(2, (aN [118])), (4, (aN [46])), (5, (aN [110, 101, 119])), (6, (aN [102])), (1, (aN []))]) h 13 rfl jH rfl rfl rfl rfl fun w h => aa (ag (v := (.map (some Vv))) rfl) (Ra (f := aN) ([(2, [118]), (4, [46]), (5, [110, 101, 119]), (6, [102]), (1, [])] : List (Int × Str)) h 13 rfl jH rfl rfl fun w Yd h => nN (aI ?_)))))
 obtain ⟨Jl, KH, hs⟩ := aJ hs
 replace KH := TM KH
 refine fe (σ := List (Int × Str) × Int × Int) (inl ([8, 9, 10, 11] ++ rg 26 25)) (fun ⟨lf43, A9, nL⟩ => []) (fun ⟨lf43, A9, nL⟩ w => SH w0 M K0 w (hset [(1, .blk ba [(I6 y31)]), (2, .blk bo [(.bool (DU))]), (3, .rd l8 vW W), (4, .sr gT vF F), (5, .pt bw 0 [vW]), (6, .pt bwd 0 [(.func (.func 103) #[] #[(.pointer (some ⟨ba, 0, none⟩)), (.pointer (some ⟨bw, 0, none⟩)), (.pointer (some ⟨bo, 0, none⟩))])]), (7, .pt bf 0 [vF]), (11, .own jw 160 v16 zT), (12, .blk b32 [(I6 A9), (I6 nL)]), (13, .gZ (Fz aN Vv Yd none lf43))]) ∧ p8 (mK x29) lf43 (A9, nL) Jl) (fun ⟨lf43, A9, nL⟩ => lf43.length) ⟨([(2, [118]), (4, [46]), (5, [110, 101, 119]), (6, [102]), (1, [])] : List (Int × Str)), 0, 0⟩ trivial ?_ ?_
 exact ⟨h.cn _, KH⟩
 rintro ⟨lf43, A9, nL⟩ w cZ ⟨h, hf⟩
 refine nG ?_
 refine TL h 13 rfl rfl (fun e48 => ?_) (fun uf Uw w e48 h => ?_)
 obtain rfl := p8.nil (e48 ▸ hf)
 refine aa (bz rfl rfl) (nN ?_)
 refine aK (Tm rfl (jd (bK (bK (eF (aj (aK (nG (aa (ae (v := (I6 1)) rfl) (nN (aI (fe (σ := Nat × Int × Int × Int) (inl ([12] ++ rg 51 11)) (fun ⟨m64, vE, DV, yM⟩ => [(12, (I6 vE))]) (fun ⟨m64, vE, DV, yM⟩ w => SH w0 M K0 w (hset [(1, .blk ba [(I6 y31)]), (2, .blk bo [(.bool (DU))]), (3, .rd l8 vW W), (4, .sr gT vF F), (5, .pt bw 0 [vW]), (6, .pt bwd 0 [(.func (.func 103) #[] #[(.pointer (some ⟨ba, 0, none⟩)), (.pointer (some ⟨bw, 0, none⟩)), (.pointer (some ⟨bo, 0, none⟩))])]), (7, .pt bf 0 [vF]), (11, .own jw 160 v16 zT), (12, .blk b32 [(I6 DV), (I6 yM)])]) ∧ again (xN x29 zT F y31 xn wM DU) m64 (vE, DV, yM) = some r) (fun ⟨m64, vE, DV, yM⟩ => m64) ⟨N, 1, A9, nL⟩ ⟨rfl, trivial⟩ ?_ ?_))))))))))))
 exact ⟨h.cn _, hs⟩
 rintro ⟨m64, vE, DV, yM⟩ w cZ ⟨h, hs⟩
 obtain ⟨Wp, Zk, Zl⟩ := nC hs
 subst Zk
 replace hs := Zl
 generalize Wq : again (xN x29 zT F y31 xn wM DU) Wp = M4 at hs
 refine aK (nG (aa (ag (v := (I6 vE)) rfl) (aa (CY rfl rfl) (nN (aG hs rfl (fun Zm hs => ?_) (fun Zm hs => ?_))))))
 refine aF (aj (bQ (σ := Int × Int) (inl (rg 55 7)) (fun ⟨zF, Iu⟩ => []) (fun ⟨zF, Iu⟩ w => SH w0 M K0 w (hset [(1, .blk ba [(I6 y31)]), (2, .blk bo [(.bool (DU))]), (3, .rd l8 vW W), (4, .sr gT vF F), (5, .pt bw 0 [vW]), (6, .pt bwd 0 [(.func (.func 103) #[] #[(.pointer (some ⟨ba, 0, none⟩)), (.pointer (some ⟨bw, 0, none⟩)), (.pointer (some ⟨bo, 0, none⟩))])]), (7, .pt bf 0 [vF]), (11, .own jw 160 v16 zT), (12, .blk b32 [(I6 zF), (I6 Iu)])]) ∧ xM vE M4 zF Iu = some r) ?_ ?_))
 rintro ⟨zF, Iu⟩ w cZ ⟨h, hs⟩
 refine az (aa (ag (v := (I6 vE)) rfl) ?_)
 obtain ⟨a71, hs⟩ := aW hs
 refine aa (bU rfl rfl a71) (aa (ae (v := (I6 ((vE + 1)))) rfl) (aB (ak ?_)))
 subst Wq
 exact iW ⟨Wp, (vE + 1), zF, Iu⟩ ⟨h.cn _, hs⟩
 refine aI (nG (aa (ag (v := (I6 vE)) rfl) (aa (ek (pv := [(0, (I6 3)), (1, (I6 vE))]) (out := [(I6 3), (I6 vE)]) wL rfl ⟨0, 1, [(I6 3)], rfl, rfl, rfl, bB rfl, ⟨1, 1, [(I6 vE)], rfl, rfl, rfl, bB rfl, rfl⟩⟩) ?_)))
 obtain ⟨y72, e73, hs⟩ := aJ hs
 refine aM Hd rfl rfl (nI _ _ h.lt (hT.Oy h.keep hG) (⟨3, vE⟩ : Tok) _ e73) ?_
 rintro _ w ⟨k74, rfl⟩
 refine ⟨_, rfl, ?_⟩
 replace h := h.grow k74
 refine aa (ag (v := (aN x29)) rfl) (aa (Cj rfl rfl) (nN (aG hs rfl (fun c75 hs => ?_) (fun c75 hs => ?_))))
 refine az (aa (ag (v := (I6 vE)) rfl) (aa (ek (pv := [(0, (I6 3)), (1, (I6 vE))]) (out := [(I6 3), (I6 vE)]) wL rfl ⟨0, 1, [(I6 3)], rfl, rfl, rfl, bB rfl, ⟨1, 1, [(I6 vE)], rfl, rfl, rfl, bB rfl, rfl⟩⟩) (dS (vs := [(I6 3), (I6 vE)]) h 12 [(I6 3), (I6 vE)] rfl je rfl rfl rfl rfl rfl (ai rfl (ai rfl aZ)) fun w h => aB (au (ak ?_)))))
 exact bO (3, vE) ⟨h.cn _, hs⟩
 refine aF (au (ak ?_))
 exact bO (DV, yM) ⟨h.cn _, hs⟩
 refine jd (bK (bK (eF (aj (aK (nG (aa (ag (v := v16) rfl) (aa (fu (vs := [(I6 DV), (I6 yM)]) h 12 rfl je rfl rfl rfl) (pK (R := jw) (vs := [(.agg #[(I6 DV), (I6 yM)])]) (xs := [(⟨DV, yM⟩ : Tok)]) h 14 F9 rfl rfl rfl ⟨rfl, trivial⟩ rfl fun w u76 h => ?_)))))))))
 obtain ⟨a77, hs⟩ := aW hs
 refine jm (R := jw) (m := [(⟨DV, yM⟩ : Tok)]) h 11 rfl (h.dE 14 rfl) F9 rfl rfl rfl a77.1 a77.2 fun w Fv h => aa (ae (v := Fv) rfl) (nJ (aa (fu (vs := [(I6 DV), (I6 yM)]) h 12 rfl je rfl rfl rfl) (aa (dY (k := 0) h 7 rfl wJ rfl rfl) (aM LY rfl rfl (qL _ _ h.lt (⟨DV, yM⟩ : Tok) vF F (h.fT 4 rfl) 6 _ rfl) ?_))))
 rintro _ w ⟨k79, rfl⟩
 refine ⟨_, rfl, ?_⟩
 replace h := h.grow k79
 refine aa (iK rfl rfl) (aa (ag (v := (.bool (decide (((dG (⟨DV, yM⟩ : Tok) F 6) : Int) ≠ 0)))) rfl) (aA rfl rfl (fun q => ag (v := Fv) rfl) (aA rfl rfl (fun q => bC ji (bZ q) (h.dE 11 rfl)) (aA rfl rfl (fun q => iV (bZ q) rfl) (aa (gK rfl rfl mX) (nN (aG hs rfl (fun c80 hs => ?_) (fun c80 hs => ?_))))))))
 refine nG (dV h 2 [(.bool (false))] rfl vU rfl rfl rfl rfl rfl fun w h => nN (jd (bK (DZ (by decide) (bK (bK (eF (aj (nG (aa (ag (v := Fv) rfl) (aa (ae (v := Fv) rfl) (nR (bE (v := Fv) Tryz.results104 rfl ?_)))))))))))))
 replace h := h.freeze 11 rfl
 replace h := h.pair 1 2 (by decide)
 obtain rfl := gM hs
 subst Iw
 obtain ⟨o1, o2, o3⟩ := h.Ah 1 (C := (.two (.blk ba [(I6 y31)]) (.blk bo [(.bool (false))]) : Chunk)) rfl ⟨trivial, trivial⟩
 exact ⟨o2, Fv, rfl, o1, o3, h.xB 1 11 rfl rfl⟩
 refine aF (aj (az (aa (ag (v := (I6 xn)) rfl) (aa (fu (vs := [(I6 DV), (I6 yM)]) h 12 rfl je rfl rfl rfl) (aa (dY (k := 0) h 7 rfl wJ rfl rfl) ?_)))))
 obtain ⟨SE, e82, hs⟩ := aJ hs
 refine aM He rfl rfl (qd _ _ h.lt (⟨DV, yM⟩ : Tok) vF F (h.fT 4 rfl) _ e82) ?_
 rintro _ w ⟨Zn, rfl⟩
 refine ⟨_, rfl, ?_⟩
 replace h := h.grow Zn
 obtain ⟨a84, hs⟩ := aW hs
 refine aa (bU rfl rfl a84) (aa (ae (v := (I6 ((xn + SE)))) rfl) (aB (au (aj (az (aa (ag (v := (I6 ((xn + SE)))) rfl) ?_))))))
 obtain ⟨a85, hs⟩ := aW hs
 refine aa (sG rfl rfl a85) (aa (ae (v := (I6 (((xn + SE) - 1)))) rfl) (aB (ak ?_)))
 subst O8
 exact iW ⟨Wo, Fv, (zT ++ [(⟨DV, yM⟩ : Tok)]), ((xn + SE) - 1), DU, y31⟩ ⟨h.cn _, hs⟩
 obtain ⟨Zo, hs1, hf1⟩ := hf.cons e48
 replace hs := hs1
 refine aa (bz rfl rfl) (nN ?_)
 refine aK (Tk rfl (aF (aj ?_)))
 refine aI (nG (aa (Rb (f := aN) h 13 rfl rfl) (aa (bz rfl rfl) (aa (bz rfl rfl) (aa (ae (v := (I6 uf.1)) rfl) (aa (ae (v := (aN uf.2)) rfl) (nJ (aa (ag (v := (aN x29)) rfl) (aa (ag (v := (aN uf.2)) rfl) ?_)))))))))
 obtain ⟨Hw, Zp, hs⟩ := aJ hs
 refine aM Rm rfl rfl (yL _ _ h.lt x29 uf.2 _ Zp) ?_
 rintro _ w ⟨Zq, rfl⟩
 refine ⟨_, rfl, ?_⟩
 replace h := h.grow Zq
 obtain ⟨BB, We, hs⟩ := aJ hs
 refine aM Bt rfl rfl (om _ _ h.lt (hT.Oy h.keep hG) Hw _ We) ?_
 rintro _ w ⟨k93, Ux, rfl, g92⟩
 refine ⟨_, rfl, ?_⟩
 replace h := h.grow k93
 refine aa (ag (v := (.tuple #[(I6 BB.1), Ux])) rfl) (aa (bz rfl rfl) (aa (bz rfl rfl) (aa (ae (v := (I6 BB.1)) rfl) (aa (ae (v := Ux) rfl) (nN (bQ (σ := Bool) (inl (rg 38 10)) (fun Vu => [(47, (.bool (Vu)))]) (fun Vu w => SH w0 M K0 w (hset [(1, .blk ba [(I6 y31)]), (2, .blk bo [(.bool (DU))]), (3, .rd l8 vW W), (4, .sr gT vF F), (5, .pt bw 0 [vW]), (6, .pt bwd 0 [(.func (.func 103) #[] #[(.pointer (some ⟨ba, 0, none⟩)), (.pointer (some ⟨bw, 0, none⟩)), (.pointer (some ⟨bo, 0, none⟩))])]), (7, .pt bf 0 [vF]), (11, .own jw 160 v16 zT), (12, .blk b32 [(I6 A9), (I6 nL)]), (13, .gZ (Fz aN Vv Yd (some uf) Uw))]) ∧ qQ uf BB A9 nL Vu = some Zo) ?_ ?_))))))
 rintro Vu w cZ ⟨h, hs⟩
 refine aG hs rfl (fun c95 hs => ?_) (fun c95 hs => ?_)
 refine az (aa (ag (v := (I6 uf.1)) rfl) (aa (ag (v := (I6 BB.1)) rfl) (aa (ek (pv := [(0, (I6 uf.1)), (1, (I6 BB.1))]) (out := [(I6 uf.1), (I6 BB.1)]) wL rfl ⟨0, 1, [(I6 uf.1)], rfl, rfl, rfl, bB rfl, ⟨1, 1, [(I6 BB.1)], rfl, rfl, rfl, bB rfl, rfl⟩⟩) (dS (vs := [(I6 uf.1), (I6 BB.1)]) h 12 [(I6 uf.1), (I6 BB.1)] rfl je rfl rfl rfl rfl rfl (ai rfl (ai rfl aZ)) fun w h => aB (au (ak ?_))))))
 replace h := h.F6 13 rfl
 obtain rfl := gM hs
 exact iW ⟨Uw, uf.1, BB.1⟩ ⟨h.cn _, hf1⟩ (by have := e48.length_eq; simp only [List.length_cons] at this; dsimp only; omega)
 refine aF (au (ak ?_))
 replace h := h.F6 13 rfl
 obtain rfl := gM hs
 exact iW ⟨Uw, A9, nL⟩ ⟨h.cn _, hf1⟩ (by have := e48.length_eq; simp only [List.length_cons] at this; dsimp only; omega)
 refine az (aa (ag (v := Ux) rfl) (aa (MH MN rfl g92 rfl) (aa (ag (v := (.bool ((!BB.2)))) rfl) (mi (b := (!BB.2)) hs (fun KI hs => ?_) (fun KI hs => ?_)))))
 refine dB rfl (cB KI) (aa (ag (v := (I6 uf.1)) rfl) (dB rfl (cB KI) (aa (ag (v := (I6 BB.1)) rfl) (dB rfl (cB KI) (aa (ek (pv := [(0, (I6 uf.1)), (1, (I6 BB.1))]) (out := [(I6 uf.1), (I6 BB.1)]) wL rfl ⟨0, 1, [(I6 uf.1)], rfl, rfl, rfl, bB rfl, ⟨1, 1, [(I6 BB.1)], rfl, rfl, rfl, bB rfl, rfl⟩⟩) (dB rfl (cB KI) ?_))))))
 obtain ⟨pI, e98, hs⟩ := aJ hs
 refine aM Hd rfl rfl (nI _ _ h.lt (hT.Oy h.keep hG) (⟨uf.1, BB.1⟩ : Tok) _ e98) ?_
 rintro _ w ⟨Zr, rfl⟩
 refine ⟨_, rfl, ?_⟩
 replace h := h.grow Zr
 refine dB rfl (cB KI) (aa (ag (v := (aN x29)) rfl) (dB rfl (cB KI) (aa (Cj rfl rfl) (aa (fo (b := true) (v := (.bool (decide ((pI : Str) = x29)))) (cB KI) rfl) (aB (ak ?_))))))
 exact bO (decide ((pI : Str) = x29)) ⟨h.cn _, hs⟩
 refine uZ rfl (cB KI) rfl (uZ rfl (cB KI) rfl (uZ rfl (cB KI) rfl (uZ rfl (cB KI) rfl (uZ rfl (cB KI) rfl (uZ rfl (cB KI) rfl (aa (fo (b := false) (v := (.bool (false))) (cB KI) rfl) (aB (ak ?_))))))))
 exact bO false ⟨h.cn _, hs⟩
 refine az (aa (dY (k := 0) h 6 rfl xK rfl rfl) (jo (args := [(.pointer (some ⟨ba, 0, none⟩)), (.pointer (some ⟨bw, 0, none⟩)), (.pointer (some ⟨bo, 0, none⟩))]) xI rfl rfl (aH (args := [(.pointer (some ⟨ba, 0, none⟩)), (.pointer (some ⟨bw, 0, none⟩)), (.pointer (some ⟨bo, 0, none⟩))]) Tryz.func103 rfl Tryz.ntmps103 (bB rfl) (nG (aa (ae (v := (aN [])) rfl) (nK (aa (aC h 1 rfl aS rfl rfl) (aa (dY (k := 0) h 5 rfl lC rfl rfl) (aa (bC dK rfl (h.mY 3 rfl)) (aa (pq rfl rfl) (nN (aG hs rfl (fun Zt hs => ?_) (fun Zt hs => ?_)))))))))))))
 refine nG (dV h 2 [(.bool (false))] rfl vU rfl rfl rfl rfl rfl fun w h => nJ (aa (ae (v := (aN [])) rfl) (nR (ax (bE (v := (aN [])) Tryz.results103 rfl (⟨_, rfl, ?_⟩))))))
 refine aa (ae (v := (aN [])) rfl) (aB (ak ?_))
 exact bO ([], false, y20) ⟨h.cn _, hs⟩
 refine nS (aa (aC h 1 rfl aS rfl rfl) ?_)
 obtain ⟨RA, hs⟩ := aW hs
 refine aa (bU rfl rfl RA) (dV h 1 [(I6 ((y20 + 1)))] rfl aS rfl rfl rfl rfl rfl fun w h => nJ (aa (dY (k := 0) h 5 rfl lC rfl rfl) (aa (aC h 1 rfl aS rfl rfl) ?_)))
 obtain ⟨Zu, hs⟩ := aW hs
 refine aa (sG rfl rfl Zu) ?_
 obtain ⟨x103, RB, hs⟩ := aJ hs
 obtain ⟨b106, o107, cs108, h, Zv, i105⟩ := h.FU 3 15 rfl dK rfl (aU RB).1 (aU RB).2
 obtain rfl := Zv
 refine aa (i105 _ _ _ _ _ _ _ _ _ rfl rfl) (aa (dY (k := 0) h 15 rfl wK rfl rfl) (aa (ae (v := (aN x103)) rfl) (nR (bE (v := (aN x103)) Tryz.results103 rfl (⟨_, rfl, ?_⟩)))))
 refine aa (ae (v := (aN x103)) rfl) (aB (ak ?_))
 exact bO (x103, KE, (y20 + 1)) ⟨h.cn _, hs⟩
 refine nE (aa (ag (v := v16) rfl) (aa (ae (v := v16) rfl) (nR (bE (v := v16) Tryz.results104 rfl ?_))))
 replace h := h.freeze 11 rfl
 replace h := h.pair 1 2 (by decide)
 obtain rfl := gM hs
 subst Iw
 obtain ⟨o1, o2, o3⟩ := h.Ah 1 (C := (.two (.blk ba [(I6 y20)]) (.blk bo [(.bool (KE))]) : Chunk)) rfl ⟨trivial, trivial⟩
 exact ⟨o2, v16, rfl, o1, o3, h.xB 1 11 rfl rfl⟩
def xO (lJ : List aR) (kJ : Int) (wz : Int) (xm : List Tok) (rG : List Tok) (KJ : List aR) (j4 : (List aR × Int × Bool) → Option (List aR × cK)) (Uy : Int) (Uz : Bool) (yM : List aR) : Option (List aR × cK) :=
  gD (Room 112 lJ [(⟨(kJ + 1), wz, xm, rG, KJ, yM⟩ : aR)]) (j4 ((lJ ++ [(⟨(kJ + 1), wz, xm, rG, KJ, yM⟩ : aR)]), Uy, Uz))
def xP (F0 : cK → List Str → List dO → Int → Option (List aR × cK)) (kJ : Int) (a : Int) (W : List Str) (F : List dO) (lJ : List aR) (wz : Int) (xm : List Tok) (rG : List Tok) (j4 : (List aR × Int × Bool) → Option (List aR × cK)) (Ja : Int) (NZ : Bool) (KJ : List aR) : Option (List aR × cK) :=
  bif decide (((kJ + 1) : Int) = 6) then gD (jg (a + 1)) ((F0 (⟨Ja, NZ⟩ : cK) W F (a + 1)).bind fun Bz => xO lJ kJ wz xm rG KJ j4 Bz.2.at_ Bz.2.ok Bz.1) else xO lJ kJ wz xm rG KJ j4 Ja NZ []
def qV (F0 : cK → List Str → List dO → Int → Option (List aR × cK)) (kJ : Int) (a : Int) (W : List Str) (F : List dO) (lJ : List aR) (wz : Int) (xm : List Tok) (j4 : (List aR × Int × Bool) → Option (List aR × cK)) (Ab : Int) (qp : Bool) (rG : List Tok) : Option (List aR × cK) :=
  bif (decide (((kJ + 1) : Int) = 6) || decide (((kJ + 1) : Int) = 7)) then gD (jg (a + 1)) ((F0 (⟨Ab, qp⟩ : cK) W F (a + 1)).bind fun RG => xP F0 kJ a W F lJ wz xm rG j4 RG.2.at_ RG.2.ok RG.1) else xP F0 kJ a W F lJ wz xm rG j4 Ab qp []
def qW (N : Nat) (F0 : cK → List Str → List dO → Int → Option (List aR × cK)) (kJ : Int) (W : List Str) (F : List dO) (a : Int) (lJ : List aR) (wz : Int) (j4 : (List aR × Int × Bool) → Option (List aR × cK)) (KL : Int) (KM : Bool) (xm : List Tok) : Option (List aR × cK) :=
  bif decide (((kJ + 1) : Int) = 2) then (BD N (⟨KL, KM⟩ : cK) W F).bind fun Hw => qV F0 kJ a W F lJ wz xm j4 Hw.2.at_ Hw.2.ok Hw.1 else qV F0 kJ a W F lJ wz xm j4 KL KM []
def oV (N : Nat) (F0 : cK → List Str → List dO → Int → Option (List aR × cK)) (kJ : Int) (W : List Str) (F : List dO) (a : Int) (lJ : List aR) (j4 : (List aR × Int × Bool) → Option (List aR × cK)) (nL : Int) (xL : Bool) (wz : Int) : Option (List aR × cK) :=
  bif decide (((kJ + 1) : Int) ≠ 4) then (BD N (⟨nL, xL⟩ : cK) W F).bind fun y95 => qW N F0 kJ W F a lJ wz j4 y95.2.at_ y95.2.ok y95.1 else qW N F0 kJ W F a lJ wz j4 nL xL []
def qX (N : Nat) (F0 : cK → List Str → List dO → Int → Option (List aR × cK)) (lJ : List aR) (W : List Str) (F : List dO) (a : Int) (j4 : (List aR × Int × Bool) → Option (List aR × cK)) (x27 : Str) (y28 : Int) (y29 : Bool) : Option (List aR × cK) :=
  bif decide ((x27 : Str) = [125]) then some (lJ, (⟨y28, y29⟩ : cK)) else (Bl [115, 101, 116, 32, 112, 117, 116, 32, 115, 97, 121, 32, 112, 97, 117, 115, 101, 32, 103, 111, 32, 105, 102, 32, 119, 104, 105, 108, 101, 32, 114, 101, 116, 117, 114, 110]).bind fun y31 => (slices_Index_string y31 x27).bind fun kJ => gD (jg (kJ + 1)) (bif (!(y29 && decide ((0 : Int) < (kJ + 1)))) then some ([], (⟨y28, (y29 && decide ((0 : Int) < (kJ + 1)))⟩ : cK)) else bif decide (((kJ + 1) : Int) ≤ 2) then bif decide (((W.length : Int) : Int) ≤ y28) then (yD []).bind fun y104 => oV N F0 kJ W F a lJ j4 y28 false y104.1 else gD (jg (y28 + 1)) (gD (jg ((y28 + 1) - 1)) ((idx W ((y28 + 1) - 1)).bind fun KN => (yD KN).bind fun KO => oV N F0 kJ W F a lJ j4 (y28 + 1) (y29 && decide ((0 : Int) < (kJ + 1))) KO.1)) else oV N F0 kJ W F a lJ j4 y28 (y29 && decide ((0 : Int) < (kJ + 1))) 0)
def qY (N : Nat) (F0 : cK → List Str → List dO → Int → Option (List aR × cK)) (W : List Str) (F : List dO) (a : Int) (s : List aR × Int × Bool) (j4 : List aR × Int × Bool → Option (List aR × cK)) : Option (List aR × cK) :=
  match s with | (lJ, Dy, Fu) => bif Fu then bif decide (((W.length : Int) : Int) ≤ Dy) then qX N F0 lJ W F a j4 [] Dy false else gD (jg (Dy + 1)) (gD (jg ((Dy + 1) - 1)) ((idx W ((Dy + 1) - 1)).bind fun Jm => qX N F0 lJ W F a j4 Jm (Dy + 1) Fu)) else some ([], (⟨Dy, Fu⟩ : cK))
def sW (N : Nat) (F0 : cK → List Str → List dO → Int → Option (List aR × cK)) (W : List Str) (F : List dO) (a : Int) (y1 : Int) (y2 : Bool) : Option (List aR × cK) :=
  again (qY N F0 W F a) N ([], y1, y2)
def qZ (N : Nat) (F0 : cK → List Str → List dO → Int → Option (List aR × cK)) (W : List Str) (F : List dO) (a : Int) (Al : Bool) (Dz : Int) (Hz : Bool) : Option (List aR × cK) :=
  bif Al then sW N F0 W F a Dz false else sW N F0 W F a Dz Hz
def vk (N : Nat) (F0 : cK → List Str → List dO → Int → Option (List aR × cK)) (sx : cK) (W : List Str) (F : List dO) (a : Int) : Option (List aR × cK) :=
  bif decide (((W.length : Int) : Int) ≤ sx.at_) then qZ N F0 W F a true sx.at_ false else gD (jg (sx.at_ + 1)) (gD (jg ((sx.at_ + 1) - 1)) ((idx W ((sx.at_ + 1) - 1)).bind fun Jn => qZ N F0 W F a (decide ((Jn : Str) ≠ [123]) || decide ((6 : Int) < a)) (sx.at_ + 1) sx.ok))
def sZ : Nat → cK → List Str → List dO → Int → Option (List aR × cK)
  | 0 => fun _ _ _ _ => none
  | N + 1 => vk N (sZ N)
theorem KP : ∀ (N : Nat) (w0 : World) (M : BS) (hM : ∀ b, M b → b < w0.heap.size) (hT : sM Tryz.prog 4 w0) (ba bo bw bwd bf be bb : Nat) (sx : cK) (hC : Chunk.holds w0 M (Chunk.own' (.two (.blk ba [(I6 sx.at_)]) (.blk bo [(.bool (sx.ok))]) : Chunk)) (.two (.blk ba [(I6 sx.at_)]) (.blk bo [(.bool (sx.ok))]) : Chunk)) (hap : ∀ b, Chunk.own' (.two (.blk ba [(I6 sx.at_)]) (.blk bo [(.bool (sx.ok))]) : Chunk) b → ¬ M b) (vW : Value) (W : List Str) (Wm : eB l8 w0 (fun b => M b ∨ Chunk.own' (.two (.blk ba [(I6 sx.at_)]) (.blk bo [(.bool (sx.ok))]) : Chunk) b) vW W) (vF : Value) (F : List dO) (Wn : eY gT w0 (Chunk.own' (.two (.blk ba [(I6 sx.at_)]) (.blk bo [(.bool (sx.ok))]) : Chunk)) (fun b => M b ∨ Chunk.own' (.two (.blk ba [(I6 sx.at_)]) (.blk bo [(.bool (sx.ok))]) : Chunk) b) vF F) (hbw : ∃ E, w0.heap[bw]? = some (.cells #[vW] E (0, 0))) (PE : ¬ Chunk.own' (.two (.blk ba [(I6 sx.at_)]) (.blk bo [(.bool (sx.ok))]) : Chunk) bw) (Hy : ∃ E, w0.heap[bwd]? = some (.cells #[(.func (.func 103) #[] #[(.pointer (some ⟨ba, 0, none⟩)), (.pointer (some ⟨bw, 0, none⟩)), (.pointer (some ⟨bo, 0, none⟩))])] E (0, 0))) (Ev : ¬ Chunk.own' (.two (.blk ba [(I6 sx.at_)]) (.blk bo [(.bool (sx.ok))]) : Chunk) bwd) (hbf : ∃ E, w0.heap[bf]? = some (.cells #[vF] E (0, 0))) (PG : ¬ Chunk.own' (.two (.blk ba [(I6 sx.at_)]) (.blk bo [(.bool (sx.ok))]) : Chunk) bf) (hbe : ∃ E, w0.heap[be]? = some (.cells #[(.func (.func 104) #[] #[(.pointer (some ⟨bo, 0, none⟩)), (.pointer (some ⟨bwd, 0, none⟩)), (.pointer (some ⟨bf, 0, none⟩))])] E (0, 0))) (Vw : ¬ Chunk.own' (.two (.blk ba [(I6 sx.at_)]) (.blk bo [(.bool (sx.ok))]) : Chunk) be) (hbb : ∃ E, w0.heap[bb]? = some (.cells #[(.func (.func 109) #[] #[(.pointer (some ⟨bwd, 0, none⟩)), (.pointer (some ⟨bo, 0, none⟩)), (.pointer (some ⟨be, 0, none⟩)), (.pointer (some ⟨bb, 0, none⟩))])] E (0, 0))) (Vx : ¬ Chunk.own' (.two (.blk ba [(I6 sx.at_)]) (.blk bo [(.bool (sx.ok))]) : Chunk) bb) (a : Int) (hG : ∀ b, Chunk.own' (.two (.blk ba [(I6 sx.at_)]) (.blk bo [(.bool (sx.ok))]) : Chunk) b → Tryz.prog.globals.size ≤ b) (r : List aR × cK) (hs : sZ N sx W F a = some r),
    Calls Tryz.prog 109 #[(I6 a), (.pointer (some ⟨bwd, 0, none⟩)), (.pointer (some ⟨bo, 0, none⟩)), (.pointer (some ⟨be, 0, none⟩)), (.pointer (some ⟨bb, 0, none⟩))] w0 (fun e w' => aO (Chunk.own' (.two (.blk ba [(I6 sx.at_)]) (.blk bo [(.bool (sx.ok))]) : Chunk)) w0 w' ∧ ∃ u0, e = .returned (u0) ∧ Chunk.holds w' M (Chunk.own' (.two (.blk ba [.int .i64 r.2.at_]) (.blk bo [.bool r.2.ok]) : Chunk)) (.two (.blk ba [.int .i64 r.2.at_]) (.blk bo [.bool r.2.ok]) : Chunk) ∧ (∀ b, Chunk.own' (.two (.blk ba [.int .i64 r.2.at_]) (.blk bo [.bool r.2.ok]) : Chunk) b → b < w0.heap.size → Chunk.own' (.two (.blk ba [(I6 sx.at_)]) (.blk bo [(.bool (sx.ok))]) : Chunk) b) ∧ eB dJ w' (fun b => M b ∨ Chunk.own' (.two (.blk ba [.int .i64 r.2.at_]) (.blk bo [.bool r.2.ok]) : Chunk) b) u0 r.1) := by
 intro N
 induction N with
 | zero => intro w0 M hM hT ba bo bw bwd bf be bb sx hC hap vW W Wm vF F Wn hbw PE Hy Ev hbf PG hbe Vw hbb Vx a hG r hs; cases hs
 | succ N ih =>
 intro w0 M hM hT ba bo bw bwd bf be bb sx hC hap vW W Wm vF F Wn hbw PE Hy Ev hbf PG hbe Vw hbb Vx a hG r hs
 replace hs : vk N (sZ N) sx W F a = some r := hs
 generalize sZ N = F0 at hs ih
 refine aH (args := [(I6 a), (.pointer (some ⟨bwd, 0, none⟩)), (.pointer (some ⟨bo, 0, none⟩)), (.pointer (some ⟨be, 0, none⟩)), (.pointer (some ⟨bb, 0, none⟩))]) Tryz.func109 rfl Tryz.ntmps109 (bB rfl) ?_
 have h := SH.Eb hM hC hap
 replace h := h.Ck 3 Wm yG
 replace h := h.OI 4 Wn (rY yG)
 replace h := h.xC 5 (cs := [vW]) hbw PE (vL (rY yG))
 replace h := h.xC 6 (cs := [(.func (.func 103) #[] #[(.pointer (some ⟨ba, 0, none⟩)), (.pointer (some ⟨bw, 0, none⟩)), (.pointer (some ⟨bo, 0, none⟩))])]) Hy Ev (oQ (vL (rY yG)))
 replace h := h.xC 7 (cs := [vF]) hbf PG (oQ (oQ (vL (rY yG))))
 replace h := h.xC 8 (cs := [(.func (.func 104) #[] #[(.pointer (some ⟨bo, 0, none⟩)), (.pointer (some ⟨bwd, 0, none⟩)), (.pointer (some ⟨bf, 0, none⟩))])]) hbe Vw (oQ (oQ (oQ (vL (rY yG)))))
 replace h := h.xC 9 (cs := [(.func (.func 109) #[] #[(.pointer (some ⟨bwd, 0, none⟩)), (.pointer (some ⟨bo, 0, none⟩)), (.pointer (some ⟨be, 0, none⟩)), (.pointer (some ⟨bb, 0, none⟩))])]) hbb Vx (oQ (oQ (oQ (oQ (vL (rY yG))))))
 have KF := PE
 have Ew := Ev
 have KG := PG
 have UA := Vw
 have UB := Vx
 generalize Iw : (.two (.blk ba [(I6 sx.at_)]) (.blk bo [(.bool (sx.ok))]) : Chunk).own' = K0 at h KF Ew KG UA UB hG
 replace h := h.iX 1 2 (by decide) rfl rfl
 refine nG (aa (ae (v := (.slice none 0 0)) rfl) (nN (bQ (σ := Int × Bool) (inl (rg 10 7)) (fun ⟨y1, y2⟩ => []) (fun ⟨y1, y2⟩ w => SH w0 M K0 w (hset [(1, .blk ba [(I6 y1)]), (2, .blk bo [(.bool (y2))]), (3, .rd l8 vW W), (4, .sr gT vF F), (5, .pt bw 0 [vW]), (6, .pt bwd 0 [(.func (.func 103) #[] #[(.pointer (some ⟨ba, 0, none⟩)), (.pointer (some ⟨bw, 0, none⟩)), (.pointer (some ⟨bo, 0, none⟩))])]), (7, .pt bf 0 [vF]), (8, .pt be 0 [(.func (.func 104) #[] #[(.pointer (some ⟨bo, 0, none⟩)), (.pointer (some ⟨bwd, 0, none⟩)), (.pointer (some ⟨bf, 0, none⟩))])]), (9, .pt bb 0 [(.func (.func 109) #[] #[(.pointer (some ⟨bwd, 0, none⟩)), (.pointer (some ⟨bo, 0, none⟩)), (.pointer (some ⟨be, 0, none⟩)), (.pointer (some ⟨bb, 0, none⟩))])])]) ∧ sW N F0 W F a y1 y2 = some r) ?_ ?_)))
 rintro ⟨y1, y2⟩ w cZ ⟨h, hs⟩
 refine nG (aa (ae (v := (.slice none 0 0)) rfl) (nN (aK (aI ?_))))
 replace h := h.vS (R := dJ) (E := 147) 13
 refine fe (σ := Nat × Value × List aR × Int × Bool) (inl ([6, 7, 8, 9] ++ rg 17 66)) (fun ⟨m22, v15, lJ, Dy, Fu⟩ => [(7, v15)]) (fun ⟨m22, v15, lJ, Dy, Fu⟩ w => SH w0 M K0 w (hset [(1, .blk ba [(I6 Dy)]), (2, .blk bo [(.bool (Fu))]), (3, .rd l8 vW W), (4, .sr gT vF F), (5, .pt bw 0 [vW]), (6, .pt bwd 0 [(.func (.func 103) #[] #[(.pointer (some ⟨ba, 0, none⟩)), (.pointer (some ⟨bw, 0, none⟩)), (.pointer (some ⟨bo, 0, none⟩))])]), (7, .pt bf 0 [vF]), (8, .pt be 0 [(.func (.func 104) #[] #[(.pointer (some ⟨bo, 0, none⟩)), (.pointer (some ⟨bwd, 0, none⟩)), (.pointer (some ⟨bf, 0, none⟩))])]), (9, .pt bb 0 [(.func (.func 109) #[] #[(.pointer (some ⟨bwd, 0, none⟩)), (.pointer (some ⟨bo, 0, none⟩)), (.pointer (some ⟨be, 0, none⟩)), (.pointer (some ⟨bb, 0, none⟩))])]), (13, .own dJ 147 v15 lJ)]) ∧ again (qY N F0 W F a) m22 (lJ, Dy, Fu) = some r) (fun ⟨m22, v15, lJ, Dy, Fu⟩ => m22) ⟨N, (.slice none 0 0), [], y1, y2⟩ ⟨rfl, trivial⟩ ?_ ?_
 exact ⟨h.cn _, hs⟩
 rintro ⟨m22, v15, lJ, Dy, Fu⟩ w cZ ⟨h, hs⟩
 obtain ⟨Ws, Zw, Zx⟩ := nC hs
 subst Zw
 replace hs := Zx
 generalize PH : again (qY N F0 W F a) Ws = j4 at hs
 refine aK (nG (aa (aC h 2 rfl vU rfl rfl) (nN (aG hs rfl (fun c26 hs => ?_) (fun c26 hs => ?_)))))
 refine aF (aj (aI (bQ (σ := Str × Int × Bool) (inl [8, 18, 19]) (fun ⟨x27, y28, y29⟩ => [(8, (aN x27))]) (fun ⟨x27, y28, y29⟩ w => SH w0 M K0 w (hset [(1, .blk ba [(I6 y28)]), (2, .blk bo [(.bool (y29))]), (3, .rd l8 vW W), (4, .sr gT vF F), (5, .pt bw 0 [vW]), (6, .pt bwd 0 [(.func (.func 103) #[] #[(.pointer (some ⟨ba, 0, none⟩)), (.pointer (some ⟨bw, 0, none⟩)), (.pointer (some ⟨bo, 0, none⟩))])]), (7, .pt bf 0 [vF]), (8, .pt be 0 [(.func (.func 104) #[] #[(.pointer (some ⟨bo, 0, none⟩)), (.pointer (some ⟨bwd, 0, none⟩)), (.pointer (some ⟨bf, 0, none⟩))])]), (9, .pt bb 0 [(.func (.func 109) #[] #[(.pointer (some ⟨bwd, 0, none⟩)), (.pointer (some ⟨bo, 0, none⟩)), (.pointer (some ⟨be, 0, none⟩)), (.pointer (some ⟨bb, 0, none⟩))])]), (13, .own dJ 147 v15 lJ)]) ∧ qX N F0 lJ W F a j4 x27 y28 y29 = some r) ?_ ?_)))
 rintro ⟨x27, y28, y29⟩ w cZ ⟨h, hs⟩
 refine aK (nG (aa (ag (v := (aN x27)) rfl) (aa (Cj rfl rfl) (nN (aG hs rfl (fun Zy hs => ?_) (fun Zy hs => ?_))))))
 refine nG (aa (ag (v := v15) rfl) (aa (ae (v := v15) rfl) (nR (ax (aD (ax (aD (ax (bE (v := v15) Tryz.results109 rfl ?_)))))))))
 replace h := h.freeze 13 rfl
 replace h := h.pair 1 2 (by decide)
 obtain rfl := gM hs
 subst Iw
 obtain ⟨o1, o2, o3⟩ := h.Ah 1 (C := (.two (.blk ba [(I6 y28)]) (.blk bo [(.bool (y29))]) : Chunk)) rfl ⟨trivial, trivial⟩
 exact ⟨o2, v15, rfl, o1, o3, h.xB 1 13 rfl rfl⟩
 refine nS ?_
 obtain ⟨y31, e32, hs⟩ := aJ hs
 refine aM LZ rfl rfl (wN _ _ h.lt (hT.Oy h.keep hG) [115, 101, 116, 32, 112, 117, 116, 32, 115, 97, 121, 32, 112, 97, 117, 115, 101, 32, 103, 111, 32, 105, 102, 32, 119, 104, 105, 108, 101, 32, 114, 101, 116, 117, 114, 110] _ e32) ?_
 rintro _ w ⟨k35, u33, rfl, Ze⟩
 refine ⟨_, rfl, ?_⟩
 replace h := h.Bc 14 k35 Ze
 refine aa (ag (v := (aN x27)) rfl) ?_
 obtain ⟨kJ, e37, hs⟩ := aJ hs
 refine aM Rn rfl rfl (yl _ _ h.lt u33 y31 (h.mY 14 rfl) x27 _ e37) ?_
 rintro _ w ⟨RD, rfl⟩
 refine ⟨_, rfl, ?_⟩
 replace h := h.grow RD
 obtain ⟨a39, hs⟩ := aW hs
 refine aa (bU rfl rfl a39) (aa (ek (pv := [(0, (I6 ((kJ + 1))))]) (out := [(I6 ((kJ + 1))), (I6 0), (.slice none 0 0), (.slice none 0 0), (.slice none 0 0), (.slice none 0 0)]) MP rfl ⟨0, 1, [(I6 ((kJ + 1)))], rfl, rfl, rfl, bB rfl, rfl⟩) (bL h 15 mr fun w Wt h => dS (vs := [(I6 ((kJ + 1))), (I6 0), (.slice none 0 0), (.slice none 0 0), (.slice none 0 0), (.slice none 0 0)]) h 15 [(I6 ((kJ + 1))), (I6 0), (.slice none 0 0), (.slice none 0 0), (.slice none 0 0), (.slice none 0 0)] rfl mr rfl rfl rfl rfl rfl (ai rfl (ai rfl (ai rfl (ai rfl (ai rfl (ai rfl aZ)))))) fun w h => nK (aa (aC h 2 rfl vU rfl rfl) (aa (ag (v := (.bool (y29))) rfl) (aA rfl rfl (fun q => ah iZ rfl) (aA rfl rfl (fun q => aC h 15 rfl aS (bZ q) rfl) (aA rfl rfl (fun q => iV (bZ q) rfl) (aa (gG rfl rfl mX) (dV h 2 [(.bool ((y29 && decide ((0 : Int) < (kJ + 1)))))] rfl vU rfl rfl rfl rfl rfl fun w h => nJ (aa (aC h 2 rfl vU rfl rfl) (aa (fU rfl) (nN ?_))))))))))))
 refine aG hs rfl (fun Uo hs => ?_) (fun Uo hs => ?_)
 refine jd (bK (DZ (by decide) (bK (eF (aj (nG (aa (ae (v := (.slice none 0 0)) rfl) (nR (bE (v := (.slice none 0 0)) Tryz.results109 rfl ?_)))))))))
 replace h := h.pair 1 2 (by decide)
 obtain rfl := gM hs
 subst Iw
 obtain ⟨o1, o2, o3⟩ := h.Ah 1 (C := (.two (.blk ba [(I6 y28)]) (.blk bo [(.bool ((y29 && decide ((0 : Int) < (kJ + 1)))))]) : Chunk)) rfl ⟨trivial, trivial⟩
 exact ⟨o2, .slice none 0 0, rfl, o1, o3, eY.nil⟩
 refine aF (aj (bQ (σ := Int × Bool × Int) (inl (rg 36 10)) (fun ⟨nL, xL, wz⟩ => []) (fun ⟨nL, xL, wz⟩ w => SH w0 M K0 w (hset [(1, .blk ba [(I6 nL)]), (2, .blk bo [(.bool (xL))]), (3, .rd l8 vW W), (4, .sr gT vF F), (5, .pt bw 0 [vW]), (6, .pt bwd 0 [(.func (.func 103) #[] #[(.pointer (some ⟨ba, 0, none⟩)), (.pointer (some ⟨bw, 0, none⟩)), (.pointer (some ⟨bo, 0, none⟩))])]), (7, .pt bf 0 [vF]), (8, .pt be 0 [(.func (.func 104) #[] #[(.pointer (some ⟨bo, 0, none⟩)), (.pointer (some ⟨bwd, 0, none⟩)), (.pointer (some ⟨bf, 0, none⟩))])]), (9, .pt bb 0 [(.func (.func 109) #[] #[(.pointer (some ⟨bwd, 0, none⟩)), (.pointer (some ⟨bo, 0, none⟩)), (.pointer (some ⟨be, 0, none⟩)), (.pointer (some ⟨bb, 0, none⟩))])]), (13, .own dJ 147 v15 lJ), (15, .blk Wt [(I6 ((kJ + 1))), (I6 wz), (.slice none 0 0), (.slice none 0 0), (.slice none 0 0), (.slice none 0 0)])]) ∧ oV N F0 kJ W F a lJ j4 nL xL wz = some r) ?_ ?_))
 rintro ⟨nL, xL, wz⟩ w cZ ⟨h, hs⟩
 refine bQ (σ := Int × Bool × Value × List Tok) (inl (rg 46 6)) (fun ⟨KL, KM, v47, xm⟩ => []) (fun ⟨KL, KM, v47, xm⟩ w => SH w0 M K0 w (hset [(1, .blk ba [(I6 KL)]), (2, .blk bo [(.bool (KM))]), (3, .rd l8 vW W), (4, .sr gT vF F), (5, .pt bw 0 [vW]), (6, .pt bwd 0 [(.func (.func 103) #[] #[(.pointer (some ⟨ba, 0, none⟩)), (.pointer (some ⟨bw, 0, none⟩)), (.pointer (some ⟨bo, 0, none⟩))])]), (7, .pt bf 0 [vF]), (8, .pt be 0 [(.func (.func 104) #[] #[(.pointer (some ⟨bo, 0, none⟩)), (.pointer (some ⟨bwd, 0, none⟩)), (.pointer (some ⟨bf, 0, none⟩))])]), (9, .pt bb 0 [(.func (.func 109) #[] #[(.pointer (some ⟨bwd, 0, none⟩)), (.pointer (some ⟨bo, 0, none⟩)), (.pointer (some ⟨be, 0, none⟩)), (.pointer (some ⟨bb, 0, none⟩))])]), (13, .own dJ 147 v15 lJ), (15, .blk Wt [(I6 ((kJ + 1))), (I6 wz), v47, (.slice none 0 0), (.slice none 0 0), (.slice none 0 0)]), (16, .rd jw v47 xm)]) ∧ qW N F0 kJ W F a lJ wz j4 KL KM xm = some r) ?_ ?_
 rintro ⟨KL, KM, v47, xm⟩ w cZ ⟨h, hs⟩
 refine bQ (σ := Int × Bool × Value × List Tok) (inl (rg 52 6)) (fun ⟨Ab, qp, v51, rG⟩ => []) (fun ⟨Ab, qp, v51, rG⟩ w => SH w0 M K0 w (hset [(1, .blk ba [(I6 Ab)]), (2, .blk bo [(.bool (qp))]), (3, .rd l8 vW W), (4, .sr gT vF F), (5, .pt bw 0 [vW]), (6, .pt bwd 0 [(.func (.func 103) #[] #[(.pointer (some ⟨ba, 0, none⟩)), (.pointer (some ⟨bw, 0, none⟩)), (.pointer (some ⟨bo, 0, none⟩))])]), (7, .pt bf 0 [vF]), (8, .pt be 0 [(.func (.func 104) #[] #[(.pointer (some ⟨bo, 0, none⟩)), (.pointer (some ⟨bwd, 0, none⟩)), (.pointer (some ⟨bf, 0, none⟩))])]), (9, .pt bb 0 [(.func (.func 109) #[] #[(.pointer (some ⟨bwd, 0, none⟩)), (.pointer (some ⟨bo, 0, none⟩)), (.pointer (some ⟨be, 0, none⟩)), (.pointer (some ⟨bb, 0, none⟩))])]), (13, .own dJ 147 v15 lJ), (15, .blk Wt [(I6 ((kJ + 1))), (I6 wz), v47, v51, (.slice none 0 0), (.slice none 0 0)]), (16, .rd jw v47 xm), (17, .rd jw v51 rG)]) ∧ qV F0 kJ a W F lJ wz xm j4 Ab qp rG = some r) ?_ ?_
 rintro ⟨Ab, qp, v51, rG⟩ w cZ ⟨h, hs⟩
 refine bQ (σ := Int × Bool × Value × List aR) (inl (rg 58 13)) (fun ⟨Ja, NZ, v55, KJ⟩ => []) (fun ⟨Ja, NZ, v55, KJ⟩ w => SH w0 M K0 w (hset [(1, .blk ba [(I6 Ja)]), (2, .blk bo [(.bool (NZ))]), (3, .rd l8 vW W), (4, .sr gT vF F), (5, .pt bw 0 [vW]), (6, .pt bwd 0 [(.func (.func 103) #[] #[(.pointer (some ⟨ba, 0, none⟩)), (.pointer (some ⟨bw, 0, none⟩)), (.pointer (some ⟨bo, 0, none⟩))])]), (7, .pt bf 0 [vF]), (8, .pt be 0 [(.func (.func 104) #[] #[(.pointer (some ⟨bo, 0, none⟩)), (.pointer (some ⟨bwd, 0, none⟩)), (.pointer (some ⟨bf, 0, none⟩))])]), (9, .pt bb 0 [(.func (.func 109) #[] #[(.pointer (some ⟨bwd, 0, none⟩)), (.pointer (some ⟨bo, 0, none⟩)), (.pointer (some ⟨be, 0, none⟩)), (.pointer (some ⟨bb, 0, none⟩))])]), (13, .own dJ 147 v15 lJ), (15, .blk Wt [(I6 ((kJ + 1))), (I6 wz), v47, v51, v55, (.slice none 0 0)]), (16, .rd jw v47 xm), (17, .rd jw v51 rG), (18, .rd dJ v55 KJ)]) ∧ xP F0 kJ a W F lJ wz xm rG j4 Ja NZ KJ = some r) ?_ ?_
 rintro ⟨Ja, NZ, v55, KJ⟩ w cZ ⟨h, hs⟩
 refine bQ (σ := Int × Bool × Value × List aR) (inl (rg 71 8)) (fun ⟨Uy, Uz, v59, yM⟩ => []) (fun ⟨Uy, Uz, v59, yM⟩ w => SH w0 M K0 w (hset [(1, .blk ba [(I6 Uy)]), (2, .blk bo [(.bool (Uz))]), (3, .rd l8 vW W), (4, .sr gT vF F), (5, .pt bw 0 [vW]), (6, .pt bwd 0 [(.func (.func 103) #[] #[(.pointer (some ⟨ba, 0, none⟩)), (.pointer (some ⟨bw, 0, none⟩)), (.pointer (some ⟨bo, 0, none⟩))])]), (7, .pt bf 0 [vF]), (8, .pt be 0 [(.func (.func 104) #[] #[(.pointer (some ⟨bo, 0, none⟩)), (.pointer (some ⟨bwd, 0, none⟩)), (.pointer (some ⟨bf, 0, none⟩))])]), (9, .pt bb 0 [(.func (.func 109) #[] #[(.pointer (some ⟨bwd, 0, none⟩)), (.pointer (some ⟨bo, 0, none⟩)), (.pointer (some ⟨be, 0, none⟩)), (.pointer (some ⟨bb, 0, none⟩))])]), (13, .own dJ 147 v15 lJ), (15, .blk Wt [(I6 ((kJ + 1))), (I6 wz), v47, v51, v55, v59]), (16, .rd jw v47 xm), (17, .rd jw v51 rG), (18, .rd dJ v55 KJ), (19, .rd dJ v59 yM)]) ∧ xO lJ kJ wz xm rG KJ j4 Uy Uz yM = some r) ?_ ?_
 rintro ⟨Uy, Uz, v59, yM⟩ w cZ ⟨h, hs⟩
 refine az (aa (ag (v := v15) rfl) (aa (fu (vs := [(I6 ((kJ + 1))), (I6 wz), v47, v51, v55, v59]) h 15 rfl mr rfl rfl rfl) (pK (R := dJ) (vs := [(.agg #[(I6 ((kJ + 1))), (I6 wz), v47, v51, v55, v59])]) (xs := [(⟨(kJ + 1), wz, xm, rG, KJ, yM⟩ : aR)]) h 20 F8 rfl rfl rfl ⟨(Ow ⟨_, _, _, _, rfl, (h.fq 16 rfl), (h.fq 17 rfl), (h.fq 18 rfl), (h.fq 19 rfl)⟩), trivial⟩ rfl fun w Zz h => ?_)))
 obtain ⟨a62, hs⟩ := aW hs
 refine jm (R := dJ) (m := [(⟨(kJ + 1), wz, xm, rG, KJ, yM⟩ : aR)]) h 13 rfl (h.dE 20 rfl) F8 rfl rfl rfl a62.1 a62.2 fun w u63 h => aa (ae (v := u63) rfl) (aB (au (ak ?_)))
 subst PH
 exact iW ⟨Ws, u63, (lJ ++ [(⟨(kJ + 1), wz, xm, rG, KJ, yM⟩ : aR)]), Uy, Uz⟩ ⟨h.cn _, hs⟩
 refine nG (aa (ah iZ rfl) (aa (aC h 15 rfl aS rfl rfl) (aa (bH rfl rfl) (nN (aG hs rfl (fun c64 hs => ?_) (fun c64 hs => ?_))))))
 refine az (aa (dY (k := 0) h 9 rfl En rfl rfl) (aa (ag (v := (I6 a)) rfl) ?_))
 obtain ⟨a65, hs⟩ := aW hs
 refine aa (bU rfl rfl a65) ?_
 replace h := h.pair 1 2 (by decide)
 obtain ⟨ZA, ZB, ZC⟩ := h.mf 1 (C := (.two (.blk ba [(I6 Ja)]) (.blk bo [(.bool (NZ))]) : Chunk)) rfl ⟨trivial, trivial⟩
 obtain ⟨Bz, Rz, hs⟩ := aJ hs
 refine aM Hf rfl rfl (ih _ _ ZC (hT.Oy h.keep hG) ba bo bw bwd bf be bb (⟨Ja, NZ⟩ : cK) ZA ZB vW W (h.Fs 1 3 rfl rfl) vF F (h.Rc 1 4 rfl rfl) (by obtain ⟨E, hE⟩ := hbw; exact ⟨E, h.keep.blk hE KF⟩) PE (by obtain ⟨E, hE⟩ := Hy; exact ⟨E, h.keep.blk hE Ew⟩) Ev (by obtain ⟨E, hE⟩ := hbf; exact ⟨E, h.keep.blk hE KG⟩) PG (by obtain ⟨E, hE⟩ := hbe; exact ⟨E, h.keep.blk hE UA⟩) Vw (by obtain ⟨E, hE⟩ := hbb; exact ⟨E, h.keep.blk hE UB⟩) Vx (a + 1) (h.Eg hT hG 1 (C := (.two (.blk ba [(I6 Ja)]) (.blk bo [(.bool (NZ))]) : Chunk)) rfl) _ Rz) ?_
 rintro _ w ⟨k71, u69, rfl, h72, h73, g70⟩
 refine ⟨_, rfl, ?_⟩
 replace h := h.back 1 (C := (.two (.blk ba [(I6 Ja)]) (.blk bo [(.bool (NZ))]) : Chunk)) (C' := (.two (.blk ba [(I6 Bz.2.at_)]) (.blk bo [(.bool (Bz.2.ok))]) : Chunk)) rfl ⟨trivial, trivial⟩ h72 k71 h73
 replace h := h.bD 21 (iY g70)
 replace h := h.iX 1 2 (by decide) rfl rfl
 refine aa (ah wI rfl) (dV h 15 [(I6 ((kJ + 1))), (I6 wz), v47, v51, v55, u69] rfl nD rfl rfl rfl rfl (h.fq 21 rfl).one fun w h => aB (ak ?_))
 replace h := h.vI 21 19 rfl
 exact bO (Bz.2.at_, Bz.2.ok, u69, Bz.1) ⟨h.cn _, hs⟩
 refine aF (ak ?_)
 replace h := h.bD 19 (eY.nil (R := dJ))
 exact bO (Ja, NZ, (.slice none 0 0), []) ⟨h.cn _, hs⟩
 refine nG (aa (ah iZ rfl) (aa (aC h 15 rfl aS rfl rfl) (aa (bH rfl rfl) (aa (ag (v := (.bool (decide (((kJ + 1) : Int) = 6)))) rfl) (aA rfl rfl (fun q => ah iZ rfl) (aA rfl rfl (fun q => aC h 15 rfl aS (bZ q) rfl) (aA rfl rfl (fun q => bH (bZ q) rfl) (aa (gK rfl rfl mX) (nN (aG hs rfl (fun ZE hs => ?_) (fun ZE hs => ?_)))))))))))
 refine az (aa (dY (k := 0) h 9 rfl En rfl rfl) (aa (ag (v := (I6 a)) rfl) ?_))
 obtain ⟨a75, hs⟩ := aW hs
 refine aa (bU rfl rfl a75) ?_
 replace h := h.pair 1 2 (by decide)
 obtain ⟨ZF, ZG, ZH⟩ := h.mf 1 (C := (.two (.blk ba [(I6 Ab)]) (.blk bo [(.bool (qp))]) : Chunk)) rfl ⟨trivial, trivial⟩
 obtain ⟨RG, e78, hs⟩ := aJ hs
 refine aM Hf rfl rfl (ih _ _ ZH (hT.Oy h.keep hG) ba bo bw bwd bf be bb (⟨Ab, qp⟩ : cK) ZF ZG vW W (h.Fs 1 3 rfl rfl) vF F (h.Rc 1 4 rfl rfl) (by obtain ⟨E, hE⟩ := hbw; exact ⟨E, h.keep.blk hE KF⟩) PE (by obtain ⟨E, hE⟩ := Hy; exact ⟨E, h.keep.blk hE Ew⟩) Ev (by obtain ⟨E, hE⟩ := hbf; exact ⟨E, h.keep.blk hE KG⟩) PG (by obtain ⟨E, hE⟩ := hbe; exact ⟨E, h.keep.blk hE UA⟩) Vw (by obtain ⟨E, hE⟩ := hbb; exact ⟨E, h.keep.blk hE UB⟩) Vx (a + 1) (h.Eg hT hG 1 (C := (.two (.blk ba [(I6 Ab)]) (.blk bo [(.bool (qp))]) : Chunk)) rfl) _ e78) ?_
 rintro _ w ⟨ZI, u79, rfl, h82, ZJ, g80⟩
 refine ⟨_, rfl, ?_⟩
 replace h := h.back 1 (C := (.two (.blk ba [(I6 Ab)]) (.blk bo [(.bool (qp))]) : Chunk)) (C' := (.two (.blk ba [(I6 RG.2.at_)]) (.blk bo [(.bool (RG.2.ok))]) : Chunk)) rfl ⟨trivial, trivial⟩ h82 ZI ZJ
 replace h := h.bD 22 (iY g80)
 replace h := h.iX 1 2 (by decide) rfl rfl
 refine aa (ah wH rfl) (dV h 15 [(I6 ((kJ + 1))), (I6 wz), v47, v51, u79, (.slice none 0 0)] rfl nD rfl rfl rfl rfl (h.fq 22 rfl).one fun w h => aB (ak ?_))
 replace h := h.vI 22 18 rfl
 exact bO (RG.2.at_, RG.2.ok, u79, RG.1) ⟨h.cn _, hs⟩
 refine aF (ak ?_)
 replace h := h.bD 18 (eY.nil (R := dJ))
 exact bO (Ab, qp, (.slice none 0 0), []) ⟨h.cn _, hs⟩
 refine nG (aa (ah iZ rfl) (aa (aC h 15 rfl aS rfl rfl) (aa (bH rfl rfl) (nN (aG hs rfl (fun c84 hs => ?_) (fun c84 hs => ?_))))))
 refine az (aa (dY (k := 0) h 8 rfl Hq rfl rfl) ?_)
 replace h := h.pair 1 2 (by decide)
 obtain ⟨ZK, ZL, ZM⟩ := h.mf 1 (C := (.two (.blk ba [(I6 KL)]) (.blk bo [(.bool (KM))]) : Chunk)) rfl ⟨trivial, trivial⟩
 obtain ⟨Hw, Zp, hs⟩ := aJ hs
 refine aM LW rfl rfl (Gf N _ _ ZM (hT.Oy h.keep hG) ba bo bw bwd bf (⟨KL, KM⟩ : cK) ZK ZL vW W (h.Fs 1 3 rfl rfl) vF F (h.Rc 1 4 rfl rfl) (by obtain ⟨E, hE⟩ := hbw; exact ⟨E, h.keep.blk hE KF⟩) PE (by obtain ⟨E, hE⟩ := Hy; exact ⟨E, h.keep.blk hE Ew⟩) Ev (by obtain ⟨E, hE⟩ := hbf; exact ⟨E, h.keep.blk hE KG⟩) PG (h.Eg hT hG 1 (C := (.two (.blk ba [(I6 KL)]) (.blk bo [(.bool (KM))]) : Chunk)) rfl) _ Zp) ?_
 rintro _ w ⟨k90, u88, rfl, h91, ZN, g89⟩
 refine ⟨_, rfl, ?_⟩
 replace h := h.back 1 (C := (.two (.blk ba [(I6 KL)]) (.blk bo [(.bool (KM))]) : Chunk)) (C' := (.two (.blk ba [(I6 Hw.2.at_)]) (.blk bo [(.bool (Hw.2.ok))]) : Chunk)) rfl ⟨trivial, trivial⟩ h91 k90 ZN
 replace h := h.bD 23 (iY g89)
 replace h := h.iX 1 2 (by decide) rfl rfl
 refine aa (ah yK rfl) (dV h 15 [(I6 ((kJ + 1))), (I6 wz), v47, u88, (.slice none 0 0), (.slice none 0 0)] rfl u7 rfl rfl rfl rfl (h.fq 23 rfl).one fun w h => aB (ak ?_))
 replace h := h.vI 23 17 rfl
 exact bO (Hw.2.at_, Hw.2.ok, u88, Hw.1) ⟨h.cn _, hs⟩
 refine aF (ak ?_)
 replace h := h.bD 17 (eY.nil (R := jw))
 exact bO (KL, KM, (.slice none 0 0), []) ⟨h.cn _, hs⟩
 refine nG (aa (ah iZ rfl) (aa (aC h 15 rfl aS rfl rfl) (aa (iK rfl rfl) (nN (aG hs rfl (fun c93 hs => ?_) (fun c93 hs => ?_))))))
 refine az (aa (dY (k := 0) h 8 rfl Hq rfl rfl) ?_)
 replace h := h.pair 1 2 (by decide)
 obtain ⟨l94a, l94b, UC⟩ := h.mf 1 (C := (.two (.blk ba [(I6 nL)]) (.blk bo [(.bool (xL))]) : Chunk)) rfl ⟨trivial, trivial⟩
 obtain ⟨y95, ZO, hs⟩ := aJ hs
 refine aM LW rfl rfl (Gf N _ _ UC (hT.Oy h.keep hG) ba bo bw bwd bf (⟨nL, xL⟩ : cK) l94a l94b vW W (h.Fs 1 3 rfl rfl) vF F (h.Rc 1 4 rfl rfl) (by obtain ⟨E, hE⟩ := hbw; exact ⟨E, h.keep.blk hE KF⟩) PE (by obtain ⟨E, hE⟩ := Hy; exact ⟨E, h.keep.blk hE Ew⟩) Ev (by obtain ⟨E, hE⟩ := hbf; exact ⟨E, h.keep.blk hE KG⟩) PG (h.Eg hT hG 1 (C := (.two (.blk ba [(I6 nL)]) (.blk bo [(.bool (xL))]) : Chunk)) rfl) _ ZO) ?_
 rintro _ w ⟨Zr, Vy, rfl, ZP, ZQ, ZR⟩
 refine ⟨_, rfl, ?_⟩
 replace h := h.back 1 (C := (.two (.blk ba [(I6 nL)]) (.blk bo [(.bool (xL))]) : Chunk)) (C' := (.two (.blk ba [(I6 y95.2.at_)]) (.blk bo [(.bool (y95.2.ok))]) : Chunk)) rfl ⟨trivial, trivial⟩ ZP Zr ZQ
 replace h := h.bD 24 (iY ZR)
 replace h := h.iX 1 2 (by decide) rfl rfl
 refine aa (ah wG rfl) (dV h 15 [(I6 ((kJ + 1))), (I6 wz), Vy, (.slice none 0 0), (.slice none 0 0), (.slice none 0 0)] rfl u7 rfl rfl rfl rfl (h.fq 24 rfl).one fun w h => aB (ak ?_))
 replace h := h.vI 24 16 rfl
 exact bO (y95.2.at_, y95.2.ok, Vy, y95.1) ⟨h.cn _, hs⟩
 refine aF (ak ?_)
 replace h := h.bD 16 (eY.nil (R := jw))
 exact bO (nL, xL, (.slice none 0 0), []) ⟨h.cn _, hs⟩
 refine nG (aa (ah iZ rfl) (aa (aC h 15 rfl aS rfl rfl) (aa (CY rfl rfl) (nN (aG hs rfl (fun UD hs => ?_) (fun UD hs => ?_))))))
 refine az (aa (dY (k := 0) h 6 rfl xK rfl rfl) (jo (args := [(.pointer (some ⟨ba, 0, none⟩)), (.pointer (some ⟨bw, 0, none⟩)), (.pointer (some ⟨bo, 0, none⟩))]) xI rfl rfl (aH (args := [(.pointer (some ⟨ba, 0, none⟩)), (.pointer (some ⟨bw, 0, none⟩)), (.pointer (some ⟨bo, 0, none⟩))]) Tryz.func103 rfl Tryz.ntmps103 (bB rfl) (nG (aa (ae (v := (aN [])) rfl) (nK (aa (aC h 1 rfl aS rfl rfl) (aa (dY (k := 0) h 5 rfl lC rfl rfl) (aa (bC dK rfl (h.mY 3 rfl)) (aa (pq rfl rfl) (nN (aG hs rfl (fun UE hs => ?_) (fun UE hs => ?_)))))))))))))
 refine nG (dV h 2 [(.bool (false))] rfl vU rfl rfl rfl rfl rfl fun w h => nJ (aa (ae (v := (aN [])) rfl) (nR (ax (bE (v := (aN [])) Tryz.results103 rfl (⟨_, rfl, ?_⟩))))))
 obtain ⟨y104, HV, hs⟩ := aJ hs
 refine aM Bt rfl rfl (om _ _ h.lt (hT.Oy h.keep hG) [] _ HV) ?_
 rintro _ w ⟨FH, Jo, rfl, Wu⟩
 refine ⟨_, rfl, ?_⟩
 replace h := h.grow FH
 refine aa (ag (v := (.tuple #[(I6 y104.1), Jo])) rfl) (aa (bz rfl rfl) (aa (bz rfl rfl) (aa (ah sP rfl) (dV h 15 [(I6 ((kJ + 1))), (I6 y104.1), (.slice none 0 0), (.slice none 0 0), (.slice none 0 0), (.slice none 0 0)] rfl aS rfl rfl rfl rfl rfl fun w h => aB (ak ?_)))))
 exact bO (y28, false, y104.1) ⟨h.cn _, hs⟩
 refine nS (aa (aC h 1 rfl aS rfl rfl) ?_)
 obtain ⟨a109, hs⟩ := aW hs
 refine aa (bU rfl rfl a109) (dV h 1 [(I6 ((y28 + 1)))] rfl aS rfl rfl rfl rfl rfl fun w h => nJ (aa (dY (k := 0) h 5 rfl lC rfl rfl) (aa (aC h 1 rfl aS rfl rfl) ?_)))
 obtain ⟨ZT, hs⟩ := aW hs
 refine aa (sG rfl rfl ZT) ?_
 obtain ⟨KN, Wv, hs⟩ := aJ hs
 obtain ⟨b114, o115, cs116, h, ZU, i113⟩ := h.FU 3 25 rfl dK rfl (aU Wv).1 (aU Wv).2
 obtain rfl := ZU
 refine aa (i113 _ _ _ _ _ _ _ _ _ rfl rfl) (aa (dY (k := 0) h 25 rfl wK rfl rfl) (aa (ae (v := (aN KN)) rfl) (nR (bE (v := (aN KN)) Tryz.results103 rfl (⟨_, rfl, ?_⟩)))))
 obtain ⟨KO, e119, hs⟩ := aJ hs
 refine aM Bt rfl rfl (om _ _ h.lt (hT.Oy h.keep hG) KN _ e119) ?_
 rintro _ w ⟨ZV, ZW, rfl, g121⟩
 refine ⟨_, rfl, ?_⟩
 replace h := h.grow ZV
 refine aa (ag (v := (.tuple #[(I6 KO.1), ZW])) rfl) (aa (bz rfl rfl) (aa (bz rfl rfl) (aa (ah sP rfl) (dV h 15 [(I6 ((kJ + 1))), (I6 KO.1), (.slice none 0 0), (.slice none 0 0), (.slice none 0 0), (.slice none 0 0)] rfl aS rfl rfl rfl rfl rfl fun w h => aB (ak ?_)))))
 exact bO ((y28 + 1), (y29 && decide ((0 : Int) < (kJ + 1))), KO.1) ⟨h.cn _, hs⟩
 refine aF (ak ?_)
 exact bO (y28, (y29 && decide ((0 : Int) < (kJ + 1))), 0) ⟨h.cn _, hs⟩
 refine az (aa (dY (k := 0) h 6 rfl xK rfl rfl) (jo (args := [(.pointer (some ⟨ba, 0, none⟩)), (.pointer (some ⟨bw, 0, none⟩)), (.pointer (some ⟨bo, 0, none⟩))]) xI rfl rfl (aH (args := [(.pointer (some ⟨ba, 0, none⟩)), (.pointer (some ⟨bw, 0, none⟩)), (.pointer (some ⟨bo, 0, none⟩))]) Tryz.func103 rfl Tryz.ntmps103 (bB rfl) (nG (aa (ae (v := (aN [])) rfl) (nK (aa (aC h 1 rfl aS rfl rfl) (aa (dY (k := 0) h 5 rfl lC rfl rfl) (aa (bC dK rfl (h.mY 3 rfl)) (aa (pq rfl rfl) (nN (aG hs rfl (fun ZX hs => ?_) (fun ZX hs => ?_)))))))))))))
 refine nG (dV h 2 [(.bool (false))] rfl vU rfl rfl rfl rfl rfl fun w h => nJ (aa (ae (v := (aN [])) rfl) (nR (ax (bE (v := (aN [])) Tryz.results103 rfl (⟨_, rfl, ?_⟩))))))
 refine aa (ae (v := (aN [])) rfl) (aB (ak ?_))
 exact bO ([], Dy, false) ⟨h.cn _, hs⟩
 refine nS (aa (aC h 1 rfl aS rfl rfl) ?_)
 obtain ⟨a124, hs⟩ := aW hs
 refine aa (bU rfl rfl a124) (dV h 1 [(I6 ((Dy + 1)))] rfl aS rfl rfl rfl rfl rfl fun w h => nJ (aa (dY (k := 0) h 5 rfl lC rfl rfl) (aa (aC h 1 rfl aS rfl rfl) ?_)))
 obtain ⟨ZY, hs⟩ := aW hs
 refine aa (sG rfl rfl ZY) ?_
 obtain ⟨Jm, e127, hs⟩ := aJ hs
 obtain ⟨b129, o130, cs131, h, ZZ, i128⟩ := h.FU 3 26 rfl dK rfl (aU e127).1 (aU e127).2
 obtain rfl := ZZ
 refine aa (i128 _ _ _ _ _ _ _ _ _ rfl rfl) (aa (dY (k := 0) h 26 rfl wK rfl rfl) (aa (ae (v := (aN Jm)) rfl) (nR (bE (v := (aN Jm)) Tryz.results103 rfl (⟨_, rfl, ?_⟩)))))
 refine aa (ae (v := (aN Jm)) rfl) (aB (ak ?_))
 exact bO (Jm, (Dy + 1), Fu) ⟨h.cn _, hs⟩
 refine nE (aa (ae (v := (.slice none 0 0)) rfl) (nR (bE (v := (.slice none 0 0)) Tryz.results109 rfl ?_)))
 replace h := h.pair 1 2 (by decide)
 obtain rfl := gM hs
 subst Iw
 obtain ⟨o1, o2, o3⟩ := h.Ah 1 (C := (.two (.blk ba [(I6 Dy)]) (.blk bo [(.bool (Fu))]) : Chunk)) rfl ⟨trivial, trivial⟩
 exact ⟨o2, .slice none 0 0, rfl, o1, o3, eY.nil⟩
 refine bQ (σ := Bool × Int × Bool) (inl (rg 10 7)) (fun ⟨Al, Dz, Hz⟩ => [(16, (.bool (Al)))]) (fun ⟨Al, Dz, Hz⟩ w => SH w0 M K0 w (hset [(1, .blk ba [(I6 Dz)]), (2, .blk bo [(.bool (Hz))]), (3, .rd l8 vW W), (4, .sr gT vF F), (5, .pt bw 0 [vW]), (6, .pt bwd 0 [(.func (.func 103) #[] #[(.pointer (some ⟨ba, 0, none⟩)), (.pointer (some ⟨bw, 0, none⟩)), (.pointer (some ⟨bo, 0, none⟩))])]), (7, .pt bf 0 [vF]), (8, .pt be 0 [(.func (.func 104) #[] #[(.pointer (some ⟨bo, 0, none⟩)), (.pointer (some ⟨bwd, 0, none⟩)), (.pointer (some ⟨bf, 0, none⟩))])]), (9, .pt bb 0 [(.func (.func 109) #[] #[(.pointer (some ⟨bwd, 0, none⟩)), (.pointer (some ⟨bo, 0, none⟩)), (.pointer (some ⟨be, 0, none⟩)), (.pointer (some ⟨bb, 0, none⟩))])])]) ∧ qZ N F0 W F a Al Dz Hz = some r) ?_ ?_
 rintro ⟨Al, Dz, Hz⟩ w cZ ⟨h, hs⟩
 refine aG hs rfl (fun Z0 hs => ?_) (fun Z0 hs => ?_)
 refine az (dV h 2 [(.bool (false))] rfl vU rfl rfl rfl rfl rfl fun w h => aB (ak ?_))
 exact bO (Dz, false) ⟨h.cn _, hs⟩
 refine aF (ak ?_)
 exact bO (Dz, Hz) ⟨h.cn _, hs⟩
 refine az (aa (dY (k := 0) h 6 rfl xK rfl rfl) (jo (args := [(.pointer (some ⟨ba, 0, none⟩)), (.pointer (some ⟨bw, 0, none⟩)), (.pointer (some ⟨bo, 0, none⟩))]) xI rfl rfl (aH (args := [(.pointer (some ⟨ba, 0, none⟩)), (.pointer (some ⟨bw, 0, none⟩)), (.pointer (some ⟨bo, 0, none⟩))]) Tryz.func103 rfl Tryz.ntmps103 (bB rfl) (nG (aa (ae (v := (aN [])) rfl) (nK (aa (aC h 1 rfl aS rfl rfl) (aa (dY (k := 0) h 5 rfl lC rfl rfl) (aa (bC dK rfl (h.mY 3 rfl)) (aa (pq rfl rfl) (nN (aG hs rfl (fun Z4 hs => ?_) (fun Z4 hs => ?_)))))))))))))
 refine nG (dV h 2 [(.bool (false))] rfl vU rfl rfl rfl rfl rfl fun w h => nJ (aa (ae (v := (aN [])) rfl) (nR (ax (bE (v := (aN [])) Tryz.results103 rfl (⟨_, rfl, ?_⟩))))))
 refine aa (Ee rfl rfl) (aa (ag (v := (.bool (true))) rfl) (lv (b' := true) rfl rfl rfl (lv (b' := true) rfl rfl rfl (aa (fo (b := true) (v := (.bool (true))) rfl rfl) (aB (ak ?_))))))
 exact bO (true, sx.at_, false) ⟨h.cn _, hs⟩
 refine nS (aa (aC h 1 rfl aS rfl rfl) ?_)
 obtain ⟨a138, hs⟩ := aW hs
 refine aa (bU rfl rfl a138) (dV h 1 [(I6 ((sx.at_ + 1)))] rfl aS rfl rfl rfl rfl rfl fun w h => nJ (aa (dY (k := 0) h 5 rfl lC rfl rfl) (aa (aC h 1 rfl aS rfl rfl) ?_)))
 obtain ⟨a139, hs⟩ := aW hs
 refine aa (sG rfl rfl a139) ?_
 obtain ⟨Jn, Ww, hs⟩ := aJ hs
 obtain ⟨b143, o144, cs145, h, Z5, i142⟩ := h.FU 3 27 rfl dK rfl (aU Ww).1 (aU Ww).2
 obtain rfl := Z5
 refine aa (i142 _ _ _ _ _ _ _ _ _ rfl rfl) (aa (dY (k := 0) h 27 rfl wK rfl rfl) (aa (ae (v := (aN Jn)) rfl) (nR (bE (v := (aN Jn)) Tryz.results103 rfl (⟨_, rfl, ?_⟩)))))
 refine aa (Ee rfl rfl) (aa (ag (v := (.bool (decide ((Jn : Str) ≠ [123])))) rfl) (aA rfl rfl (fun q => ag (v := (I6 a)) rfl) (aA rfl rfl (fun q => iV (bZ q) rfl) (aa (gK rfl rfl mX) (aB (ak ?_))))))
 exact bO ((decide ((Jn : Str) ≠ [123]) || decide ((6 : Int) < a)), (sx.at_ + 1), sx.ok) ⟨h.cn _, hs⟩
def j5 (FI : List dO → Option (List dO × Int)) (y24 : List dO) : Option (List dO × Int) :=
  FI y24
def j6 (y1 : List Str) (i17 : Int) (uI : List dO) (FI : List dO → Option (List dO × Int)) (x30 : Bool) : Option (List dO × Int) :=
  bif x30 then (idx y1 (i17 + 1)).bind fun x32 => (yD x32).bind fun y39 => gD (jg (i17 + 2)) ((idx y1 (i17 + 2)).bind fun Z6 => (yD Z6).bind fun rG => gD (Room 40 uI [(⟨y39.1, rG.1, []⟩ : dO)]) (j5 FI (uI ++ [(⟨y39.1, rG.1, []⟩ : dO)]))) else j5 FI uI
def fV (N : Nat) (y1 : List Str) (pI : List dO) (i101 : Int) (jE : (List dO × Int × Bool) → Option (List dO × Int)) (DC : Int) (y112 : Bool) : Option (List dO × Int) :=
  (sZ N (⟨DC, y112⟩ : cK) y1 pI 1).bind fun jf => (idx pI i101).bind fun uT => jE ((pI.set (i101).toNat { uT with body := jf.1 }), jf.2.at_, jf.2.ok)
def fZ (N : Nat) (y1 : List Str) (pI : List dO) (i101 : Int) (jE : (List dO × Int × Bool) → Option (List dO × Int)) (nk : Int) (HY : Bool) : Option (List dO × Int) :=
  bif decide (((y1.length : Int) : Int) ≤ nk) then fV N y1 pI i101 jE nk false else gD (jg (nk + 1)) (gD (jg ((nk + 1) - 1)) ((idx y1 ((nk + 1) - 1)).bind fun RH => fV N y1 pI i101 jE (nk + 1) HY))
def gm (N : Nat) (y1 : List Str) (pI : List dO) (i101 : Int) (jE : (List dO × Int × Bool) → Option (List dO × Int)) (nu : Int) (HZ : Bool) : Option (List dO × Int) :=
  bif decide (((y1.length : Int) : Int) ≤ nu) then fZ N y1 pI i101 jE nu false else gD (jg (nu + 1)) (gD (jg ((nu + 1) - 1)) ((idx y1 ((nu + 1) - 1)).bind fun RI => fZ N y1 pI i101 jE (nu + 1) HZ))
def gp (N : Nat) (y1 : List Str) (pI : List dO) (i101 : Int) (jE : (List dO × Int × Bool) → Option (List dO × Int)) (Jp : Bool) (DD : Int) (H5 : Bool) : Option (List dO × Int) :=
  bif Jp then gm N y1 pI i101 jE DD false else gm N y1 pI i101 jE DD H5
def iq (pI : List dO) (x159 : Bool) : Option (List dO × Int) :=
  bif x159 then some ([], 1) else some (pI, 0)
def gq (N : Nat) (y1 : List Str) (i101 : Int) (s : List dO × Int × Bool) (jE : List dO × Int × Bool → Option (List dO × Int)) : Option (List dO × Int) :=
  match s with | (pI, y98, y99) => bif decide (((y1.length : Int) : Int) ≤ y98) then gp N y1 pI i101 jE true y98 false else gD (jg (y98 + 1)) (gD (jg ((y98 + 1) - 1)) ((idx y1 ((y98 + 1) - 1)).bind fun x152 => gp N y1 pI i101 jE (decide ((x152 : Str) ≠ [102, 117, 110])) (y98 + 1) y99))
def iw (N : Nat) (y1 : List Str) (a : Str) (s : List dO × Int × Bool) : Option (List dO × Int) :=
  match s with | (pI, y98, y99) => bif ((!y99) || decide ((y98 : Int) < (y1.length : Int))) then iq pI true else (qx N pI).bind fun PI => bif decide ((PI : Int) ≠ 0) then iq pI true else (qP N pI).bind fun RJ => iq pI (decide ((RJ : Str) ≠ a))
def iy (uI : List dO) (i64 : Int) (s : Unit) (Wx : Unit → Option (List dO × Int)) : Option (List dO × Int) :=
  (idx uI i64).bind fun RL => bif (!(aP RL.params 0 3)) then some ([], 1) else Wx ()
def gu (N : Nat) (y1 : List Str) (a : Str) (uI : List dO) (s : Unit) : Option (List dO × Int) :=
  upto (gq N y1) (iw N y1 a) 0 ((uI.length : Int)).toNat (uI, 0, true)
def iA (y1 : List Str) (i17 : Int) (xn : Str) (uI : List dO) (FI : List dO → Option (List dO × Int)) : Option (List dO × Int) :=
  bif decide ((xn : Str) = [102, 117, 110]) then gD (jg (i17 + 2)) (j6 y1 i17 uI FI (decide (((i17 + 2) : Int) < (y1.length : Int)))) else j6 y1 i17 uI FI false
def gy (N : Nat) (y1 : List Str) (a : Str) (uI : List dO) : Option (List dO × Int) :=
  bif (decide (((uI.length : Int) : Int) = 0) || decide ((4 : Int) < (uI.length : Int))) then some ([], 1) else upto (iy uI) (gu N y1 a uI) 0 ((uI.length : Int)).toNat ()
def jy (N : Nat) (a : Str) : Option (List dO × Int) :=
  (GV a [32]).bind fun y1 => eU (iA y1) (gy N y1 a) 0 y1 []
end
end Go.Proofs.YtfclkapelkhlpaaGreatDoor
