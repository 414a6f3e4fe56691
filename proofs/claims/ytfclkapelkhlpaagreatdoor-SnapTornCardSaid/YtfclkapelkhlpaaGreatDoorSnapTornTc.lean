/-
  What the law SnapTorn needs of our own library and of the walks, no more.
-/
import Derived.Test.YtfclkapelkhlpaaGreatDoorProg
import Derived.Test.YtfclkapelkhlpaaGreatDoorSnapTornTb
set_option linter.unusedSimpArgs false
set_option linter.unusedVariables false
set_option maxRecDepth 10000
namespace Go.Proofs.YtfclkapelkhlpaaGreatDoor
open Go Go.Proofs Go.LX
noncomputable section
theorem FQ : l9 Tryz.prog 111 147 6 112 := ⟨Tryz.underlying111, qm (z := (.agg #[(.int .i64 (0)), (.int .i64 (0)), (.slice none 0 0), (.slice none 0 0), (.slice none 0 0), (.slice none 0 0)])) (by kernel_rfl) rfl⟩
theorem FR : l9 Tryz.prog 145 160 2 16 := ⟨Tryz.underlying145, qm (z := (.agg #[(.int .i64 (0)), (.int .i64 (0))])) (by kernel_rfl) rfl⟩
theorem FT : l9 Tryz.prog 153 9 1 16 := ⟨Tryz.underlying153, qm (z := (aP [])) (by kernel_rfl) rfl⟩
theorem Mq : l9 Tryz.prog 204 111 1 24 := ⟨Tryz.underlying204, qm (z := (.slice none 0 0)) (by kernel_rfl) rfl⟩
theorem IQ : l9 Tryz.prog 22 57 3 40 := ⟨Tryz.underlying22, qm (z := (.agg #[(.int .i64 (0)), (.int .i64 (0)), (.slice none 0 0)])) (by kernel_rfl) rfl⟩
theorem yw : l9 Tryz.prog 23 49 4 48 := ⟨Tryz.underlying23, qm (z := (.agg #[(.int .i64 (0)), (.int .i64 (0)), (.slice none 0 0), (.int .i64 (0))])) (by kernel_rfl) rfl⟩
theorem mW : l9 Tryz.prog 24 47 1 24 := ⟨Tryz.underlying24, qm (z := (.slice none 0 0)) (by kernel_rfl) rfl⟩
theorem fP : l9 Tryz.prog 27 3 1 8 := ⟨Tryz.underlying27, qm (z := (.int .i64 (0))) (by kernel_rfl) rfl⟩
theorem vV : l9 Tryz.prog 47 51 2 16 := ⟨Tryz.underlying47, qm (z := (.agg #[(.int .i64 (0)), (.int .i64 (0))])) (by kernel_rfl) rfl⟩
theorem dP : l9 Tryz.prog 55 93 5 56 := ⟨Tryz.underlying55, qm (z := (.agg #[(.int .i64 (0)), (.int .i64 (0)), (.int .i64 (0)), (.int .i64 (0)), (.slice none 0 0)])) (by kernel_rfl) rfl⟩
theorem IU : l9 Tryz.prog 67 113 3 40 := ⟨Tryz.underlying67, qm (z := (.agg #[(.int .i64 (0)), (.int .i64 (0)), (.slice none 0 0)])) (by kernel_rfl) rfl⟩
theorem r9 : eU Tryz.prog 113 0 0 := ⟨_, _, 0, Tryz.underlying113, rfl, rfl, by kernel_rfl⟩
theorem vX : eU Tryz.prog 113 1 1 := ⟨_, _, 0, Tryz.underlying113, rfl, rfl, by kernel_rfl⟩
theorem yx : eU Tryz.prog 113 2 2 := ⟨_, _, 0, Tryz.underlying113, rfl, rfl, by kernel_rfl⟩
theorem iV : eU Tryz.prog 147 0 0 := ⟨_, _, 0, Tryz.underlying147, rfl, rfl, by kernel_rfl⟩
theorem si : eU Tryz.prog 147 1 1 := ⟨_, _, 0, Tryz.underlying147, rfl, rfl, by kernel_rfl⟩
theorem vY : eU Tryz.prog 147 2 2 := ⟨_, _, 0, Tryz.underlying147, rfl, rfl, by kernel_rfl⟩
theorem yz : eU Tryz.prog 147 3 3 := ⟨_, _, 0, Tryz.underlying147, rfl, rfl, by kernel_rfl⟩
theorem vZ : eU Tryz.prog 147 4 4 := ⟨_, _, 0, Tryz.underlying147, rfl, rfl, by kernel_rfl⟩
theorem wm : eU Tryz.prog 147 5 5 := ⟨_, _, 0, Tryz.underlying147, rfl, rfl, by kernel_rfl⟩
theorem A7 : eU Tryz.prog 160 0 0 := ⟨_, _, 0, Tryz.underlying160, rfl, rfl, by kernel_rfl⟩
theorem lJ : eU Tryz.prog 160 1 1 := ⟨_, _, 0, Tryz.underlying160, rfl, rfl, by kernel_rfl⟩
theorem kD : eU Tryz.prog 26 0 0 := ⟨_, _, 0, Tryz.underlying26, rfl, rfl, by kernel_rfl⟩
theorem kE : eU Tryz.prog 26 1 1 := ⟨_, _, 0, Tryz.underlying26, rfl, rfl, by kernel_rfl⟩
theorem vz : eU Tryz.prog 26 2 2 := ⟨_, _, 0, Tryz.underlying26, rfl, rfl, by kernel_rfl⟩
theorem xm : eU Tryz.prog 26 3 3 := ⟨_, _, 0, Tryz.underlying26, rfl, rfl, by kernel_rfl⟩
theorem xn : eU Tryz.prog 49 0 0 := ⟨_, _, 0, Tryz.underlying49, rfl, rfl, by kernel_rfl⟩
theorem zf : eU Tryz.prog 49 1 1 := ⟨_, _, 0, Tryz.underlying49, rfl, rfl, by kernel_rfl⟩
theorem pI : eU Tryz.prog 49 2 2 := ⟨_, _, 0, Tryz.underlying49, rfl, rfl, by kernel_rfl⟩
theorem xq : eU Tryz.prog 49 3 3 := ⟨_, _, 0, Tryz.underlying49, rfl, rfl, by kernel_rfl⟩
theorem A8 : eU Tryz.prog 51 0 0 := ⟨_, _, 0, Tryz.underlying51, rfl, rfl, by kernel_rfl⟩
theorem nI : eU Tryz.prog 51 1 1 := ⟨_, _, 0, Tryz.underlying51, rfl, rfl, by kernel_rfl⟩
theorem A9 : eU Tryz.prog 57 0 0 := ⟨_, _, 0, Tryz.underlying57, rfl, rfl, by kernel_rfl⟩
theorem zg : eU Tryz.prog 57 1 1 := ⟨_, _, 0, Tryz.underlying57, rfl, rfl, by kernel_rfl⟩
theorem um : eU Tryz.prog 57 2 2 := ⟨_, _, 0, Tryz.underlying57, rfl, rfl, by kernel_rfl⟩
theorem rH : eU Tryz.prog 93 0 0 := ⟨_, _, 0, Tryz.underlying93, rfl, rfl, by kernel_rfl⟩
theorem zh : eU Tryz.prog 93 1 1 := ⟨_, _, 0, Tryz.underlying93, rfl, rfl, by kernel_rfl⟩
theorem mg : eU Tryz.prog 93 2 2 := ⟨_, _, 0, Tryz.underlying93, rfl, rfl, by kernel_rfl⟩
theorem uo : eU Tryz.prog 93 3 3 := ⟨_, _, 0, Tryz.underlying93, rfl, rfl, by kernel_rfl⟩
theorem zi : eU Tryz.prog 93 4 4 := ⟨_, _, 0, Tryz.underlying93, rfl, rfl, by kernel_rfl⟩
theorem GU : fG Tryz.prog 100 := ⟨_, Tryz.func100, by kernel_rfl, rfl⟩
theorem QU : fG Tryz.prog 101 := ⟨_, Tryz.func101, by kernel_rfl, rfl⟩
theorem Ba : fG Tryz.prog 102 := ⟨_, Tryz.func102, by kernel_rfl, rfl⟩
theorem xu : fG Tryz.prog 103 := ⟨_, Tryz.func103, by kernel_rfl, rfl⟩
theorem Lv : fG Tryz.prog 104 := ⟨_, Tryz.func104, by kernel_rfl, rfl⟩
theorem QV : fG Tryz.prog 105 := ⟨_, Tryz.func105, by kernel_rfl, rfl⟩
theorem GV : fG Tryz.prog 106 := ⟨_, Tryz.func106, by kernel_rfl, rfl⟩
theorem Lx : fG Tryz.prog 107 := ⟨_, Tryz.func107, by kernel_rfl, rfl⟩
theorem GX : fG Tryz.prog 108 := ⟨_, Tryz.func108, by kernel_rfl, rfl⟩
theorem GY : fG Tryz.prog 109 := ⟨_, Tryz.func109, by kernel_rfl, rfl⟩
theorem QW : fG Tryz.prog 110 := ⟨_, Tryz.func110, by kernel_rfl, rfl⟩
theorem LA : fG Tryz.prog 111 := ⟨_, Tryz.func111, by kernel_rfl, rfl⟩
theorem QX : fG Tryz.prog 112 := ⟨_, Tryz.func112, by kernel_rfl, rfl⟩
theorem QY : fG Tryz.prog 113 := ⟨_, Tryz.func113, by kernel_rfl, rfl⟩
theorem QZ : fG Tryz.prog 114 := ⟨_, Tryz.func114, by kernel_rfl, rfl⟩
theorem Q0 : fG Tryz.prog 115 := ⟨_, Tryz.func115, by kernel_rfl, rfl⟩
theorem Dq : fG Tryz.prog 116 := ⟨_, Tryz.func116, by kernel_rfl, rfl⟩
theorem Q3 : fG Tryz.prog 124 := ⟨_, Tryz.func124, by kernel_rfl, rfl⟩
theorem Dr : fG Tryz.prog 125 := ⟨_, Tryz.func125, by kernel_rfl, rfl⟩
theorem LB : fG Tryz.prog 128 := ⟨_, Tryz.func128, by kernel_rfl, rfl⟩
theorem GZ : fG Tryz.prog 129 := ⟨_, Tryz.func129, by kernel_rfl, rfl⟩
theorem G5 : fG Tryz.prog 130 := ⟨_, Tryz.func130, by kernel_rfl, rfl⟩
theorem Q4 : fG Tryz.prog 131 := ⟨_, Tryz.func131, by kernel_rfl, rfl⟩
theorem Q5 : fG Tryz.prog 141 := ⟨_, Tryz.func141, by kernel_rfl, rfl⟩
theorem xw : fG Tryz.prog 144 := ⟨_, Tryz.func144, by kernel_rfl, rfl⟩
theorem zk : fG Tryz.prog 145 := ⟨_, Tryz.func145, by kernel_rfl, rfl⟩
theorem LC : fG Tryz.prog 146 := ⟨_, Tryz.func146, by kernel_rfl, rfl⟩
theorem LD : fG Tryz.prog 147 := ⟨_, Tryz.func147, by kernel_rfl, rfl⟩
theorem Tx : fG Tryz.prog 16 := ⟨_, Tryz.func16, by kernel_rfl, rfl⟩
theorem Q6 : fG Tryz.prog 164 := ⟨_, Tryz.func164, by kernel_rfl, rfl⟩
theorem Ty : fG Tryz.prog 18 := ⟨_, Tryz.func18, by kernel_rfl, rfl⟩
theorem Kb : fG Tryz.prog 19 := ⟨_, Tryz.func19, by kernel_rfl, rfl⟩
theorem G6 : fG Tryz.prog 20 := ⟨_, Tryz.func20, by kernel_rfl, rfl⟩
theorem Oq : fG Tryz.prog 27 := ⟨_, Tryz.func27, by kernel_rfl, rfl⟩
theorem Tz : fG Tryz.prog 29 := ⟨_, Tryz.func29, by kernel_rfl, rfl⟩
theorem TA : fG Tryz.prog 39 := ⟨_, Tryz.func39, by kernel_rfl, rfl⟩
theorem TB : fG Tryz.prog 40 := ⟨_, Tryz.func40, by kernel_rfl, rfl⟩
theorem TC : fG Tryz.prog 44 := ⟨_, Tryz.func44, by kernel_rfl, rfl⟩
theorem TD : fG Tryz.prog 45 := ⟨_, Tryz.func45, by kernel_rfl, rfl⟩
theorem TE : fG Tryz.prog 46 := ⟨_, Tryz.func46, by kernel_rfl, rfl⟩
theorem Ot : fG Tryz.prog 47 := ⟨_, Tryz.func47, by kernel_rfl, rfl⟩
theorem TF : fG Tryz.prog 48 := ⟨_, Tryz.func48, by kernel_rfl, rfl⟩
theorem TG : fG Tryz.prog 49 := ⟨_, Tryz.func49, by kernel_rfl, rfl⟩
theorem Ou : fG Tryz.prog 50 := ⟨_, Tryz.func50, by kernel_rfl, rfl⟩
theorem vH : fG Tryz.prog 51 := ⟨_, Tryz.func51, by kernel_rfl, rfl⟩
theorem TH : fG Tryz.prog 53 := ⟨_, Tryz.func53, by kernel_rfl, rfl⟩
theorem Kc : fG Tryz.prog 55 := ⟨_, Tryz.func55, by kernel_rfl, rfl⟩
theorem Ov : fG Tryz.prog 63 := ⟨_, Tryz.func63, by kernel_rfl, rfl⟩
theorem TI : fG Tryz.prog 64 := ⟨_, Tryz.func64, by kernel_rfl, rfl⟩
theorem G7 : fG Tryz.prog 76 := ⟨_, Tryz.func76, by kernel_rfl, rfl⟩
theorem TJ : fG Tryz.prog 77 := ⟨_, Tryz.func77, by kernel_rfl, rfl⟩
theorem TK : fG Tryz.prog 78 := ⟨_, Tryz.func78, by kernel_rfl, rfl⟩
theorem TL : fG Tryz.prog 79 := ⟨_, Tryz.func79, by kernel_rfl, rfl⟩
theorem Ow : fG Tryz.prog 80 := ⟨_, Tryz.func80, by kernel_rfl, rfl⟩
theorem Ke : fG Tryz.prog 81 := ⟨_, Tryz.func81, by kernel_rfl, rfl⟩
theorem Ox : fG Tryz.prog 82 := ⟨_, Tryz.func82, by kernel_rfl, rfl⟩
theorem Kg : fG Tryz.prog 83 := ⟨_, Tryz.func83, by kernel_rfl, rfl⟩
theorem Kh : fG Tryz.prog 84 := ⟨_, Tryz.func84, by kernel_rfl, rfl⟩
theorem Oy : fG Tryz.prog 85 := ⟨_, Tryz.func85, by kernel_rfl, rfl⟩
theorem TM : fG Tryz.prog 86 := ⟨_, Tryz.func86, by kernel_rfl, rfl⟩
theorem Mr : NW Tryz.prog 156 := ⟨by kernel_rfl⟩
theorem kF : vS Tryz.prog 113 [(.int .i64 (0)), (.int .i64 (0)), (.slice none 0 0)] := ⟨⟨_, Tryz.underlying113, trivial⟩, by kernel_rfl⟩
theorem mh : vS Tryz.prog 147 [(.int .i64 (0)), (.int .i64 (0)), (.slice none 0 0), (.slice none 0 0), (.slice none 0 0), (.slice none 0 0)] := ⟨⟨_, Tryz.underlying147, trivial⟩, by kernel_rfl⟩
theorem iZ : vS Tryz.prog 160 [(.int .i64 (0)), (.int .i64 (0))] := ⟨⟨_, Tryz.underlying160, trivial⟩, by kernel_rfl⟩
theorem di : vS Tryz.prog 26 [(.slice none 0 0), (.slice none 0 0), (.int .i64 (0)), (.int .i64 (0))] := ⟨⟨_, Tryz.underlying26, trivial⟩, by kernel_rfl⟩
theorem iW : vS Tryz.prog 49 [(.int .i64 (0)), (.int .i64 (0)), (.slice none 0 0), (.int .i64 (0))] := ⟨⟨_, Tryz.underlying49, trivial⟩, by kernel_rfl⟩
theorem ic : vS Tryz.prog 51 [(.int .i64 (0)), (.int .i64 (0))] := ⟨⟨_, Tryz.underlying51, trivial⟩, by kernel_rfl⟩
theorem tu : vS Tryz.prog 57 [(.int .i64 (0)), (.int .i64 (0)), (.slice none 0 0)] := ⟨⟨_, Tryz.underlying57, trivial⟩, by kernel_rfl⟩
theorem uL : vS Tryz.prog 93 [(.int .i64 (0)), (.int .i64 (0)), (.int .i64 (0)), (.int .i64 (0)), (.slice none 0 0)] := ⟨⟨_, Tryz.underlying93, trivial⟩, by kernel_rfl⟩
theorem Bb : MapOf Tryz.prog 125 (.bool (false)) := ⟨_, _, Tryz.underlying125, Tryz.underlying3, by kernel_rfl⟩
theorem jF : MapOf Tryz.prog 131 (aP []) := ⟨_, _, Tryz.underlying131, Tryz.underlying3, by kernel_rfl⟩
theorem LF : MapOf Tryz.prog 89 (.int .i64 (0)) := ⟨_, _, Tryz.underlying89, Tryz.underlying3, by kernel_rfl⟩
theorem nu : One Tryz.prog 111 (.slice none 0 0) := ⟨⟨_, Tryz.underlying111, trivial⟩, by kernel_rfl, rfl⟩
theorem BX : One Tryz.prog 125 (.map none) := ⟨⟨_, Tryz.underlying125, trivial⟩, by kernel_rfl, rfl⟩
theorem uM : One Tryz.prog 145 (.slice none 0 0) := ⟨⟨_, Tryz.underlying145, trivial⟩, by kernel_rfl, rfl⟩
theorem ll : One Tryz.prog 153 (.slice none 0 0) := ⟨⟨_, Tryz.underlying153, trivial⟩, by kernel_rfl, rfl⟩
theorem xx : One Tryz.prog 159 .nilFunc := ⟨⟨_, Tryz.underlying159, trivial⟩, by kernel_rfl, rfl⟩
theorem G8 : One Tryz.prog 165 .nilFunc := ⟨⟨_, Tryz.underlying165, trivial⟩, by kernel_rfl, rfl⟩
theorem D5 : One Tryz.prog 166 .nilFunc := ⟨⟨_, Tryz.underlying166, trivial⟩, by kernel_rfl, rfl⟩
theorem qw : One Tryz.prog 23 (.slice none 0 0) := ⟨⟨_, Tryz.underlying23, trivial⟩, by kernel_rfl, rfl⟩
theorem nO : One Tryz.prog 24 (.slice none 0 0) := ⟨⟨_, Tryz.underlying24, trivial⟩, by kernel_rfl, rfl⟩
theorem qx : One Tryz.prog 27 (.slice none 0 0) := ⟨⟨_, Tryz.underlying27, trivial⟩, by kernel_rfl, rfl⟩
theorem aV : One Tryz.prog 3 (.int .i64 (0)) := ⟨⟨_, Tryz.underlying3, trivial⟩, by kernel_rfl, rfl⟩
theorem vI : One Tryz.prog 4 (.bool (false)) := ⟨⟨_, Tryz.underlying4, trivial⟩, by kernel_rfl, rfl⟩
theorem oW : One Tryz.prog 47 (.slice none 0 0) := ⟨⟨_, Tryz.underlying47, trivial⟩, by kernel_rfl, rfl⟩
theorem Bc : One Tryz.prog 55 (.slice none 0 0) := ⟨⟨_, Tryz.underlying55, trivial⟩, by kernel_rfl, rfl⟩
theorem wo : One Tryz.prog 67 (.slice none 0 0) := ⟨⟨_, Tryz.underlying67, trivial⟩, by kernel_rfl, rfl⟩
theorem LG : One Tryz.prog 89 (.map none) := ⟨⟨_, Tryz.underlying89, trivial⟩, by kernel_rfl, rfl⟩
theorem wu : One Tryz.prog 9 (aP []) := ⟨⟨_, Tryz.underlying9, trivial⟩, by kernel_rfl, rfl⟩
theorem Q7 : NP Tryz.prog 51 := ⟨⟨_, _, Tryz.underlying51, by decide, by decide, rfl, rfl, Tryz.underlying3, Tryz.underlying3, by kernel_rfl, by kernel_rfl⟩, by kernel_rfl, by kernel_rfl⟩
theorem jG : SliceOf Tryz.prog 111 147 6 := ⟨Tryz.underlying111, by kernel_rfl⟩
theorem jd : SliceOf Tryz.prog 145 160 2 := ⟨Tryz.underlying145, by kernel_rfl⟩
theorem dN : SliceOf Tryz.prog 153 9 1 := ⟨Tryz.underlying153, by kernel_rfl⟩
theorem D6 : SliceOf Tryz.prog 204 111 1 := ⟨Tryz.underlying204, by kernel_rfl⟩
theorem lK : SliceOf Tryz.prog 22 57 3 := ⟨Tryz.underlying22, by kernel_rfl⟩
theorem fD : SliceOf Tryz.prog 23 49 4 := ⟨Tryz.underlying23, by kernel_rfl⟩
theorem fe : SliceOf Tryz.prog 24 47 1 := ⟨Tryz.underlying24, by kernel_rfl⟩
theorem bS : SliceOf Tryz.prog 27 3 1 := ⟨Tryz.underlying27, by kernel_rfl⟩
theorem dD : SliceOf Tryz.prog 47 51 2 := ⟨Tryz.underlying47, by kernel_rfl⟩
theorem jD : SliceOf Tryz.prog 55 93 5 := ⟨Tryz.underlying55, by kernel_rfl⟩
theorem gK : SliceOf Tryz.prog 67 113 3 := ⟨Tryz.underlying67, by kernel_rfl⟩
theorem Ms : Struct Tryz.prog 113 [(.int .i64 (0)), (.int .i64 (0)), (.slice none 0 0)] [(0, 1), (1, 1), (2, 1)] := ⟨by kernel_rfl, _, Tryz.underlying113, by kernel_rfl⟩
theorem Mt : Struct Tryz.prog 147 [(.int .i64 (0)), (.int .i64 (0)), (.slice none 0 0), (.slice none 0 0), (.slice none 0 0), (.slice none 0 0)] [(0, 1), (1, 1), (2, 1), (3, 1), (4, 1), (5, 1)] := ⟨by kernel_rfl, _, Tryz.underlying147, by kernel_rfl⟩
theorem wy : Struct Tryz.prog 160 [(.int .i64 (0)), (.int .i64 (0))] [(0, 1), (1, 1)] := ⟨by kernel_rfl, _, Tryz.underlying160, by kernel_rfl⟩
theorem uN : Struct Tryz.prog 26 [(.slice none 0 0), (.slice none 0 0), (.int .i64 (0)), (.int .i64 (0))] [(0, 1), (1, 1), (2, 1), (3, 1)] := ⟨by kernel_rfl, _, Tryz.underlying26, by kernel_rfl⟩
theorem IV : Struct Tryz.prog 49 [(.int .i64 (0)), (.int .i64 (0)), (.slice none 0 0), (.int .i64 (0))] [(0, 1), (1, 1), (2, 1), (3, 1)] := ⟨by kernel_rfl, _, Tryz.underlying49, by kernel_rfl⟩
theorem Oz : Struct Tryz.prog 51 [(.int .i64 (0)), (.int .i64 (0))] [(0, 1), (1, 1)] := ⟨by kernel_rfl, _, Tryz.underlying51, by kernel_rfl⟩
theorem OA : Struct Tryz.prog 57 [(.int .i64 (0)), (.int .i64 (0)), (.slice none 0 0)] [(0, 1), (1, 1), (2, 1)] := ⟨by kernel_rfl, _, Tryz.underlying57, by kernel_rfl⟩
theorem kW : Struct Tryz.prog 93 [(.int .i64 (0)), (.int .i64 (0)), (.int .i64 (0)), (.int .i64 (0)), (.slice none 0 0)] [(0, 1), (1, 1), (2, 1), (3, 1), (4, 1)] := ⟨by kernel_rfl, _, Tryz.underlying93, by kernel_rfl⟩
theorem mixed : Tryz.prog.follows .mixedOrders = true := by kernel_rfl
theorem Dc (w0 : World) (M : BS) (hM : ∀ b, M b → b < w0.heap.size) (hT : rY Tryz.prog 4 w0) (a : Str) (b : Str) (r : List Str) (hs : GH a b = some r) :
    Calls Tryz.prog 101 #[aP a, aP b] w0 (fun e w' => Grow w0 w' ∧ ∃ u, e = .returned u ∧ eB lY w' M u r) :=
  QF Tryz.strings_Split hM hT hs
theorem nP (w0 : World) (M : BS) (hM : ∀ b, M b → b < w0.heap.size) (hT : rY Tryz.prog 4 w0) (a : Str) (r : Int × Bool) (hs : ym a = some r) :
    Calls Tryz.prog 102 #[aP a] w0 (fun e w' => Grow w0 w' ∧ ∃ u, e = .returned (.tuple #[.int .i64 r.1, u]) ∧ IB u r.2) :=
  Tc Tryz.strconv_Atoi_ok Tryz.strconv_Atoi_syntax_var Tryz.strconv_Atoi_range_var hT hs
def aR (a : Int) (b : Int) (c : Int) : Bool :=
  (decide ((b : Int) ≤ a) && decide ((a : Int) ≤ c))
theorem fE (w0 : World) (M : BS) (hM : ∀ b, M b → b < w0.heap.size) (a : Int) (b : Int) (c : Int) (r : Bool) (hs : aR a b c = r) :
    Calls Tryz.prog 51 #[(.int .i64 (a)), (.int .i64 (b)), (.int .i64 (c))] w0 (fun e w' => Grow w0 w' ∧ e = .returned (.bool r)) := by
 refine aK (args := [(.int .i64 (a)), (.int .i64 (b)), (.int .i64 (c))]) Tryz.func51 rfl Tryz.ntmps51 (Nat.le_of_ble_eq_true rfl) ?_
 have h := SH.init hM
 refine ai (ag (ae (aj (v := (.bool (false))) rfl) (ah (aa (ai (ag (ae (ak (v := (.int .i64 (b))) rfl) (ae (ak (v := (.int .i64 (a))) rfl) (ae (CF rfl rfl) (ae (ak (v := (.bool (decide ((b : Int) ≤ a)))) rfl) (aC rfl rfl (fun q => ak (v := (.int .i64 (a))) rfl) (aC rfl rfl (fun q => ak (v := (.int .i64 (c))) rfl) (aC rfl rfl (fun q => CF (cO q) (cO q)) (ae (gJ rfl rfl mR) (ae (aj (v := (.bool ((decide ((b : Int) ≤ a) && decide ((a : Int) ≤ c))))) rfl) (ah (aa (aI (bI (v := (.bool ((decide ((b : Int) ≤ a) && decide ((a : Int) ≤ c))))) Tryz.results51 rfl ?_)))))))))))))))))))
 obtain rfl := hs
 exact ⟨h.grown, rfl⟩
def mi (Mv : Int → Option (Int × Bool)) (x40 : Int) : Option (Int × Bool) :=
  Mv x40
def mo (F0 : List aU → Int → Option (Int × Bool)) (b : Int) (wT : List aU) (x32 : Int) (Mv : Int → Option (Int × Bool)) : Option (Int × Bool) :=
  bif decide ((0 : Int) < (wT.length : Int)) then gG (jb (b - 1)) ((F0 wT (b - 1)).bind fun p9 => gG (jb (x32 + p9.1)) (bif ((!p9.2) || decide ((30 : Int) < (x32 + p9.1))) then some (0, false) else mi Mv (x32 + p9.1))) else mi Mv x32
def mq (Mw : Int → Option (Int × Bool)) (x32 : Int) : Option (Int × Bool) :=
  bif decide ((30 : Int) < x32) then some (0, false) else Mw x32
def mr (F0 : List aU → Int → Option (Int × Bool)) (b : Int) (a : List aU) (x8 : aU) (x5 : Int) (Mw : Int → Option (Int × Bool)) : Option (Int × Bool) :=
  gG (jb (x5 + 1)) (each (mo F0 b) (mq Mw) [x8.a, x8.b] (x5 + 1))
def mD (x5 : Int) : Option (Int × Bool) :=
  some (x5, true)
def tY (F0 : List aU → Int → Option (Int × Bool)) (a : List aU) (b : Int) : Option (Int × Bool) :=
  bif decide ((b : Int) < 1) then some (0, false) else each (mr F0 b a) mD a 0
def kX : Nat → List aU → Int → Option (Int × Bool)
  | 0 => fun _ _ => none
  | N + 1 => tY (kX N)
theorem zF : ∀ (N : Nat) (w0 : World) (M : BS) (hM : ∀ b, M b → b < w0.heap.size) (va : Value) (a : List aU) (ha : eZ dM w0 BE M va a) (b : Int) (r : Int × Bool) (hs : kX N a b = some r),
    Calls Tryz.prog 128 #[va, (.int .i64 (b))] w0 (fun e w' => Grow w0 w' ∧ e = .returned (.tuple #[.int .i64 r.1, .bool r.2])) := by
 intro N
 induction N with
 | zero => intro w0 M hM va a ha b r hs; cases hs
 | succ N ih =>
 intro w0 M hM va a ha b r hs
 replace hs : tY (kX N) a b = some r := hs
 generalize kX N = F0 at hs ih
 refine aK (args := [va, (.int .i64 (b))]) Tryz.func128 rfl Tryz.ntmps128 (Nat.le_of_ble_eq_true rfl) ?_
 have h := SH.init hM
 replace h := h.dU 1 ha aW
 have tC := ha.bL
 refine ai (ag (ae (aj (v := (.int .i64 (0))) rfl) (ae (aj (v := (.bool (false))) rfl) (ah (aa (ai (ai (ag (ae (ak (v := (.int .i64 (b))) rfl) (ae (dA rfl rfl) (ah (aa (aJ hs rfl (fun c1 hs => ?_) (fun c1 hs => ?_))))))))))))))
 refine ai (ag (ae (aj (v := (.int .i64 (0))) rfl) (ae (aj (v := (.bool (false))) rfl) (ah (aa (aI (aB (zD (v1 := (.int .i64 (0))) (v2 := (.bool (false))) Tryz.results128 rfl rfl ?_))))))))
 obtain rfl := Option.some.inj hs
 exact ⟨h.grown, rfl⟩
 refine aD (aa (ai (ag (ae (aj (v := (.int .i64 (0))) rfl) (ah (aa (ai (ai (ag (ae (ak (v := va) rfl) (ae (bF jG rfl (h.fV 1 rfl)) (ae (ak (v := (.int .i64 (0))) rfl) (ah (aa (aL (fq (σ := Nat × Int × Int) (inl [4, 5, 6, 8, 10, 11, 12, 17, 18, 19, 20, 21, 22, 23, 24, 25, 26, 27, 28, 29, 30, 31, 32, 33, 34, 35, 36, 37, 38, 39, 40, 41, 42, 43, 44, 45, 46, 47, 48, 49, 50, 51, 52, 53, 54, 55]) (fun ⟨k6, i7, x5⟩ => [(6, (.int .i64 (x5))), (17, (.int .i64 (i7)))]) (fun ⟨k6, i7, x5⟩ w => SH w0 M BE w (hset [(1, .sr dM va a)]) ∧ i7 = (k6 : Int) ∧ each (mr F0 b a) mD (a.drop k6) x5 = some r) (fun ⟨k6, i7, x5⟩ => a.length - k6) ⟨0, 0, 0⟩ ⟨rfl, rfl, trivial⟩ ?_ ?_))))))))))))))))
 exact ⟨h.cn _, rfl, hs⟩
 rintro ⟨k6, i7, x5⟩ w dm ⟨h, hik, hs⟩
 refine ai (ag ?_)
 refine ae (dA rfl rfl) (ah (aa ?_))
 refine ai (gH rfl (fun e11 => ?_) (fun e11 => ?_))
 refine aD (aa ?_)
 obtain ⟨x8, Yf, Yg⟩ := fJ (hik ▸ e11)
 rw [Yg, df] at hs
 generalize VH : each (mr F0 b a) mD (a.drop (k6 + 1)) = Mw at hs
 have Yh := fO ((h.fV 1 rfl)).bL hik e11
 refine ai (aL (ai (ag ?_)))
 obtain ⟨b14, o15, Yi, h, Yj, i13⟩ := h.wZ 1 2 rfl jG rfl (gZ hik) (fM hik Yf)
 obtain ⟨Nu, u20, u22, u24, rfl, g19, g21, g23, TN⟩ := xc Yj
 replace h := h.bG 3 g19.up
 replace h := h.bG 4 g21.up.up
 replace h := h.bG 5 g23.up.up.up
 replace h := h.bG 6 TN.up.up.up.up
 refine ae (i13 _ _ _ _ _ _ _ _ _ rfl rfl) (ae (iF (k := 0) (vs := [(.int .i64 (x8.kind)), (.int .i64 (x8.n)), Nu, u20, u22, u24]) h 2 rfl mh rfl rfl rfl (Nat.le_of_ble_eq_true rfl)) (bP h 7 mh fun w U5 h => dV (vs := [(.int .i64 (x8.kind)), (.int .i64 (x8.n)), Nu, u20, u22, u24]) h 7 [(.int .i64 (x8.kind)), (.int .i64 (x8.n)), Nu, u20, u22, u24] rfl mh rfl rfl rfl rfl rfl (ax rfl (ax rfl (ax (h.fu 3 rfl).one (ax (h.fu 4 rfl).one (ax (h.fu 5 rfl).one (ax (h.fu 6 rfl).one bA)))))) fun w h => ah (aa (ai (ag (ae (ak (v := (.int .i64 (x5))) rfl) ?_))))))
 obtain ⟨a27, hs⟩ := aZ hs
 refine ae (bY rfl rfl a27) (ae (aj (v := (.int .i64 ((x5 + 1)))) rfl) (ah (aa (ai (ai (ag (ae (au vZ rfl) (ae (aF h 7 rfl nu rfl rfl) (ae (au wm rfl) (ae (aF h 7 rfl nu rfl rfl) (oV (R := (ou dM)) (vs := [u22, u24]) (xs := [x8.a, x8.b]) h 8 Mq rfl rfl rfl ⟨(h.fu 5 rfl).U4, ⟨(h.fu 6 rfl).U4, trivial⟩⟩ rfl fun w u28 h => ae (bF D6 rfl (h.dJ 8 rfl)) (ae (ak (v := (.int .i64 (0))) rfl) (ah (aa (aL ?_)))))))))))))))
 replace h := h.freeze 8 rfl
 refine fq (σ := Nat × Int × Int) (inl [4, 5, 6, 10, 11, 12, 29, 30, 31, 32, 33, 34, 35, 36, 37, 38, 39, 40, 41, 42, 43, 44, 45, 46, 47, 48, 49, 50, 51, 52]) (fun ⟨Nv, i34, x32⟩ => [(6, (.int .i64 (x32))), (29, (.int .i64 (i34)))]) (fun ⟨Nv, i34, x32⟩ w => SH w0 M BE w (hset [(1, .sr dM va a), (8, .rd (ou dM) u28 [x8.a, x8.b])]) ∧ i34 = (Nv : Int) ∧ each (mo F0 b) (mq Mw) ([x8.a, x8.b].drop Nv) x32 = some r) (fun ⟨Nv, i34, x32⟩ => [x8.a, x8.b].length - Nv) ⟨0, 0, (x5 + 1)⟩ ⟨rfl, rfl, trivial⟩ ?_ ?_
 exact ⟨h.cn _, rfl, hs⟩
 rintro ⟨Nv, i34, x32⟩ w dm ⟨h, hik, hs⟩
 refine ai (ag ?_)
 refine ae (dA rfl rfl) (ah (aa ?_))
 refine ai (gH rfl (fun e38 => ?_) (fun e38 => ?_))
 refine aD (aa ?_)
 obtain ⟨wT, Yk, Yl⟩ := fJ (hik ▸ e38)
 rw [Yl, df] at hs
 generalize VI : each (mo F0 b) (mq Mw) ([x8.a, x8.b].drop (Nv + 1)) = Mv at hs
 have Ym := fO ((h.mU 8 rfl)).bL hik e38
 refine bU (σ := Int) (inl [4, 5, 6, 10, 11, 12, 31, 32, 33, 34, 35, 36, 37, 38, 39, 40, 41, 42, 43, 44, 45, 46, 47, 48, 49, 50, 51]) (fun x40 => [(6, (.int .i64 (x40)))]) (fun x40 w => SH w0 M BE w (hset [(1, .sr dM va a), (8, .rd (ou dM) u28 [x8.a, x8.b])]) ∧ mi Mv x40 = some r) ?_ ?_
 rintro x40 w dm ⟨h, hs⟩
 refine ag (ae (bY rfl rfl Ym) (ae (ak (v := (.int .i64 ((i34 + 1)))) rfl) (ah (ay ?_))))
 subst VI
 exact iQ ⟨Nv + 1, i34 + 1, x40⟩ ⟨h.cn _, by omega, hs⟩ (by have := of_decide_eq_true e38; dsimp only; omega)
 refine aL (ai (ag ?_))
 obtain ⟨b42, o43, Yn, h, Yo, i41⟩ := h.FD 8 9 rfl D6 rfl (gZ hik) (fM hik Yk)
 obtain ⟨u46, rfl, g47⟩ := Yo
 replace h := h.bG 10 g47.up
 refine ae (i41 _ _ _ _ _ _ _ _ _ rfl rfl) (ae (ed (k := 0) h 9 rfl nu rfl rfl) (ae (aj (v := u46) rfl) (ah (aa (ai (ag (ae (ak (v := u46) rfl) (ae (bF jG rfl (h.mU 10 rfl)) (ae (iR rfl rfl) (ah (aa (aJ hs rfl (fun c48 hs => ?_) (fun c48 hs => ?_)))))))))))))
 refine ai (ag (ae (ak (v := u46) rfl) (ae (ak (v := (.int .i64 (b))) rfl) ?_)))
 obtain ⟨a49, hs⟩ := aZ hs
 refine ae (rT rfl rfl a49) ?_
 obtain ⟨p9, e51, hs⟩ := aM hs
 refine aO LB rfl rfl (ih _ _ h.lt u46 wT (h.mU 10 rfl) (b - 1) _ e51) ?_
 rintro _ w ⟨Yp, rfl⟩
 refine ⟨_, rfl, ?_⟩
 replace h := h.grow Yp
 refine ae (ak (v := (.tuple #[(.int .i64 (p9.1)), (.bool (p9.2))])) rfl) (ae (bC rfl rfl) (ae (bC rfl rfl) (ae (aj (v := (.int .i64 (p9.1))) rfl) (ae (aj (v := (.bool (p9.2))) rfl) (ah (aa (ai (ag (ae (ak (v := (.int .i64 (x32))) rfl) (ae (ak (v := (.int .i64 (p9.1))) rfl) ?_))))))))))
 obtain ⟨a53, hs⟩ := aZ hs
 refine ae (bY rfl rfl a53) (ae (aj (v := (.int .i64 ((x32 + p9.1)))) rfl) (ah (aa (ai (ag (ae (ak (v := (.bool (p9.2))) rfl) (ae (fZ rfl) (ae (ak (v := (.bool ((!p9.2)))) rfl) (aC rfl rfl (fun q => ak (v := (.int .i64 ((x32 + p9.1)))) rfl) (aC rfl rfl (fun q => iR (cO q) rfl) (ae (gM rfl rfl mR) (ah (aa (aJ hs rfl (fun c54 hs => ?_) (fun c54 hs => ?_)))))))))))))))
 refine ai (ag (ae (aj (v := (.int .i64 (0))) rfl) (ae (aj (v := (.bool (false))) rfl) (ah (aa (aI (aG (aB (aB (aG (aB (aG (aB (aB (aG (aB (zD (v1 := (.int .i64 (0))) (v2 := (.bool (false))) Tryz.results128 rfl rfl ?_)))))))))))))))))
 obtain rfl := Option.some.inj hs
 exact ⟨h.grown, rfl⟩
 refine aD (az (ay ?_))
 exact bR (x32 + p9.1) ⟨h.cn _, hs⟩
 refine aD (az (ay ?_))
 exact bR x32 ⟨h.cn _, hs⟩
 rw [fK (hik ▸ e38), fB] at hs
 refine bT (aH (aH (aT (aa (ai (ag (ae (ak (v := (.int .i64 (x32))) rfl) (ae (iR rfl rfl) (ah (aa (aJ hs rfl (fun c55 hs => ?_) (fun c55 hs => ?_))))))))))))
 refine ai (ag (ae (aj (v := (.int .i64 (0))) rfl) (ae (aj (v := (.bool (false))) rfl) (ah (aa (aI (aG (aB (aB (aG (aB (zD (v1 := (.int .i64 (0))) (v2 := (.bool (false))) Tryz.results128 rfl rfl ?_))))))))))))
 obtain rfl := Option.some.inj hs
 exact ⟨h.grown, rfl⟩
 refine aD (az (aa (ag (ae (bY rfl rfl Yh) (ae (ak (v := (.int .i64 ((i7 + 1)))) rfl) (ah (ay ?_)))))))
 subst VH
 exact iQ ⟨k6 + 1, i7 + 1, x32⟩ ⟨h.cn _, by omega, hs⟩ (by have := of_decide_eq_true e11; dsimp only; omega)
 rw [fK (hik ▸ e11), fB] at hs
 refine bT (aH (aH (aT (aa (ai (ag (ae (ak (v := (.int .i64 (x5))) rfl) (ae (aj (v := (.int .i64 (x5))) rfl) (ae (aj (v := (.bool (true))) rfl) (ah (aa (aI (zD (v1 := (.int .i64 (x5))) (v2 := (.bool (true))) Tryz.results128 rfl rfl ?_)))))))))))))
 obtain rfl := Option.some.inj hs
 exact ⟨h.grown, rfl⟩
theorem iK (w0 : World) (M : BS) (hM : ∀ b, M b → b < w0.heap.size) (a : Str) (b : UInt8) (r : Bool) (hs : hasB a b = r) :
    Calls Tryz.prog 145 #[(aP a), (aP [b])] w0 (fun e w' => Grow w0 w' ∧ e = .returned (.bool r)) := by
  refine (Tryz.strings_Contains_one ⟨a.toArray⟩ b w0).mono ?_
  rintro e w' ⟨rfl, rfl⟩
  subst hs
  exact ⟨aQ.refl _ _, by simp [hasB]⟩
def aN (a : Int) (b : Int) : Bool :=
  (decide ((0 : Int) ≤ a) && decide ((a : Int) < b))
theorem oO (w0 : World) (M : BS) (hM : ∀ b, M b → b < w0.heap.size) (a : Int) (b : Int) (r : Bool) (hs : aN a b = r) :
    Calls Tryz.prog 55 #[(.int .i64 (a)), (.int .i64 (b))] w0 (fun e w' => Grow w0 w' ∧ e = .returned (.bool r)) := by
 refine aK (args := [(.int .i64 (a)), (.int .i64 (b))]) Tryz.func55 rfl Tryz.ntmps55 (Nat.le_of_ble_eq_true rfl) ?_
 have h := SH.init hM
 refine ai (ag (ae (aj (v := (.bool (false))) rfl) (ah (aa (ai (ag (ae (ak (v := (.int .i64 (a))) rfl) (ae (oL rfl rfl) (ae (ak (v := (.bool (decide ((0 : Int) ≤ a)))) rfl) (aC rfl rfl (fun q => ak (v := (.int .i64 (a))) rfl) (aC rfl rfl (fun q => ak (v := (.int .i64 (b))) rfl) (aC rfl rfl (fun q => dA (cO q) (cO q)) (ae (gJ rfl rfl mR) (ae (aj (v := (.bool ((decide ((0 : Int) ≤ a) && decide ((a : Int) < b))))) rfl) (ah (aa (aI (bI (v := (.bool ((decide ((0 : Int) ≤ a) && decide ((a : Int) < b))))) Tryz.results55 rfl ?_))))))))))))))))))
 obtain rfl := hs
 exact ⟨h.grown, rfl⟩
def dR (a : Int) : Bool :=
  (aR a (-1000000000) 1000000000)
theorem zW (w0 : World) (M : BS) (hM : ∀ b, M b → b < w0.heap.size) (a : Int) (r : Bool) (hs : dR a = r) :
    Calls Tryz.prog 53 #[(.int .i64 (a))] w0 (fun e w' => Grow w0 w' ∧ e = .returned (.bool r)) := by
 refine aK (args := [(.int .i64 (a))]) Tryz.func53 rfl Tryz.ntmps53 (Nat.le_of_ble_eq_true rfl) ?_
 have h := SH.init hM
 refine ai (ag (ae (aj (v := (.bool (false))) rfl) (ah (aa (ai (ag (ae (ak (v := (.int .i64 (a))) rfl) (aO vH rfl rfl (fE _ _ h.lt a (-1000000000) 1000000000 _ rfl) ?_))))))))
 rintro _ w ⟨k1, rfl⟩
 refine ⟨_, rfl, ?_⟩
 replace h := h.grow k1
 refine ae (aj (v := (.bool ((aR a (-1000000000) 1000000000)))) rfl) (ah (aa (aI (bI (v := (.bool ((aR a (-1000000000) 1000000000)))) Tryz.results53 rfl ?_))))
 obtain rfl := hs
 exact ⟨h.grown, rfl⟩
def eO (x2 : Bool) : Int :=
  bif (!x2) then 3 else 0
def dK (a : Tok) (b : List dQ) (c : Int) : Int :=
  bif decide ((a.kind : Int) = 1) then eO (dR a.n) else bif decide ((a.kind : Int) = 2) then eO (aN a.n c) else bif decide ((a.kind : Int) = 3) then eO (aR a.n 1 5) else bif decide ((a.kind : Int) = 4) then eO (aR a.n 0 3) else bif decide ((a.kind : Int) = 5) then eO (aR a.n 1 4) else bif decide ((a.kind : Int) = 6) then bif (!(aN a.n (b.length : Int))) then 5 else eO true else 4
theorem qy (w0 : World) (M : BS) (hM : ∀ b, M b → b < w0.heap.size) (a : Tok) (vb : Value) (b : List dQ) (hb : eZ gQ w0 BE M vb b) (c : Int) (r : Int) (hs : dK a b c = r) :
    Calls Tryz.prog 107 #[(.agg #[(.int .i64 (a.kind)), (.int .i64 (a.n))]), vb, (.int .i64 (c))] w0 (fun e w' => Grow w0 w' ∧ e = .returned (.int .i64 r)) := by
 refine aK (args := [(.agg #[(.int .i64 (a.kind)), (.int .i64 (a.n))]), vb, (.int .i64 (c))]) Tryz.func107 rfl Tryz.ntmps107 (Nat.le_of_ble_eq_true rfl) ?_
 have h := SH.init hM
 replace h := h.dU 1 hb aW
 have Fe := hb.bL
 refine ai (ag (pX (cs := [(.int .i64 (a.kind)), (.int .i64 (a.n))]) h 2 rfl rfl fun w b1 h => ae (aj (v := (.int .i64 (0))) rfl) (ah (aa (ai (ag (ae (aj (v := (.bool (false))) rfl) (ah (aa (bU (σ := Bool) (inl [6, 7, 8, 9, 10, 11, 12, 13, 14, 15, 16, 17, 18, 19, 20, 21, 22, 23, 24, 25, 26, 27, 28, 29, 30, 31, 32, 33, 34, 35, 36, 37, 38, 39, 40, 41, 42, 43]) (fun x2 => [(7, (.bool (x2)))]) (fun x2 w => SH w0 M BE w (hset []) ∧ eO x2 = r) ?_ ?_))))))))))
 rintro x2 w dm ⟨h, hs⟩
 refine ai (ai (ag (ae (ak (v := (.bool (x2))) rfl) (ae (fZ rfl) (ah (aa (aJ hs rfl (fun c3 hs => ?_) (fun c3 hs => ?_))))))))
 refine ai (ag (ae (aj (v := (.int .i64 (3))) rfl) (ah (aa (aI (aB (bI (v := (.int .i64 (3))) Tryz.results107 rfl ?_)))))))
 obtain rfl := hs
 exact ⟨h.grown, rfl⟩
 refine aD (aa (ai (ag (ae (aj (v := (.int .i64 (0))) rfl) (ah (aa (aI (bI (v := (.int .i64 (0))) Tryz.results107 rfl ?_))))))))
 obtain rfl := hs
 exact ⟨h.grown, rfl⟩
 refine ai (ag (ae (au A7 rfl) (ae (aF h 2 rfl aV rfl rfl) (ah (aa (aL (ai (ag (ae (bM rfl rfl) (ae (aj (v := (.bool (decide ((a.kind : Int) = 1)))) rfl) (ah (aa (aJ hs rfl (fun c4 hs => ?_) (fun c4 hs => ?_))))))))))))))
 refine ag (ae (au lJ rfl) (ae (aF h 2 rfl aV rfl rfl) (aO TH rfl rfl (zW _ _ h.lt a.n _ rfl) ?_)))
 rintro _ w ⟨k5, rfl⟩
 refine ⟨_, rfl, ?_⟩
 replace h := h.grow k5
 refine ae (aj (v := (.bool ((dR a.n)))) rfl) (ah (az (ay ?_)))
 exact bR (dR a.n) ⟨h.cn _, hs⟩
 refine ai (ag (ae (bM rfl rfl) (ae (aj (v := (.bool (decide ((a.kind : Int) = 2)))) rfl) (ah (aa (aJ hs rfl (fun c6 hs => ?_) (fun c6 hs => ?_)))))))
 refine ag (ae (au lJ rfl) (ae (aF h 2 rfl aV rfl rfl) (ae (ak (v := (.int .i64 (c))) rfl) (aO Kc rfl rfl (oO _ _ h.lt a.n c _ rfl) ?_))))
 rintro _ w ⟨k7, rfl⟩
 refine ⟨_, rfl, ?_⟩
 replace h := h.grow k7
 refine ae (aj (v := (.bool ((aN a.n c)))) rfl) (ah (az (ay ?_)))
 exact bR (aN a.n c) ⟨h.cn _, hs⟩
 refine ai (ag (ae (bM rfl rfl) (ae (aj (v := (.bool (decide ((a.kind : Int) = 3)))) rfl) (ah (aa (aJ hs rfl (fun c8 hs => ?_) (fun c8 hs => ?_)))))))
 refine ag (ae (au lJ rfl) (ae (aF h 2 rfl aV rfl rfl) (aO vH rfl rfl (fE _ _ h.lt a.n 1 5 _ rfl) ?_)))
 rintro _ w ⟨k9, rfl⟩
 refine ⟨_, rfl, ?_⟩
 replace h := h.grow k9
 refine ae (aj (v := (.bool ((aR a.n 1 5)))) rfl) (ah (az (ay ?_)))
 exact bR (aR a.n 1 5) ⟨h.cn _, hs⟩
 refine ai (ag (ae (bM rfl rfl) (ae (aj (v := (.bool (decide ((a.kind : Int) = 4)))) rfl) (ah (aa (aJ hs rfl (fun c10 hs => ?_) (fun c10 hs => ?_)))))))
 refine ag (ae (au lJ rfl) (ae (aF h 2 rfl aV rfl rfl) (aO vH rfl rfl (fE _ _ h.lt a.n 0 3 _ rfl) ?_)))
 rintro _ w ⟨k11, rfl⟩
 refine ⟨_, rfl, ?_⟩
 replace h := h.grow k11
 refine ae (aj (v := (.bool ((aR a.n 0 3)))) rfl) (ah (az (ay ?_)))
 exact bR (aR a.n 0 3) ⟨h.cn _, hs⟩
 refine ai (ag (ae (bM rfl rfl) (ae (aj (v := (.bool (decide ((a.kind : Int) = 5)))) rfl) (ah (aa (aJ hs rfl (fun c12 hs => ?_) (fun c12 hs => ?_)))))))
 refine ag (ae (au lJ rfl) (ae (aF h 2 rfl aV rfl rfl) (aO vH rfl rfl (fE _ _ h.lt a.n 1 4 _ rfl) ?_)))
 rintro _ w ⟨k13, rfl⟩
 refine ⟨_, rfl, ?_⟩
 replace h := h.grow k13
 refine ae (aj (v := (.bool ((aR a.n 1 4)))) rfl) (ah (az (ay ?_)))
 exact bR (aR a.n 1 4) ⟨h.cn _, hs⟩
 refine ai (ag (ae (bM rfl rfl) (ae (aj (v := (.bool (decide ((a.kind : Int) = 6)))) rfl) (ah (aa (aJ hs rfl (fun c14 hs => ?_) (fun c14 hs => ?_)))))))
 refine ai (ai (ag (ae (au lJ rfl) (ae (aF h 2 rfl aV rfl rfl) (ae (ak (v := vb) rfl) (ae (bF gK rfl (h.fV 1 rfl)) (aO Kc rfl rfl (oO _ _ h.lt a.n (b.length : Int) _ rfl) ?_)))))))
 rintro _ w ⟨k15, rfl⟩
 refine ⟨_, rfl, ?_⟩
 replace h := h.grow k15
 refine ae (fZ rfl) (ah (aa (aJ hs rfl (fun c16 hs => ?_) (fun c16 hs => ?_))))
 refine ai (ag (ae (aj (v := (.int .i64 (5))) rfl) (ah (aa (aI (aB (aG (aB (bI (v := (.int .i64 (5))) Tryz.results107 rfl ?_)))))))))
 obtain rfl := hs
 exact ⟨h.grown, rfl⟩
 refine aD (aa (ag (ae (aj (v := (.bool (true))) rfl) (ah (az (ay ?_))))))
 exact bR true ⟨h.cn _, hs⟩
 refine ai (ag (ae (aj (v := (.int .i64 (4))) rfl) (ah (aa (aI (aG (aB (bI (v := (.int .i64 (4))) Tryz.results107 rfl ?_))))))))
 obtain rfl := hs
 exact ⟨h.grown, rfl⟩
def oD (a : Tok) (b : List dQ) : Option Int :=
  bif decide ((a.kind : Int) = 3) then some 2 else bif decide ((a.kind : Int) = 4) then some 1 else bif decide ((a.kind : Int) = 6) then (idx b a.n).bind fun x5 => some x5.params else some 0
theorem pO (w0 : World) (M : BS) (hM : ∀ b, M b → b < w0.heap.size) (a : Tok) (vb : Value) (b : List dQ) (hb : eZ gQ w0 BE M vb b) (r : Int) (hs : oD a b = some r) :
    Calls Tryz.prog 108 #[(.agg #[(.int .i64 (a.kind)), (.int .i64 (a.n))]), vb] w0 (fun e w' => Grow w0 w' ∧ e = .returned (.int .i64 r)) := by
 refine aK (args := [(.agg #[(.int .i64 (a.kind)), (.int .i64 (a.n))]), vb]) Tryz.func108 rfl Tryz.ntmps108 (Nat.le_of_ble_eq_true rfl) ?_
 have h := SH.init hM
 replace h := h.dU 1 hb aW
 have Fe := hb.bL
 refine ai (ag (pX (cs := [(.int .i64 (a.kind)), (.int .i64 (a.n))]) h 2 rfl rfl fun w b1 h => ae (aj (v := (.int .i64 (0))) rfl) (ah (aa (ai (ai (ag (ae (au A7 rfl) (ae (aF h 2 rfl aV rfl rfl) (ah (aa (aL (ai (ag (ae (bM rfl rfl) (ae (aj (v := (.bool (decide ((a.kind : Int) = 3)))) rfl) (ah (aa (aJ hs rfl (fun c2 hs => ?_) (fun c2 hs => ?_))))))))))))))))))))
 refine ai (ag (ae (aj (v := (.int .i64 (2))) rfl) (ah (aa (aI (aG (aB (bI (v := (.int .i64 (2))) Tryz.results108 rfl ?_))))))))
 obtain rfl := Option.some.inj hs
 exact ⟨h.grown, rfl⟩
 refine ai (ag (ae (bM rfl rfl) (ae (aj (v := (.bool (decide ((a.kind : Int) = 4)))) rfl) (ah (aa (aJ hs rfl (fun c3 hs => ?_) (fun c3 hs => ?_)))))))
 refine ai (ag (ae (aj (v := (.int .i64 (1))) rfl) (ah (aa (aI (aG (aB (bI (v := (.int .i64 (1))) Tryz.results108 rfl ?_))))))))
 obtain rfl := Option.some.inj hs
 exact ⟨h.grown, rfl⟩
 refine ai (ag (ae (bM rfl rfl) (ae (aj (v := (.bool (decide ((a.kind : Int) = 6)))) rfl) (ah (aa (aJ hs rfl (fun c4 hs => ?_) (fun c4 hs => ?_)))))))
 refine ai (ag (ae (ak (v := vb) rfl) (ae (au lJ rfl) (ae (aF h 2 rfl aV rfl rfl) ?_))))
 obtain ⟨x5, e6, hs⟩ := aM hs
 obtain ⟨b8, o9, cs10, h, r11, i7⟩ := h.wZ 1 3 rfl gK rfl (aX e6).1 (aX e6).2
 obtain ⟨u12, rfl, g13⟩ := p8 r11
 replace h := h.bG 4 g13.up
 refine ae (i7 _ _ _ _ _ _ _ _ _ rfl rfl) (ae (au r9 rfl) (ae (ed (k := 0) h 3 rfl aV rfl rfl) (ae (aj (v := (.int .i64 (x5.params))) rfl) (ah (aa (aI (aG (aB (bI (v := (.int .i64 (x5.params))) Tryz.results108 rfl ?_)))))))))
 obtain rfl := Option.some.inj hs
 exact ⟨h.grown, rfl⟩
 refine aD (az (aa (ai (ag (ae (aj (v := (.int .i64 (0))) rfl) (ah (aa (aI (bI (v := (.int .i64 (0))) Tryz.results108 rfl ?_)))))))))
 obtain rfl := Option.some.inj hs
 exact ⟨h.grown, rfl⟩
def qz (a : List Int) (s : Int × Int) (OB : Int × Int → Option Int) : Option Int :=
  match s with | (BJ, lF) => bif decide ((lF : Int) < (a.length : Int)) then (idx a lF).bind fun x25 => gG (jb (lF + 1)) (OB ((max BJ x25), (lF + 1))) else some BJ
def slices_Max_int (N : Nat) (a : List Int) : Option Int :=
  bif decide (((a.length : Int) : Int) < 1) then none else (idx a 0).bind fun x2 => again (qz a) N (x2, 1)
theorem BZ (N : Nat) (w0 : World) (M : BS) (hM : ∀ b, M b → b < w0.heap.size) (va : Value) (a : List Int) (ha : eZ cZ w0 BE M va a) (r : Int) (hs : slices_Max_int N a = some r) :
    Calls Tryz.prog 164 #[va] w0 (fun e w' => Grow w0 w' ∧ e = .returned (.int .i64 r)) := by
 refine aK (args := [va]) Tryz.func164 rfl Tryz.ntmps164 (Nat.le_of_ble_eq_true rfl) ?_
 have h := SH.init hM
 replace h := h.dU 1 ha aW
 have tC := ha.bL
 refine ai (ag (ae (aj (v := (.int .i64 (0))) rfl) (ah (aa (ai (ai (ag (ae (ak (v := va) rfl) (ae (bF bS rfl (h.fV 1 rfl)) (ae (dA rfl rfl) (ah (aa (aJ hs rfl (fun c1 hs => ?_) (fun c1 hs => ?_))))))))))))))
 cases hs
 refine aD (aa (ai (ag (ae (ak (v := va) rfl) ?_))))
 obtain ⟨x2, e3, hs⟩ := aM hs
 obtain ⟨b5, o6, cs7, h, r8, i4⟩ := h.wZ 1 2 rfl bS rfl (aX e3).1 (aX e3).2
 obtain rfl := r8
 refine ae (i4 _ _ _ _ _ _ _ _ _ rfl rfl) (ae (ed (k := 0) h 2 rfl aV rfl rfl) (ae (aj (v := (.int .i64 (x2))) rfl) (ah (aa (ai (ai (ag (ae (aj (v := (.int .i64 (1))) rfl) (ah (aa (aL (fq (σ := Nat × Int × Int) (inl [3, 4, 12, 13, 14, 15, 16, 17, 18, 19, 20, 21, 22, 23]) (fun ⟨m20, BJ, lF⟩ => [(3, (.int .i64 (BJ))), (4, (.int .i64 (lF)))]) (fun ⟨m20, BJ, lF⟩ w => SH w0 M BE w (hset [(1, .sr cZ va a)]) ∧ again (qz a) m20 (BJ, lF) = some r) (fun ⟨m20, BJ, lF⟩ => m20) ⟨N, x2, 1⟩ ⟨rfl, rfl, trivial⟩ ?_ ?_))))))))))))
 exact ⟨h.cn _, hs⟩
 rintro ⟨m20, BJ, lF⟩ w dm ⟨h, hs⟩
 obtain ⟨VJ, Yq, Yr⟩ := nk hs
 subst Yq
 replace hs := Yr
 generalize OC : again (qz a) VJ = OB at hs
 refine ai (ai (ag (ae (ak (v := (.int .i64 (lF))) rfl) (ae (ak (v := va) rfl) (ae (bF bS rfl (h.fV 1 rfl)) (ae (dA rfl rfl) (ah (aa (aJ hs rfl (fun c24 hs => ?_) (fun c24 hs => ?_))))))))))
 refine aD (aa (ai (aL (ag (ae (ak (v := (.int .i64 (BJ))) rfl) (ae (ak (v := va) rfl) (ae (ak (v := (.int .i64 (lF))) rfl) ?_)))))))
 obtain ⟨x25, e26, hs⟩ := aM hs
 obtain ⟨b28, o29, cs30, h, r31, i27⟩ := h.wZ 1 3 rfl bS rfl (aX e26).1 (aX e26).2
 obtain rfl := r31
 refine ae (i27 _ _ _ _ _ _ _ _ _ rfl rfl) (ae (ed (k := 0) h 3 rfl aV rfl rfl) (ae (RU rfl rfl) (ae (aj (v := (.int .i64 ((max BJ x25)))) rfl) (ah (az (aa (ag (ae (ak (v := (.int .i64 (lF))) rfl) ?_))))))))
 obtain ⟨a32, hs⟩ := aZ hs
 refine ae (bY rfl rfl a32) (ae (aj (v := (.int .i64 ((lF + 1)))) rfl) (ah (ay ?_)))
 subst OC
 exact iQ ⟨VJ, (max BJ x25), (lF + 1)⟩ ⟨h.cn _, hs⟩
 refine bT (aH (aH (aT (aa (ai (ag (ae (ak (v := (.int .i64 (BJ))) rfl) (ae (aj (v := (.int .i64 (BJ))) rfl) (ah (aa (aI (bI (v := (.int .i64 (BJ))) Tryz.results164 rfl ?_))))))))))))
 obtain rfl := Option.some.inj hs
 exact ⟨h.grown, rfl⟩
def jH (x29 : Tok) (b : List dQ) (Bd : List Int → Option Int) (x66 : List Int) : Option Int :=
  (oD x29 b).bind fun Be => gG (Room 8 x66 [Be]) (Bd (x66 ++ [Be]))
def jI (zl : List Int) (Mx : List Int → Option Int) (i28 : Int) (x29 : Tok) (b : List dQ) (Bd : List Int → Option Int) (U6 : Bool) : Option Int :=
  bif U6 then gG (jb ((zl.length : Int) - 1)) ((sub? zl 0 ((zl.length : Int) - 1)).bind fun x60 => Mx (zl.take (((zl.length : Int) - 1)).toNat)) else bif (decide ((0 : Int) < i28) && decide (((zl.length : Int) : Int) = 0)) then some 4 else bif decide ((0 : Int) < i28) then gG (jb ((zl.length : Int) - 1)) ((idx zl ((zl.length : Int) - 1)).bind fun VK => gG (jb (VK - 1)) (jH x29 b Bd (zl.set (((zl.length : Int) - 1)).toNat (VK - 1)))) else jH x29 b Bd zl
def jJ (i28 : Int) (x29 : Tok) (b : List dQ) (Bd : List Int → Option Int) (zl : List Int) (Mx : List Int → Option Int) : Option Int :=
  bif decide ((0 : Int) < (zl.length : Int)) then gG (jb ((zl.length : Int) - 1)) ((idx zl ((zl.length : Int) - 1)).bind fun x89 => jI zl Mx i28 x29 b Bd (decide ((x89 : Int) = 0))) else jI zl Mx i28 x29 b Bd false
def jK (Ca : Bool) : Option Int :=
  bif Ca then some 4 else some 0
def jL (N : Nat) (b : List dQ) (c : Int) (i28 : Int) (x29 : Tok) (MB : List Int) (Bd : List Int → Option Int) : Option Int :=
  bif decide (((dK x29 b c) : Int) ≠ 0) then some (dK x29 b c) else again (jJ i28 x29 b Bd) N MB
def jM (N : Nat) (a : List Tok) (MB : List Int) : Option Int :=
  bif decide (((a.length : Int) : Int) = 0) then jK true else gG (Room 8 [0] MB) ((slices_Max_int N ([0] ++ MB)).bind fun Q8 => jK (decide ((0 : Int) < Q8)))
def jN (x4 : dQ) (s : Unit) (De : Unit → Option Int) : Option Int :=
  bif (!(aR x4.params 0 3)) then some 3 else De ()
def jO (N : Nat) (b : List dQ) (c : Int) (a : List Tok) (s : Unit) : Option Int :=
  eX (jL N b c) (jM N a) 0 a []
def ny (N : Nat) (a : List Tok) (b : List dQ) (c : Int) : Option Int :=
  bif decide ((24 : Int) < (a.length : Int)) then some 2 else each jN (jO N b c a) b ()
theorem qa (N : Nat) (w0 : World) (M : BS) (hM : ∀ b, M b → b < w0.heap.size) (va : Value) (a : List Tok) (ha : eZ jo w0 BE M va a) (vb : Value) (b : List dQ) (hb : eZ gQ w0 BE M vb b) (c : Int) (r : Int) (hs : ny N a b c = some r) :
    Calls Tryz.prog 146 #[va, vb, (.int .i64 (c))] w0 (fun e w' => Grow w0 w' ∧ e = .returned (.int .i64 r)) := by
 refine aK (args := [va, vb, (.int .i64 (c))]) Tryz.func146 rfl Tryz.ntmps146 (Nat.le_of_ble_eq_true rfl) ?_
 have h := SH.init hM
 replace h := h.dU 1 ha aW
 replace h := h.dU 2 hb (bD aW)
 have tC := ha.bL
 have Fe := hb.bL
 refine ai (ag (ae (aj (v := (.int .i64 (0))) rfl) (ah (aa (ai (ai (ag (ae (ak (v := va) rfl) (ae (bF jd rfl (h.fV 1 rfl)) (ae (iR rfl rfl) (ah (aa (aJ hs rfl (fun c1 hs => ?_) (fun c1 hs => ?_))))))))))))))
 refine ai (ag (ae (aj (v := (.int .i64 (2))) rfl) (ah (aa (aI (aB (bI (v := (.int .i64 (2))) Tryz.results146 rfl ?_)))))))
 obtain rfl := Option.some.inj hs
 exact ⟨h.grown, rfl⟩
 refine aD (aa (ai (ai (ag (ae (ak (v := vb) rfl) (ae (bF gK rfl (h.fV 2 rfl)) (ae (ak (v := (.int .i64 (0))) rfl) (ah (aa (aL (fq (σ := Nat × Int) (inl [6, 8, 18, 19, 20, 21, 22, 23, 24, 25, 26]) (fun ⟨k2, i3⟩ => [(18, (.int .i64 (i3)))]) (fun ⟨k2, i3⟩ w => SH w0 M BE w (hset [(1, .sr jo va a), (2, .sr gQ vb b)]) ∧ i3 = (k2 : Int) ∧ each jN (jO N b c a) (b.drop k2) () = some r) (fun ⟨k2, i3⟩ => b.length - k2) ⟨0, 0⟩ ⟨rfl, trivial⟩ ?_ ?_)))))))))))
 exact ⟨h.cn _, rfl, hs⟩
 rintro ⟨k2, i3⟩ w dm ⟨h, hik, hs⟩
 refine ai (ag ?_)
 refine ae (dA rfl rfl) (ah (aa ?_))
 refine ai (gH rfl (fun e7 => ?_) (fun e7 => ?_))
 refine aD (aa ?_)
 obtain ⟨x4, TP, TQ⟩ := fJ (hik ▸ e7)
 rw [TQ, df] at hs
 generalize D7 : each jN (jO N b c a) (b.drop (k2 + 1)) = De at hs
 have OD := fO ((h.fV 2 rfl)).bL hik e7
 refine ai (aL (ai (ag ?_)))
 obtain ⟨b10, Yt, TR, h, TS, i9⟩ := h.wZ 2 3 rfl gK rfl (gZ hik) (fM hik TP)
 obtain ⟨FU, rfl, g15⟩ := p8 TS
 replace h := h.bG 4 g15.up
 refine ae (i9 _ _ _ _ _ _ _ _ _ rfl rfl) (ae (iF (k := 0) (vs := [(.int .i64 (x4.params)), (.int .i64 (x4.locals)), FU]) h 3 rfl kF rfl rfl rfl (Nat.le_of_ble_eq_true rfl)) (bP h 5 kF fun w b16 h => dV (vs := [(.int .i64 (x4.params)), (.int .i64 (x4.locals)), FU]) h 5 [(.int .i64 (x4.params)), (.int .i64 (x4.locals)), FU] rfl kF rfl rfl rfl rfl rfl (ax rfl (ax rfl (ax (h.fu 4 rfl).one bA))) fun w h => ah (aa (ai (ag (ae (au r9 rfl) (ae (aF h 5 rfl aV rfl rfl) (aO vH rfl rfl (fE _ _ h.lt x4.params 0 3 _ rfl) ?_))))))))
 rintro _ w ⟨k17, rfl⟩
 refine ⟨_, rfl, ?_⟩
 replace h := h.grow k17
 refine ae (fZ rfl) (ah (aa (aJ hs rfl (fun c18 hs => ?_) (fun c18 hs => ?_))))
 refine ai (ag (ae (aj (v := (.int .i64 (3))) rfl) (ah (aa (aI (aG (aB (aB (aG (aB (bI (v := (.int .i64 (3))) Tryz.results146 rfl ?_)))))))))))
 obtain rfl := Option.some.inj hs
 exact ⟨h.grown, rfl⟩
 refine aD (az (aa (ag (ae (bY rfl rfl OD) (ae (ak (v := (.int .i64 ((i3 + 1)))) rfl) (ah (ay ?_)))))))
 subst D7
 exact iQ ⟨k2 + 1, i3 + 1⟩ ⟨h.cn _, by omega, hs⟩ (by have := of_decide_eq_true e7; dsimp only; omega)
 rw [fK (hik ▸ e7), fB] at hs
 refine bT (aH (aH (aT (aa (ai (ag (ae (aj (v := (.slice none 0 0)) rfl) (ah (aa (ai (ai (ag (ae (ak (v := va) rfl) (ae (bF jd rfl (h.fV 1 rfl)) (ae (ak (v := (.int .i64 (0))) rfl) (ah (aa (aL ?_))))))))))))))))))
 replace h := h.vG (R := cZ) (E := 3) 9
 refine fq (σ := Nat × Int × Value × List Int) (inl [6, 9, 10, 11, 12, 29, 30, 31, 32, 33, 34, 35, 36, 37, 38, 39, 40, 41, 42, 43, 44, 45, 46, 47, 48, 49, 50, 51, 52, 53, 54, 55, 56, 57, 58, 59, 60, 61, 62, 63, 64, 65, 66, 67, 68, 69, 70, 71, 72, 73, 74, 75, 76, 77, 78, 79, 80, 81]) (fun ⟨k27, i28, v25, MB⟩ => [(9, v25), (29, (.int .i64 (i28)))]) (fun ⟨k27, i28, v25, MB⟩ w => SH w0 M BE w (hset [(1, .sr jo va a), (2, .sr gQ vb b), (9, .own cZ 3 v25 MB)]) ∧ i28 = (k27 : Int) ∧ eX (jL N b c) (jM N a) i28 (a.drop k27) MB = some r) (fun ⟨k27, i28, v25, MB⟩ => a.length - k27) ⟨0, 0, (.slice none 0 0), []⟩ ⟨rfl, rfl, trivial⟩ ?_ ?_
 exact ⟨h.cn _, rfl, hs⟩
 rintro ⟨k27, i28, v25, MB⟩ w dm ⟨h, hik, hs⟩
 refine ai (ag ?_)
 refine ae (dA rfl rfl) (ah (aa ?_))
 refine ai (gH rfl (fun e32 => ?_) (fun e32 => ?_))
 refine aD (aa ?_)
 obtain ⟨x29, Yu, Yv⟩ := fJ (hik ▸ e32)
 rw [Yv, jc] at hs
 generalize VL : eX (jL N b c) (jM N a) (i28 + 1) (a.drop (k27 + 1)) = Bd at hs
 have Yw := fO ((h.fV 1 rfl)).bL hik e32
 refine ai (aL (ai (ag (ae (ak (v := (.int .i64 (i28))) rfl) ?_))))
 obtain ⟨b35, o36, Yx, h, Yy, i34⟩ := h.wZ 1 10 rfl jd rfl (gZ hik) (fM hik Yu)
 obtain rfl := Yy
 refine ae (i34 _ _ _ _ _ _ _ _ _ rfl rfl) (ae (iF (k := 0) (vs := [(.int .i64 (x29.kind)), (.int .i64 (x29.n))]) h 10 rfl iZ rfl rfl rfl (Nat.le_of_ble_eq_true rfl)) (bP h 11 iZ fun w XP h => ae (aj (v := (.int .i64 (i28))) rfl) (dV (vs := [(.int .i64 (x29.kind)), (.int .i64 (x29.n))]) h 11 [(.int .i64 (x29.kind)), (.int .i64 (x29.n))] rfl iZ rfl rfl rfl rfl rfl (ax rfl (ax rfl bA)) fun w h => ah (aa (ai (ai (ag (ae (fA (vs := [(.int .i64 (x29.kind)), (.int .i64 (x29.n))]) h 11 rfl iZ rfl rfl rfl) (ae (ak (v := vb) rfl) (ae (ak (v := (.int .i64 (c))) rfl) (aO Lx rfl rfl (qy _ _ h.lt x29 vb b (h.fV 2 rfl) c _ rfl) ?_)))))))))))
 rintro _ w ⟨k40, rfl⟩
 refine ⟨_, rfl, ?_⟩
 replace h := h.grow k40
 refine ae (aj (v := (.int .i64 ((dK x29 b c)))) rfl) (ah (aa (ai (ag (ae (ak (v := (.int .i64 ((dK x29 b c)))) rfl) (ae (iH rfl rfl) (ah (aa (aJ hs rfl (fun TT hs => ?_) (fun TT hs => ?_))))))))))
 refine ai (ag (ae (ak (v := (.int .i64 ((dK x29 b c)))) rfl) (ae (aj (v := (.int .i64 ((dK x29 b c)))) rfl) (ah (aa (aI (aB (aG (aB (aB (aG (aB (bI (v := (.int .i64 ((dK x29 b c)))) Tryz.results146 rfl ?_)))))))))))))
 obtain rfl := Option.some.inj hs
 exact ⟨h.grown, rfl⟩
 refine aD (aa (ai (aL (fq (σ := Nat × Value × List Int) (inl [9, 41, 42, 43, 44, 45, 46, 47, 48, 49, 50, 51, 52, 53, 54, 55, 56, 57]) (fun ⟨VM, v48, zl⟩ => [(9, v48)]) (fun ⟨VM, v48, zl⟩ w => SH w0 M BE w (hset [(1, .sr jo va a), (2, .sr gQ vb b), (9, .own cZ 3 v48 zl), (11, .blk XP [(.int .i64 (x29.kind)), (.int .i64 (x29.n))])]) ∧ again (jJ i28 x29 b Bd) VM zl = some r) (fun ⟨VM, v48, zl⟩ => VM) ⟨N, v25, MB⟩ ⟨rfl, trivial⟩ ?_ ?_))))
 exact ⟨h.cn _, hs⟩
 rintro ⟨VM, v48, zl⟩ w dm ⟨h, hs⟩
 obtain ⟨VN, Yz, YA⟩ := nk hs
 subst Yz
 replace hs := YA
 generalize VO : again (jJ i28 x29 b Bd) VN = Mx at hs
 refine ai (bU (σ := Bool) (inl [41, 42, 43, 44, 45, 46, 47, 48, 49, 50, 51, 52]) (fun U6 => [(52, (.bool (U6)))]) (fun U6 w => SH w0 M BE w (hset [(1, .sr jo va a), (2, .sr gQ vb b), (9, .own cZ 3 v48 zl), (11, .blk XP [(.int .i64 (x29.kind)), (.int .i64 (x29.n))])]) ∧ jI zl Mx i28 x29 b Bd U6 = some r) ?_ ?_)
 rintro U6 w dm ⟨h, hs⟩
 refine aJ hs rfl (fun D8 hs => ?_) (fun D8 hs => ?_)
 refine aD (aa (aL (ag (ae (ak (v := v48) rfl) (ae (ak (v := v48) rfl) (ae (bF bS rfl (h.dJ 9 rfl)) ?_))))))
 obtain ⟨a59, hs⟩ := aZ hs
 refine ae (rT rfl rfl a59) ?_
 obtain ⟨x60, e61, hs⟩ := aM hs
 obtain ⟨e64, e64a, YB, YC⟩ := Io e61
 obtain ⟨U7, h, i63⟩ := h.X7 9 rfl bS rfl YB YC
 refine ae (i63 _ _ _ _ _ _ _ _ _ _ rfl (.inl ⟨rfl, rfl⟩) (.inr (congrArg some rfl))) (ae (aj (v := U7) rfl) (ah (az (ay ?_))))
 subst VO
 exact iQ ⟨VN, U7, (zl.take (((zl.length : Int) - 1)).toNat)⟩ ⟨h.cn _, hs⟩
 refine bT (aH (aH (aT (aa (ai (ai (ag (ae (ak (v := (.int .i64 (i28))) rfl) (ae (iR rfl rfl) (ae (ak (v := (.bool (decide ((0 : Int) < i28)))) rfl) (aC rfl rfl (fun q => ak (v := v48) rfl) (aC rfl rfl (fun q => bF bS (cO q) (h.dJ 9 rfl)) (aC rfl rfl (fun q => bM (cO q) rfl) (ae (gJ rfl rfl mR) (ah (aa (aJ hs rfl (fun VP hs => ?_) (fun VP hs => ?_))))))))))))))))))
 refine ai (ag (ae (aj (v := (.int .i64 (4))) rfl) (ah (aa (aI (aB (aG (aB (aB (aG (aB (bI (v := (.int .i64 (4))) Tryz.results146 rfl ?_))))))))))))
 obtain rfl := Option.some.inj hs
 exact ⟨h.grown, rfl⟩
 refine aD (aa (bU (σ := List Int) (inl [65, 66, 67, 68, 69, 70, 71, 72, 73, 74]) (fun x66 => []) (fun x66 w => SH w0 M BE w (hset [(1, .sr jo va a), (2, .sr gQ vb b), (9, .own cZ 3 v48 x66), (11, .blk XP [(.int .i64 (x29.kind)), (.int .i64 (x29.n))])]) ∧ jH x29 b Bd x66 = some r) ?_ ?_))
 rintro x66 w dm ⟨h, hs⟩
 refine ag (ae (ak (v := v48) rfl) (ae (fA (vs := [(.int .i64 (x29.kind)), (.int .i64 (x29.n))]) h 11 rfl iZ rfl rfl rfl) (ae (ak (v := vb) rfl) ?_)))
 obtain ⟨Be, Q9, hs⟩ := aM hs
 refine aO GX rfl rfl (pO _ _ h.lt x29 vb b (h.fV 2 rfl) _ Q9) ?_
 rintro _ w ⟨k69, rfl⟩
 refine ⟨_, rfl, ?_⟩
 replace h := h.grow k69
 refine oV (R := cZ) (vs := [(.int .i64 (Be))]) (xs := [Be]) h 13 fP rfl rfl rfl ⟨rfl, trivial⟩ rfl fun w u70 h => ?_
 obtain ⟨a71, hs⟩ := aZ hs
 refine jg (R := cZ) (m := [Be]) h 9 rfl (h.dJ 13 rfl) fP rfl rfl rfl a71.1 a71.2 fun w u72 h => ae (aj (v := u72) rfl) (ah (az (aa (ag (ae (bY rfl rfl Yw) (ae (ak (v := (.int .i64 ((i28 + 1)))) rfl) (ah (ay ?_))))))))
 subst VL
 exact iQ ⟨k27 + 1, i28 + 1, u72, (x66 ++ [Be])⟩ ⟨h.cn _, by omega, hs⟩ (by have := of_decide_eq_true e32; dsimp only; omega)
 refine ai (ag (ae (ak (v := (.int .i64 (i28))) rfl) (ae (iR rfl rfl) (ah (aa (aJ hs rfl (fun YD hs => ?_) (fun YD hs => ?_)))))))
 refine ag (ae (ak (v := v48) rfl) (ae (ak (v := v48) rfl) (ae (bF bS rfl (h.dJ 9 rfl)) ?_)))
 obtain ⟨a74, hs⟩ := aZ hs
 refine ae (rT rfl rfl a74) ?_
 obtain ⟨VK, U8, hs⟩ := aM hs
 obtain ⟨b78, q79, i77⟩ := h.Ir 9 rfl bS rfl (aX U8).1 (aX U8).2
 refine ae (i77 _ _ _ _ _ _ _ _ _ rfl rfl) ?_
 obtain ⟨cs80, m81, r82⟩ := h.Ns 9 rfl q79 (aX U8).2
 obtain rfl := r82
 refine ae (CG (k := 0) m81 aV rfl rfl) ?_
 obtain ⟨a83, hs⟩ := aZ hs
 refine ae (rT rfl rfl a83) ?_
 obtain ⟨Ff, q86, i84⟩ := h.Ir 9 rfl bS rfl (aX U8).1 (aX U8).2
 refine ae (i84 _ _ _ _ _ _ _ _ _ rfl rfl) (NK (off := 0) (a' := (VK - 1)) h 9 rfl q86 rfl (aX U8).2 aV rfl rfl rfl rfl (fun cs hq => set1 rfl hq rfl rfl) fun w h => ah (ay ?_))
 exact bR (zl.set (((zl.length : Int) - 1)).toNat (VK - 1)) ⟨h.cn _, hs⟩
 refine aD (ay ?_)
 exact bR zl ⟨h.cn _, hs⟩
 refine ag (ae (ak (v := v48) rfl) (ae (bF bS rfl (h.dJ 9 rfl)) (ae (iR rfl rfl) (ae (ak (v := (.bool (decide ((0 : Int) < (zl.length : Int))))) rfl) (ma (b := decide ((0 : Int) < (zl.length : Int))) hs (fun c87 hs => ?_) (fun c87 hs => ?_))))))
 refine dG rfl (congrArg Value.bool c87) (ae (ak (v := v48) rfl) (dG rfl (congrArg Value.bool c87) (ae (ak (v := v48) rfl) (dG rfl (congrArg Value.bool c87) (ae (bF bS rfl (h.dJ 9 rfl)) (dG rfl (congrArg Value.bool c87) ?_))))))
 obtain ⟨a88, hs⟩ := aZ hs
 refine ae (rT rfl rfl a88) (dG rfl (congrArg Value.bool c87) ?_)
 obtain ⟨x89, VQ, hs⟩ := aM hs
 obtain ⟨b92, q93, i91⟩ := h.Ir 9 rfl bS rfl (aX VQ).1 (aX VQ).2
 refine ae (i91 _ _ _ _ _ _ _ _ _ rfl rfl) (dG rfl (congrArg Value.bool c87) ?_)
 obtain ⟨cs94, m95, r96⟩ := h.Ns 9 rfl q93 (aX VQ).2
 obtain rfl := r96
 refine ae (CG (k := 0) m95 aV rfl rfl) (dG rfl (congrArg Value.bool c87) (ae (bM rfl rfl) (ae (fw (b := true) (v := (.bool (decide ((x89 : Int) = 0)))) (congrArg Value.bool c87) rfl) (ah (ay ?_)))))
 exact bR (decide ((x89 : Int) = 0)) ⟨h.cn _, hs⟩
 refine bH (b' := false) rfl (congrArg Value.bool c87) rfl (bH (b' := false) rfl (congrArg Value.bool c87) rfl (bH (b' := false) rfl (congrArg Value.bool c87) rfl (bH (b' := false) rfl (congrArg Value.bool c87) rfl (bH (b' := false) rfl (congrArg Value.bool c87) rfl (bH (b' := false) rfl (congrArg Value.bool c87) rfl (bH (b' := false) rfl (congrArg Value.bool c87) rfl (ae (fw (b := false) (v := (.bool (false))) (congrArg Value.bool c87) rfl) (ah (ay ?_)))))))))
 exact bR false ⟨h.cn _, hs⟩
 rw [fK (hik ▸ e32), ow] at hs
 refine bT (aH (aH (aT (aa (ai (bU (σ := Bool) (inl [82, 83, 84, 85, 86, 87, 88, 89, 90, 91]) (fun Ca => [(91, (.bool (Ca)))]) (fun Ca w => SH w0 M BE w (hset []) ∧ jK Ca = some r) ?_ ?_))))))
 rintro Ca w dm ⟨h, hs⟩
 refine aJ hs rfl (fun c98 hs => ?_) (fun c98 hs => ?_)
 refine ai (ag (ae (aj (v := (.int .i64 (4))) rfl) (ah (aa (aI (aB (bI (v := (.int .i64 (4))) Tryz.results146 rfl ?_)))))))
 obtain rfl := Option.some.inj hs
 exact ⟨h.grown, rfl⟩
 refine aD (aa (ai (ag (ae (aj (v := (.int .i64 (0))) rfl) (ah (aa (aI (bI (v := (.int .i64 (0))) Tryz.results146 rfl ?_))))))))
 obtain rfl := Option.some.inj hs
 exact ⟨h.grown, rfl⟩
 refine ag (ae (ak (v := va) rfl) (ae (bF jd rfl (h.fV 1 rfl)) (ae (bM rfl rfl) (ae (ak (v := (.bool (decide (((a.length : Int) : Int) = 0)))) rfl) (ma (b := decide (((a.length : Int) : Int) = 0)) hs (fun MC hs => ?_) (fun MC hs => ?_))))))
 refine bH (b' := true) rfl (congrArg Value.bool MC) rfl (bH (b' := true) rfl (congrArg Value.bool MC) rfl (bH (b' := true) rfl (congrArg Value.bool MC) rfl (bH (b' := true) rfl (congrArg Value.bool MC) rfl (bH (b' := true) rfl (congrArg Value.bool MC) rfl (ae (fw (b := true) (v := (.bool (true))) (congrArg Value.bool MC) rfl) (ah (ay ?_)))))))
 exact bR true ⟨h.cn _, hs⟩
 refine dG rfl (congrArg Value.bool MC) (oV (R := cZ) (vs := [(.int .i64 (0))]) (xs := [0]) h 14 fP rfl rfl rfl ⟨rfl, trivial⟩ rfl fun w TU h => dG rfl (congrArg Value.bool MC) (ae (ak (v := v25) rfl) (dG rfl (congrArg Value.bool MC) ?_)))
 obtain ⟨Ra, hs⟩ := aZ hs
 refine jg (R := cZ) (m := MB) h 14 rfl (h.dJ 9 rfl) fP rfl rfl rfl Ra.1 Ra.2 fun w YE h => dG rfl (congrArg Value.bool MC) ?_
 obtain ⟨Q8, Rb, hs⟩ := aM hs
 refine aO Q6 rfl rfl (BZ N _ _ h.lt YE ([0] ++ MB) (h.dJ 14 rfl) _ Rb) ?_
 rintro _ w ⟨YF, rfl⟩
 refine ⟨_, rfl, ?_⟩
 replace h := h.grow YF
 refine dG rfl (congrArg Value.bool MC) (ae (iR rfl rfl) (ae (fw (b := false) (v := (.bool (decide ((0 : Int) < Q8)))) (congrArg Value.bool MC) rfl) (ah (ay ?_))))
 exact bR (decide ((0 : Int) < Q8)) ⟨h.cn _, hs⟩
def aS (iY : Str) : Bool :=
  (hasB iY 78)
theorem sj (w0 : World) (M : BS) (hM : ∀ b, M b → b < w0.heap.size) (iY : Str) (q0 : Nat) (hq0 : ∃ E, w0.heap[q0]? = some (.cells #[(aP iY)] E (0, 0))) (r : Bool) (hs : aS iY = r) :
    Calls Tryz.prog 144 #[(aP [78]), (.pointer (some ⟨q0, 0, none⟩))] w0 (fun e w' => Grow w0 w' ∧ e = .returned (.bool r)) := by
 refine aK (args := [(aP [78]), (.pointer (some ⟨q0, 0, none⟩))]) Tryz.func144 rfl Tryz.ntmps144 (Nat.le_of_ble_eq_true rfl) ?_
 have h := SH.init hM
 replace h := h.FI 1 (cs := [(aP iY)]) hq0 aW
 refine ai (ag (ae (aj (v := (.bool (false))) rfl) (ah (aa (ai (ag (ae (ed (k := 0) h 1 rfl wu rfl rfl) (ae (ak (v := (aP [78])) rfl) (aO zk rfl rfl (iK _ _ h.lt iY 78 _ rfl) ?_)))))))))
 rintro _ w ⟨k1, rfl⟩
 refine ⟨_, rfl, ?_⟩
 replace h := h.grow k1
 refine ae (aj (v := (.bool ((hasB iY 78)))) rfl) (ah (aa (aI (bI (v := (.bool ((hasB iY 78)))) Tryz.results144 rfl ?_))))
 obtain rfl := hs
 exact ⟨h.grown, rfl⟩
def bg (iY : Str) : Bool :=
  (hasB iY 69)
theorem su (w0 : World) (M : BS) (hM : ∀ b, M b → b < w0.heap.size) (iY : Str) (q0 : Nat) (hq0 : ∃ E, w0.heap[q0]? = some (.cells #[(aP iY)] E (0, 0))) (r : Bool) (hs : bg iY = r) :
    Calls Tryz.prog 144 #[(aP [69]), (.pointer (some ⟨q0, 0, none⟩))] w0 (fun e w' => Grow w0 w' ∧ e = .returned (.bool r)) := by
 refine aK (args := [(aP [69]), (.pointer (some ⟨q0, 0, none⟩))]) Tryz.func144 rfl Tryz.ntmps144 (Nat.le_of_ble_eq_true rfl) ?_
 have h := SH.init hM
 replace h := h.FI 1 (cs := [(aP iY)]) hq0 aW
 refine ai (ag (ae (aj (v := (.bool (false))) rfl) (ah (aa (ai (ag (ae (ed (k := 0) h 1 rfl wu rfl rfl) (ae (ak (v := (aP [69])) rfl) (aO zk rfl rfl (iK _ _ h.lt iY 69 _ rfl) ?_)))))))))
 rintro _ w ⟨k1, rfl⟩
 refine ⟨_, rfl, ?_⟩
 replace h := h.grow k1
 refine ae (aj (v := (.bool ((hasB iY 69)))) rfl) (ah (aa (aI (bI (v := (.bool ((hasB iY 69)))) Tryz.results144 rfl ?_))))
 obtain rfl := hs
 exact ⟨h.grown, rfl⟩
def bN (iY : Str) : Bool :=
  (hasB iY 70)
theorem l8 (w0 : World) (M : BS) (hM : ∀ b, M b → b < w0.heap.size) (iY : Str) (q0 : Nat) (hq0 : ∃ E, w0.heap[q0]? = some (.cells #[(aP iY)] E (0, 0))) (r : Bool) (hs : bN iY = r) :
    Calls Tryz.prog 144 #[(aP [70]), (.pointer (some ⟨q0, 0, none⟩))] w0 (fun e w' => Grow w0 w' ∧ e = .returned (.bool r)) := by
 refine aK (args := [(aP [70]), (.pointer (some ⟨q0, 0, none⟩))]) Tryz.func144 rfl Tryz.ntmps144 (Nat.le_of_ble_eq_true rfl) ?_
 have h := SH.init hM
 replace h := h.FI 1 (cs := [(aP iY)]) hq0 aW
 refine ai (ag (ae (aj (v := (.bool (false))) rfl) (ah (aa (ai (ag (ae (ed (k := 0) h 1 rfl wu rfl rfl) (ae (ak (v := (aP [70])) rfl) (aO zk rfl rfl (iK _ _ h.lt iY 70 _ rfl) ?_)))))))))
 rintro _ w ⟨k1, rfl⟩
 refine ⟨_, rfl, ?_⟩
 replace h := h.grow k1
 refine ae (aj (v := (.bool ((hasB iY 70)))) rfl) (ah (aa (aI (bI (v := (.bool ((hasB iY 70)))) Tryz.results144 rfl ?_))))
 obtain rfl := hs
 exact ⟨h.grown, rfl⟩
def dY (iY : Str) : Bool :=
  (hasB iY 65)
theorem sD (w0 : World) (M : BS) (hM : ∀ b, M b → b < w0.heap.size) (iY : Str) (q0 : Nat) (hq0 : ∃ E, w0.heap[q0]? = some (.cells #[(aP iY)] E (0, 0))) (r : Bool) (hs : dY iY = r) :
    Calls Tryz.prog 144 #[(aP [65]), (.pointer (some ⟨q0, 0, none⟩))] w0 (fun e w' => Grow w0 w' ∧ e = .returned (.bool r)) := by
 refine aK (args := [(aP [65]), (.pointer (some ⟨q0, 0, none⟩))]) Tryz.func144 rfl Tryz.ntmps144 (Nat.le_of_ble_eq_true rfl) ?_
 have h := SH.init hM
 replace h := h.FI 1 (cs := [(aP iY)]) hq0 aW
 refine ai (ag (ae (aj (v := (.bool (false))) rfl) (ah (aa (ai (ag (ae (ed (k := 0) h 1 rfl wu rfl rfl) (ae (ak (v := (aP [65])) rfl) (aO zk rfl rfl (iK _ _ h.lt iY 65 _ rfl) ?_)))))))))
 rintro _ w ⟨k1, rfl⟩
 refine ⟨_, rfl, ?_⟩
 replace h := h.grow k1
 refine ae (aj (v := (.bool ((hasB iY 65)))) rfl) (ah (aa (aI (bI (v := (.bool ((hasB iY 65)))) Tryz.results144 rfl ?_))))
 obtain rfl := hs
 exact ⟨h.grown, rfl⟩
def nJ (iY : Str) : Bool :=
  (hasB iY 66)
theorem sF (w0 : World) (M : BS) (hM : ∀ b, M b → b < w0.heap.size) (iY : Str) (q0 : Nat) (hq0 : ∃ E, w0.heap[q0]? = some (.cells #[(aP iY)] E (0, 0))) (r : Bool) (hs : nJ iY = r) :
    Calls Tryz.prog 144 #[(aP [66]), (.pointer (some ⟨q0, 0, none⟩))] w0 (fun e w' => Grow w0 w' ∧ e = .returned (.bool r)) := by
 refine aK (args := [(aP [66]), (.pointer (some ⟨q0, 0, none⟩))]) Tryz.func144 rfl Tryz.ntmps144 (Nat.le_of_ble_eq_true rfl) ?_
 have h := SH.init hM
 replace h := h.FI 1 (cs := [(aP iY)]) hq0 aW
 refine ai (ag (ae (aj (v := (.bool (false))) rfl) (ah (aa (ai (ag (ae (ed (k := 0) h 1 rfl wu rfl rfl) (ae (ak (v := (aP [66])) rfl) (aO zk rfl rfl (iK _ _ h.lt iY 66 _ rfl) ?_)))))))))
 rintro _ w ⟨k1, rfl⟩
 refine ⟨_, rfl, ?_⟩
 replace h := h.grow k1
 refine ae (aj (v := (.bool ((hasB iY 66)))) rfl) (ah (aa (aI (bI (v := (.bool ((hasB iY 66)))) Tryz.results144 rfl ?_))))
 obtain rfl := hs
 exact ⟨h.grown, rfl⟩
def jP (Fg : Unit → Option Int) (pQ : Int) : Option Int :=
  bif decide ((pQ : Int) ≠ 0) then some pQ else Fg ()
def jQ (F0 : List aU → List dQ → Int → Option Int) (x3 : aU) (b : List dQ) (c : Int) (Fg : Unit → Option Int) (wT : Int) : Option Int :=
  bif decide ((wT : Int) = 0) then (F0 x3.b b c).bind fun y39 => jP Fg y39 else jP Fg wT
def jR (F0 : List aU → List dQ → Int → Option Int) (x3 : aU) (a : List aU) (b : List dQ) (c : Int) (Fg : Unit → Option Int) (x34 : Int) : Option Int :=
  bif decide ((x34 : Int) = 0) then (F0 x3.a b c).bind fun xy => jQ F0 x3 b c Fg xy else jQ F0 x3 b c Fg x34
def jS (N : Nat) (F0 : List aU → List dQ → Int → Option Int) (x3 : aU) (b : List dQ) (c : Int) (a : List aU) (Fg : Unit → Option Int) (Aw : Int) : Option Int :=
  bif (decide ((Aw : Int) = 0) && (bN ((lk x3.kind ([(1, [78, 69]), (2, [78, 69, 70]), (3, [69]), (4, []), (5, [69]), (6, [69, 65, 66]), (7, [69, 65]), (8, [69])] : List (Int × Str))).getD []))) then (ny N x3.f b c).bind fun wU => jR F0 x3 a b c Fg wU else jR F0 x3 a b c Fg Aw
def jT (N : Nat) (F0 : List aU → List dQ → Int → Option Int) (a : List aU) (b : List dQ) (c : Int) (x3 : aU) (s : Unit) (Fg : Unit → Option Int) : Option Int :=
  bif ((((((!(lk x3.kind ([(1, [78, 69]), (2, [78, 69, 70]), (3, [69]), (4, []), (5, [69]), (6, [69, 65, 66]), (7, [69, 65]), (8, [69])] : List (Int × Str))).isSome) || (decide ((x3.n : Int) ≠ 0) && (!(aS ((lk x3.kind ([(1, [78, 69]), (2, [78, 69, 70]), (3, [69]), (4, []), (5, [69]), (6, [69, 65, 66]), (7, [69, 65]), (8, [69])] : List (Int × Str))).getD []))))) || (decide ((0 : Int) < (x3.e.length : Int)) && (!(bg ((lk x3.kind ([(1, [78, 69]), (2, [78, 69, 70]), (3, [69]), (4, []), (5, [69]), (6, [69, 65, 66]), (7, [69, 65]), (8, [69])] : List (Int × Str))).getD []))))) || (decide ((0 : Int) < (x3.f.length : Int)) && (!(bN ((lk x3.kind ([(1, [78, 69]), (2, [78, 69, 70]), (3, [69]), (4, []), (5, [69]), (6, [69, 65, 66]), (7, [69, 65]), (8, [69])] : List (Int × Str))).getD []))))) || (decide ((0 : Int) < (x3.a.length : Int)) && (!(dY ((lk x3.kind ([(1, [78, 69]), (2, [78, 69, 70]), (3, [69]), (4, []), (5, [69]), (6, [69, 65, 66]), (7, [69, 65]), (8, [69])] : List (Int × Str))).getD []))))) || (decide ((0 : Int) < (x3.b.length : Int)) && (!(nJ ((lk x3.kind ([(1, [78, 69]), (2, [78, 69, 70]), (3, [69]), (4, []), (5, [69]), (6, [69, 65, 66]), (7, [69, 65]), (8, [69])] : List (Int × Str))).getD []))))) then some 4 else bif ((decide ((x3.kind : Int) = 1) && (!(aN x3.n c))) || (decide ((x3.kind : Int) = 2) && (!(aR x3.n 0 3)))) then some 3 else bif (hasB ((lk x3.kind ([(1, [78, 69]), (2, [78, 69, 70]), (3, [69]), (4, []), (5, [69]), (6, [69, 65, 66]), (7, [69, 65]), (8, [69])] : List (Int × Str))).getD []) 69) then (ny N x3.e b c).bind fun IW => jS N F0 x3 b c a Fg IW else jS N F0 x3 b c a Fg 0
def jU (s : Unit) : Option Int :=
  some 0
def oZ (N : Nat) (F0 : List aU → List dQ → Int → Option Int) (a : List aU) (b : List dQ) (c : Int) : Option Int :=
  each (jT N F0 a b c) jU a ()
def ig : Nat → List aU → List dQ → Int → Option Int
  | 0 => fun _ _ _ => none
  | N + 1 => oZ N (ig N)
theorem vJ : ∀ (N : Nat) (w0 : World) (M : BS) (hM : ∀ b, M b → b < w0.heap.size) (va : Value) (a : List aU) (ha : eZ dM w0 BE M va a) (vb : Value) (b : List dQ) (hb : eZ gQ w0 BE M vb b) (c : Int) (r : Int) (hs : ig N a b c = some r),
    Calls Tryz.prog 129 #[va, vb, (.int .i64 (c))] w0 (fun e w' => Grow w0 w' ∧ e = .returned (.int .i64 r)) := by
 intro N
 induction N with
 | zero => intro w0 M hM va a ha vb b hb c r hs; cases hs
 | succ N ih =>
 intro w0 M hM va a ha vb b hb c r hs
 replace hs : oZ N (ig N) a b c = some r := hs
 generalize ig N = F0 at hs ih
 refine aK (args := [va, vb, (.int .i64 (c))]) Tryz.func129 rfl Tryz.ntmps129 (Nat.le_of_ble_eq_true rfl) ?_
 have h := SH.init hM
 replace h := h.dU 1 ha aW
 replace h := h.dU 2 hb (bD aW)
 have tC := ha.bL
 have Fe := hb.bL
 refine ai (ag (ae (aj (v := (.int .i64 (0))) rfl) (ah (aa (ai (ai (ag (ae (ak (v := va) rfl) (ae (bF jG rfl (h.fV 1 rfl)) (ae (ak (v := (.int .i64 (0))) rfl) (ah (aa (aL (fq (σ := Nat × Int) (inl [6, 8, 9, 10, 11, 12, 15, 16, 17, 18, 19, 20, 21, 22, 23, 24, 25, 26, 27, 28, 29, 30, 31, 32, 33, 34, 35, 36, 37, 38, 39, 40, 41, 42, 43, 44, 45, 46, 47, 48, 49, 50, 51, 52, 53, 54, 55, 56, 57, 58, 59, 60, 61, 62, 63, 64, 65, 66, 67, 68, 69, 70, 71, 72, 73, 74, 75, 76, 77, 78, 79, 80, 81, 82, 83, 84, 85, 86, 87, 88, 89, 90, 91, 92, 93, 94, 95, 96, 97, 98, 99, 100, 101, 102, 103, 104, 105, 106, 107, 108, 109, 110, 111, 112, 113, 114, 115, 116, 117, 118, 119, 120, 121, 122, 123, 124, 125, 126, 127, 128, 129, 130, 131, 132, 133, 134, 135, 136, 137, 138, 139, 140]) (fun ⟨k1, i2⟩ => [(15, (.int .i64 (i2)))]) (fun ⟨k1, i2⟩ w => SH w0 M BE w (hset [(1, .sr dM va a), (2, .sr gQ vb b)]) ∧ i2 = (k1 : Int) ∧ each (jT N F0 a b c) jU (a.drop k1) () = some r) (fun ⟨k1, i2⟩ => a.length - k1) ⟨0, 0⟩ ⟨rfl, trivial⟩ ?_ ?_))))))))))))))
 exact ⟨h.cn _, rfl, hs⟩
 rintro ⟨k1, i2⟩ w dm ⟨h, hik, hs⟩
 refine ai (ag ?_)
 refine ae (dA rfl rfl) (ah (aa ?_))
 refine ai (gH rfl (fun e6 => ?_) (fun e6 => ?_))
 refine aD (aa ?_)
 obtain ⟨x3, YG, YH⟩ := fJ (hik ▸ e6)
 rw [YH, df] at hs
 generalize TV : each (jT N F0 a b c) jU (a.drop (k1 + 1)) = Fg at hs
 have YI := fO ((h.fV 1 rfl)).bL hik e6
 refine ai (aL (ai (ag ?_)))
 obtain ⟨b9, o10, YJ, h, YK, i8⟩ := h.wZ 1 3 rfl jG rfl (gZ hik) (fM hik YG)
 obtain ⟨OE, Ay, Df, IX, rfl, g14, g16, g18, g20⟩ := xc YK
 replace h := h.bG 4 g14.up
 replace h := h.bG 5 g16.up.up
 replace h := h.bG 6 g18.up.up.up
 replace h := h.bG 7 g20.up.up.up.up
 refine ae (i8 _ _ _ _ _ _ _ _ _ rfl rfl) (ae (iF (k := 0) (vs := [(.int .i64 (x3.kind)), (.int .i64 (x3.n)), OE, Ay, Df, IX]) h 3 rfl mh rfl rfl rfl (Nat.le_of_ble_eq_true rfl)) (bP h 8 mh fun w Fh h => dV (vs := [(.int .i64 (x3.kind)), (.int .i64 (x3.n)), OE, Ay, Df, IX]) h 8 [(.int .i64 (x3.kind)), (.int .i64 (x3.n)), OE, Ay, Df, IX] rfl mh rfl rfl rfl rfl rfl (ax rfl (ax rfl (ax (h.fu 4 rfl).one (ax (h.fu 5 rfl).one (ax (h.fu 6 rfl).one (ax (h.fu 7 rfl).one bA)))))) fun w h => ah (aa (ai (ag (y5 h 9 fun w b22 h => lH (nH := [(1, (aP [78, 69]))]) h 9 rfl jF rfl rfl rfl rfl fun w h => lH (nH := [(1, (aP [78, 69])), (2, (aP [78, 69, 70]))]) h 9 rfl jF rfl rfl rfl rfl fun w h => lH (nH := [(1, (aP [78, 69])), (2, (aP [78, 69, 70])), (3, (aP [69]))]) h 9 rfl jF rfl rfl rfl rfl fun w h => lH (nH := [(1, (aP [78, 69])), (2, (aP [78, 69, 70])), (3, (aP [69])), (4, (aP []))]) h 9 rfl jF rfl rfl rfl rfl fun w h => lH (nH := [(1, (aP [78, 69])), (2, (aP [78, 69, 70])), (3, (aP [69])), (4, (aP [])), (5, (aP [69]))]) h 9 rfl jF rfl rfl rfl rfl fun w h => lH (nH := [(1, (aP [78, 69])), (2, (aP [78, 69, 70])), (3, (aP [69])), (4, (aP [])), (5, (aP [69])), (6, (aP [69, 65, 66]))]) h 9 rfl jF rfl rfl rfl rfl fun w h => lH (nH := [(1, (aP [78, 69])), (2, (aP [78, 69, 70])), (3, (aP [69])), (4, (aP [])), (5, (aP [69])), (6, (aP [69, 65, 66])), (7, (aP [69, 65]))]) h 9 rfl jF rfl rfl rfl rfl fun w h => lH (nH := [(1, (aP [78, 69])), (2, (aP [78, 69, 70])), (3, (aP [69])), (4, (aP [])), (5, (aP [69])), (6, (aP [69, 65, 66])), (7, (aP [69, 65])), (8, (aP [69]))]) h 9 rfl jF rfl rfl rfl rfl fun w h => ae (ak (v := (.map (some b22))) rfl) (ae (au iV rfl) (ae (aF h 8 rfl aV rfl rfl) (ae (VA (f := aP) (zz := []) ([(1, [78, 69]), (2, [78, 69, 70]), (3, [69]), (4, []), (5, [69]), (6, [69, 65, 66]), (7, [69, 65]), (8, [69])] : List (Int × Str)) h 9 rfl jF rfl rfl rfl rfl) (ae (ak (v := (.tuple #[(aP ((lk x3.kind ([(1, [78, 69]), (2, [78, 69, 70]), (3, [69]), (4, []), (5, [69]), (6, [69, 65, 66]), (7, [69, 65]), (8, [69])] : List (Int × Str))).getD [])), (.bool ((lk x3.kind ([(1, [78, 69]), (2, [78, 69, 70]), (3, [69]), (4, []), (5, [69]), (6, [69, 65, 66]), (7, [69, 65]), (8, [69])] : List (Int × Str))).isSome))])) rfl) (ae (bC rfl rfl) (ae (bC rfl rfl) ?_))))))))))))
 refine nM h 10 wu fun w zO h => dX h 10 [(aP ((lk x3.kind ([(1, [78, 69]), (2, [78, 69, 70]), (3, [69]), (4, []), (5, [69]), (6, [69, 65, 66]), (7, [69, 65]), (8, [69])] : List (Int × Str))).getD []))] rfl wu rfl rfl rfl rfl rfl fun w h => ae (aj (v := (.bool ((lk x3.kind ([(1, [78, 69]), (2, [78, 69, 70]), (3, [69]), (4, []), (5, [69]), (6, [69, 65, 66]), (7, [69, 65]), (8, [69])] : List (Int × Str))).isSome))) rfl) (ah (aa (ai (ag (ae (pM (c1 := []) (c2 := [(.pointer (some ⟨zO, 0, none⟩))]) rfl rfl) (ae (aj (v := (.func (.func 144) #[] #[(.pointer (some ⟨zO, 0, none⟩))])) rfl) (ah (aa (ai (ai (ag (ae (ak (v := (.bool ((lk x3.kind ([(1, [78, 69]), (2, [78, 69, 70]), (3, [69]), (4, []), (5, [69]), (6, [69, 65, 66]), (7, [69, 65]), (8, [69])] : List (Int × Str))).isSome))) rfl) (ae (fZ rfl) (ae (ak (v := (.bool ((!(lk x3.kind ([(1, [78, 69]), (2, [78, 69, 70]), (3, [69]), (4, []), (5, [69]), (6, [69, 65, 66]), (7, [69, 65]), (8, [69])] : List (Int × Str))).isSome)))) rfl) (aC rfl rfl (fun q => au si rfl) (aC rfl rfl (fun q => aF h 8 rfl aV (cO q) rfl) (aC rfl rfl (fun q => iH (cO q) rfl) (aC rfl rfl (fun q => ak (v := (.bool (decide ((x3.n : Int) ≠ 0)))) (cO q)) (lZ ((!(lk x3.kind ([(1, [78, 69]), (2, [78, 69, 70]), (3, [69]), (4, []), (5, [69]), (6, [69, 65, 66]), (7, [69, 65]), (8, [69])] : List (Int × Str))).isSome) == false) rfl rfl (fun q => ak (v := (.func (.func 144) #[] #[(.pointer (some ⟨zO, 0, none⟩))])) rfl) (y8 [(.pointer (some ⟨zO, 0, none⟩))] ((!(lk x3.kind ([(1, [78, 69]), (2, [78, 69, 70]), (3, [69]), (4, []), (5, [69]), (6, [69, 65, 66]), (7, [69, 65]), (8, [69])] : List (Int × Str))).isSome) == false) rfl rfl xw (fun q => (cO q)) (fun q => kC rfl rfl) (sj _ _ h.lt ((lk x3.kind ([(1, [78, 69]), (2, [78, 69, 70]), (3, [69]), (4, []), (5, [69]), (6, [69, 65, 66]), (7, [69, 65]), (8, [69])] : List (Int × Str))).getD []) zO (h.oU 10 rfl) _ rfl) fun w k24 => ?_))))))))))))))))))))
 replace h := h.grow k24
 refine lZ ((!(lk x3.kind ([(1, [78, 69]), (2, [78, 69, 70]), (3, [69]), (4, []), (5, [69]), (6, [69, 65, 66]), (7, [69, 65]), (8, [69])] : List (Int × Str))).isSome) == false) rfl rfl (fun q => fZ (cO q)) (aC rfl rfl (fun q => gJ (cO q) (NL q) mR) (ae (gM rfl rfl mR) (ae (ak (v := (.bool (((!(lk x3.kind ([(1, [78, 69]), (2, [78, 69, 70]), (3, [69]), (4, []), (5, [69]), (6, [69, 65, 66]), (7, [69, 65]), (8, [69])] : List (Int × Str))).isSome) || (decide ((x3.n : Int) ≠ 0) && (!(aS ((lk x3.kind ([(1, [78, 69]), (2, [78, 69, 70]), (3, [69]), (4, []), (5, [69]), (6, [69, 65, 66]), (7, [69, 65]), (8, [69])] : List (Int × Str))).getD [])))))))) rfl) (aC rfl rfl (fun q => au vY rfl) (aC rfl rfl (fun q => aF h 8 rfl uM (cO q) rfl) (aC rfl rfl (fun q => bF jd (cO q) (h.mU 4 rfl)) (aC rfl rfl (fun q => iR (cO q) rfl) (aC rfl rfl (fun q => ak (v := (.bool (decide ((0 : Int) < (x3.e.length : Int))))) (cO q)) (lZ (((!(lk x3.kind ([(1, [78, 69]), (2, [78, 69, 70]), (3, [69]), (4, []), (5, [69]), (6, [69, 65, 66]), (7, [69, 65]), (8, [69])] : List (Int × Str))).isSome) || (decide ((x3.n : Int) ≠ 0) && (!(aS ((lk x3.kind ([(1, [78, 69]), (2, [78, 69, 70]), (3, [69]), (4, []), (5, [69]), (6, [69, 65, 66]), (7, [69, 65]), (8, [69])] : List (Int × Str))).getD []))))) == false) rfl rfl (fun q => ak (v := (.func (.func 144) #[] #[(.pointer (some ⟨zO, 0, none⟩))])) rfl) (y8 [(.pointer (some ⟨zO, 0, none⟩))] (((!(lk x3.kind ([(1, [78, 69]), (2, [78, 69, 70]), (3, [69]), (4, []), (5, [69]), (6, [69, 65, 66]), (7, [69, 65]), (8, [69])] : List (Int × Str))).isSome) || (decide ((x3.n : Int) ≠ 0) && (!(aS ((lk x3.kind ([(1, [78, 69]), (2, [78, 69, 70]), (3, [69]), (4, []), (5, [69]), (6, [69, 65, 66]), (7, [69, 65]), (8, [69])] : List (Int × Str))).getD []))))) == false) rfl rfl xw (fun q => (cO q)) (fun q => kC rfl rfl) (su _ _ h.lt ((lk x3.kind ([(1, [78, 69]), (2, [78, 69, 70]), (3, [69]), (4, []), (5, [69]), (6, [69, 65, 66]), (7, [69, 65]), (8, [69])] : List (Int × Str))).getD []) zO (h.oU 10 rfl) _ rfl) fun w k25 => ?_))))))))))
 replace h := h.grow k25
 refine lZ (((!(lk x3.kind ([(1, [78, 69]), (2, [78, 69, 70]), (3, [69]), (4, []), (5, [69]), (6, [69, 65, 66]), (7, [69, 65]), (8, [69])] : List (Int × Str))).isSome) || (decide ((x3.n : Int) ≠ 0) && (!(aS ((lk x3.kind ([(1, [78, 69]), (2, [78, 69, 70]), (3, [69]), (4, []), (5, [69]), (6, [69, 65, 66]), (7, [69, 65]), (8, [69])] : List (Int × Str))).getD []))))) == false) rfl rfl (fun q => fZ (cO q)) (aC rfl rfl (fun q => gJ (cO q) (NL q) mR) (ae (gM rfl rfl mR) (ae (ak (v := (.bool ((((!(lk x3.kind ([(1, [78, 69]), (2, [78, 69, 70]), (3, [69]), (4, []), (5, [69]), (6, [69, 65, 66]), (7, [69, 65]), (8, [69])] : List (Int × Str))).isSome) || (decide ((x3.n : Int) ≠ 0) && (!(aS ((lk x3.kind ([(1, [78, 69]), (2, [78, 69, 70]), (3, [69]), (4, []), (5, [69]), (6, [69, 65, 66]), (7, [69, 65]), (8, [69])] : List (Int × Str))).getD []))))) || (decide ((0 : Int) < (x3.e.length : Int)) && (!(bg ((lk x3.kind ([(1, [78, 69]), (2, [78, 69, 70]), (3, [69]), (4, []), (5, [69]), (6, [69, 65, 66]), (7, [69, 65]), (8, [69])] : List (Int × Str))).getD [])))))))) rfl) (aC rfl rfl (fun q => au yz rfl) (aC rfl rfl (fun q => aF h 8 rfl uM (cO q) rfl) (aC rfl rfl (fun q => bF jd (cO q) (h.mU 5 rfl)) (aC rfl rfl (fun q => iR (cO q) rfl) (aC rfl rfl (fun q => ak (v := (.bool (decide ((0 : Int) < (x3.f.length : Int))))) (cO q)) (lZ ((((!(lk x3.kind ([(1, [78, 69]), (2, [78, 69, 70]), (3, [69]), (4, []), (5, [69]), (6, [69, 65, 66]), (7, [69, 65]), (8, [69])] : List (Int × Str))).isSome) || (decide ((x3.n : Int) ≠ 0) && (!(aS ((lk x3.kind ([(1, [78, 69]), (2, [78, 69, 70]), (3, [69]), (4, []), (5, [69]), (6, [69, 65, 66]), (7, [69, 65]), (8, [69])] : List (Int × Str))).getD []))))) || (decide ((0 : Int) < (x3.e.length : Int)) && (!(bg ((lk x3.kind ([(1, [78, 69]), (2, [78, 69, 70]), (3, [69]), (4, []), (5, [69]), (6, [69, 65, 66]), (7, [69, 65]), (8, [69])] : List (Int × Str))).getD []))))) == false) rfl rfl (fun q => ak (v := (.func (.func 144) #[] #[(.pointer (some ⟨zO, 0, none⟩))])) rfl) (y8 [(.pointer (some ⟨zO, 0, none⟩))] ((((!(lk x3.kind ([(1, [78, 69]), (2, [78, 69, 70]), (3, [69]), (4, []), (5, [69]), (6, [69, 65, 66]), (7, [69, 65]), (8, [69])] : List (Int × Str))).isSome) || (decide ((x3.n : Int) ≠ 0) && (!(aS ((lk x3.kind ([(1, [78, 69]), (2, [78, 69, 70]), (3, [69]), (4, []), (5, [69]), (6, [69, 65, 66]), (7, [69, 65]), (8, [69])] : List (Int × Str))).getD []))))) || (decide ((0 : Int) < (x3.e.length : Int)) && (!(bg ((lk x3.kind ([(1, [78, 69]), (2, [78, 69, 70]), (3, [69]), (4, []), (5, [69]), (6, [69, 65, 66]), (7, [69, 65]), (8, [69])] : List (Int × Str))).getD []))))) == false) rfl rfl xw (fun q => (cO q)) (fun q => kC rfl rfl) (l8 _ _ h.lt ((lk x3.kind ([(1, [78, 69]), (2, [78, 69, 70]), (3, [69]), (4, []), (5, [69]), (6, [69, 65, 66]), (7, [69, 65]), (8, [69])] : List (Int × Str))).getD []) zO (h.oU 10 rfl) _ rfl) fun w k26 => ?_))))))))))
 replace h := h.grow k26
 refine lZ ((((!(lk x3.kind ([(1, [78, 69]), (2, [78, 69, 70]), (3, [69]), (4, []), (5, [69]), (6, [69, 65, 66]), (7, [69, 65]), (8, [69])] : List (Int × Str))).isSome) || (decide ((x3.n : Int) ≠ 0) && (!(aS ((lk x3.kind ([(1, [78, 69]), (2, [78, 69, 70]), (3, [69]), (4, []), (5, [69]), (6, [69, 65, 66]), (7, [69, 65]), (8, [69])] : List (Int × Str))).getD []))))) || (decide ((0 : Int) < (x3.e.length : Int)) && (!(bg ((lk x3.kind ([(1, [78, 69]), (2, [78, 69, 70]), (3, [69]), (4, []), (5, [69]), (6, [69, 65, 66]), (7, [69, 65]), (8, [69])] : List (Int × Str))).getD []))))) == false) rfl rfl (fun q => fZ (cO q)) (aC rfl rfl (fun q => gJ (cO q) (NL q) mR) (ae (gM rfl rfl mR) (ae (ak (v := (.bool (((((!(lk x3.kind ([(1, [78, 69]), (2, [78, 69, 70]), (3, [69]), (4, []), (5, [69]), (6, [69, 65, 66]), (7, [69, 65]), (8, [69])] : List (Int × Str))).isSome) || (decide ((x3.n : Int) ≠ 0) && (!(aS ((lk x3.kind ([(1, [78, 69]), (2, [78, 69, 70]), (3, [69]), (4, []), (5, [69]), (6, [69, 65, 66]), (7, [69, 65]), (8, [69])] : List (Int × Str))).getD []))))) || (decide ((0 : Int) < (x3.e.length : Int)) && (!(bg ((lk x3.kind ([(1, [78, 69]), (2, [78, 69, 70]), (3, [69]), (4, []), (5, [69]), (6, [69, 65, 66]), (7, [69, 65]), (8, [69])] : List (Int × Str))).getD []))))) || (decide ((0 : Int) < (x3.f.length : Int)) && (!(bN ((lk x3.kind ([(1, [78, 69]), (2, [78, 69, 70]), (3, [69]), (4, []), (5, [69]), (6, [69, 65, 66]), (7, [69, 65]), (8, [69])] : List (Int × Str))).getD [])))))))) rfl) (aC rfl rfl (fun q => au vZ rfl) (aC rfl rfl (fun q => aF h 8 rfl nu (cO q) rfl) (aC rfl rfl (fun q => bF jG (cO q) (h.mU 6 rfl)) (aC rfl rfl (fun q => iR (cO q) rfl) (aC rfl rfl (fun q => ak (v := (.bool (decide ((0 : Int) < (x3.a.length : Int))))) (cO q)) (lZ (((((!(lk x3.kind ([(1, [78, 69]), (2, [78, 69, 70]), (3, [69]), (4, []), (5, [69]), (6, [69, 65, 66]), (7, [69, 65]), (8, [69])] : List (Int × Str))).isSome) || (decide ((x3.n : Int) ≠ 0) && (!(aS ((lk x3.kind ([(1, [78, 69]), (2, [78, 69, 70]), (3, [69]), (4, []), (5, [69]), (6, [69, 65, 66]), (7, [69, 65]), (8, [69])] : List (Int × Str))).getD []))))) || (decide ((0 : Int) < (x3.e.length : Int)) && (!(bg ((lk x3.kind ([(1, [78, 69]), (2, [78, 69, 70]), (3, [69]), (4, []), (5, [69]), (6, [69, 65, 66]), (7, [69, 65]), (8, [69])] : List (Int × Str))).getD []))))) || (decide ((0 : Int) < (x3.f.length : Int)) && (!(bN ((lk x3.kind ([(1, [78, 69]), (2, [78, 69, 70]), (3, [69]), (4, []), (5, [69]), (6, [69, 65, 66]), (7, [69, 65]), (8, [69])] : List (Int × Str))).getD []))))) == false) rfl rfl (fun q => ak (v := (.func (.func 144) #[] #[(.pointer (some ⟨zO, 0, none⟩))])) rfl) (y8 [(.pointer (some ⟨zO, 0, none⟩))] (((((!(lk x3.kind ([(1, [78, 69]), (2, [78, 69, 70]), (3, [69]), (4, []), (5, [69]), (6, [69, 65, 66]), (7, [69, 65]), (8, [69])] : List (Int × Str))).isSome) || (decide ((x3.n : Int) ≠ 0) && (!(aS ((lk x3.kind ([(1, [78, 69]), (2, [78, 69, 70]), (3, [69]), (4, []), (5, [69]), (6, [69, 65, 66]), (7, [69, 65]), (8, [69])] : List (Int × Str))).getD []))))) || (decide ((0 : Int) < (x3.e.length : Int)) && (!(bg ((lk x3.kind ([(1, [78, 69]), (2, [78, 69, 70]), (3, [69]), (4, []), (5, [69]), (6, [69, 65, 66]), (7, [69, 65]), (8, [69])] : List (Int × Str))).getD []))))) || (decide ((0 : Int) < (x3.f.length : Int)) && (!(bN ((lk x3.kind ([(1, [78, 69]), (2, [78, 69, 70]), (3, [69]), (4, []), (5, [69]), (6, [69, 65, 66]), (7, [69, 65]), (8, [69])] : List (Int × Str))).getD []))))) == false) rfl rfl xw (fun q => (cO q)) (fun q => kC rfl rfl) (sD _ _ h.lt ((lk x3.kind ([(1, [78, 69]), (2, [78, 69, 70]), (3, [69]), (4, []), (5, [69]), (6, [69, 65, 66]), (7, [69, 65]), (8, [69])] : List (Int × Str))).getD []) zO (h.oU 10 rfl) _ rfl) fun w k27 => ?_))))))))))
 replace h := h.grow k27
 refine lZ (((((!(lk x3.kind ([(1, [78, 69]), (2, [78, 69, 70]), (3, [69]), (4, []), (5, [69]), (6, [69, 65, 66]), (7, [69, 65]), (8, [69])] : List (Int × Str))).isSome) || (decide ((x3.n : Int) ≠ 0) && (!(aS ((lk x3.kind ([(1, [78, 69]), (2, [78, 69, 70]), (3, [69]), (4, []), (5, [69]), (6, [69, 65, 66]), (7, [69, 65]), (8, [69])] : List (Int × Str))).getD []))))) || (decide ((0 : Int) < (x3.e.length : Int)) && (!(bg ((lk x3.kind ([(1, [78, 69]), (2, [78, 69, 70]), (3, [69]), (4, []), (5, [69]), (6, [69, 65, 66]), (7, [69, 65]), (8, [69])] : List (Int × Str))).getD []))))) || (decide ((0 : Int) < (x3.f.length : Int)) && (!(bN ((lk x3.kind ([(1, [78, 69]), (2, [78, 69, 70]), (3, [69]), (4, []), (5, [69]), (6, [69, 65, 66]), (7, [69, 65]), (8, [69])] : List (Int × Str))).getD []))))) == false) rfl rfl (fun q => fZ (cO q)) (aC rfl rfl (fun q => gJ (cO q) (NL q) mR) (ae (gM rfl rfl mR) (ae (ak (v := (.bool ((((((!(lk x3.kind ([(1, [78, 69]), (2, [78, 69, 70]), (3, [69]), (4, []), (5, [69]), (6, [69, 65, 66]), (7, [69, 65]), (8, [69])] : List (Int × Str))).isSome) || (decide ((x3.n : Int) ≠ 0) && (!(aS ((lk x3.kind ([(1, [78, 69]), (2, [78, 69, 70]), (3, [69]), (4, []), (5, [69]), (6, [69, 65, 66]), (7, [69, 65]), (8, [69])] : List (Int × Str))).getD []))))) || (decide ((0 : Int) < (x3.e.length : Int)) && (!(bg ((lk x3.kind ([(1, [78, 69]), (2, [78, 69, 70]), (3, [69]), (4, []), (5, [69]), (6, [69, 65, 66]), (7, [69, 65]), (8, [69])] : List (Int × Str))).getD []))))) || (decide ((0 : Int) < (x3.f.length : Int)) && (!(bN ((lk x3.kind ([(1, [78, 69]), (2, [78, 69, 70]), (3, [69]), (4, []), (5, [69]), (6, [69, 65, 66]), (7, [69, 65]), (8, [69])] : List (Int × Str))).getD []))))) || (decide ((0 : Int) < (x3.a.length : Int)) && (!(dY ((lk x3.kind ([(1, [78, 69]), (2, [78, 69, 70]), (3, [69]), (4, []), (5, [69]), (6, [69, 65, 66]), (7, [69, 65]), (8, [69])] : List (Int × Str))).getD [])))))))) rfl) (aC rfl rfl (fun q => au wm rfl) (aC rfl rfl (fun q => aF h 8 rfl nu (cO q) rfl) (aC rfl rfl (fun q => bF jG (cO q) (h.mU 7 rfl)) (aC rfl rfl (fun q => iR (cO q) rfl) (aC rfl rfl (fun q => ak (v := (.bool (decide ((0 : Int) < (x3.b.length : Int))))) (cO q)) (lZ ((((((!(lk x3.kind ([(1, [78, 69]), (2, [78, 69, 70]), (3, [69]), (4, []), (5, [69]), (6, [69, 65, 66]), (7, [69, 65]), (8, [69])] : List (Int × Str))).isSome) || (decide ((x3.n : Int) ≠ 0) && (!(aS ((lk x3.kind ([(1, [78, 69]), (2, [78, 69, 70]), (3, [69]), (4, []), (5, [69]), (6, [69, 65, 66]), (7, [69, 65]), (8, [69])] : List (Int × Str))).getD []))))) || (decide ((0 : Int) < (x3.e.length : Int)) && (!(bg ((lk x3.kind ([(1, [78, 69]), (2, [78, 69, 70]), (3, [69]), (4, []), (5, [69]), (6, [69, 65, 66]), (7, [69, 65]), (8, [69])] : List (Int × Str))).getD []))))) || (decide ((0 : Int) < (x3.f.length : Int)) && (!(bN ((lk x3.kind ([(1, [78, 69]), (2, [78, 69, 70]), (3, [69]), (4, []), (5, [69]), (6, [69, 65, 66]), (7, [69, 65]), (8, [69])] : List (Int × Str))).getD []))))) || (decide ((0 : Int) < (x3.a.length : Int)) && (!(dY ((lk x3.kind ([(1, [78, 69]), (2, [78, 69, 70]), (3, [69]), (4, []), (5, [69]), (6, [69, 65, 66]), (7, [69, 65]), (8, [69])] : List (Int × Str))).getD []))))) == false) rfl rfl (fun q => ak (v := (.func (.func 144) #[] #[(.pointer (some ⟨zO, 0, none⟩))])) rfl) (y8 [(.pointer (some ⟨zO, 0, none⟩))] ((((((!(lk x3.kind ([(1, [78, 69]), (2, [78, 69, 70]), (3, [69]), (4, []), (5, [69]), (6, [69, 65, 66]), (7, [69, 65]), (8, [69])] : List (Int × Str))).isSome) || (decide ((x3.n : Int) ≠ 0) && (!(aS ((lk x3.kind ([(1, [78, 69]), (2, [78, 69, 70]), (3, [69]), (4, []), (5, [69]), (6, [69, 65, 66]), (7, [69, 65]), (8, [69])] : List (Int × Str))).getD []))))) || (decide ((0 : Int) < (x3.e.length : Int)) && (!(bg ((lk x3.kind ([(1, [78, 69]), (2, [78, 69, 70]), (3, [69]), (4, []), (5, [69]), (6, [69, 65, 66]), (7, [69, 65]), (8, [69])] : List (Int × Str))).getD []))))) || (decide ((0 : Int) < (x3.f.length : Int)) && (!(bN ((lk x3.kind ([(1, [78, 69]), (2, [78, 69, 70]), (3, [69]), (4, []), (5, [69]), (6, [69, 65, 66]), (7, [69, 65]), (8, [69])] : List (Int × Str))).getD []))))) || (decide ((0 : Int) < (x3.a.length : Int)) && (!(dY ((lk x3.kind ([(1, [78, 69]), (2, [78, 69, 70]), (3, [69]), (4, []), (5, [69]), (6, [69, 65, 66]), (7, [69, 65]), (8, [69])] : List (Int × Str))).getD []))))) == false) rfl rfl xw (fun q => (cO q)) (fun q => kC rfl rfl) (sF _ _ h.lt ((lk x3.kind ([(1, [78, 69]), (2, [78, 69, 70]), (3, [69]), (4, []), (5, [69]), (6, [69, 65, 66]), (7, [69, 65]), (8, [69])] : List (Int × Str))).getD []) zO (h.oU 10 rfl) _ rfl) fun w k28 => ?_))))))))))
 replace h := h.grow k28
 refine lZ ((((((!(lk x3.kind ([(1, [78, 69]), (2, [78, 69, 70]), (3, [69]), (4, []), (5, [69]), (6, [69, 65, 66]), (7, [69, 65]), (8, [69])] : List (Int × Str))).isSome) || (decide ((x3.n : Int) ≠ 0) && (!(aS ((lk x3.kind ([(1, [78, 69]), (2, [78, 69, 70]), (3, [69]), (4, []), (5, [69]), (6, [69, 65, 66]), (7, [69, 65]), (8, [69])] : List (Int × Str))).getD []))))) || (decide ((0 : Int) < (x3.e.length : Int)) && (!(bg ((lk x3.kind ([(1, [78, 69]), (2, [78, 69, 70]), (3, [69]), (4, []), (5, [69]), (6, [69, 65, 66]), (7, [69, 65]), (8, [69])] : List (Int × Str))).getD []))))) || (decide ((0 : Int) < (x3.f.length : Int)) && (!(bN ((lk x3.kind ([(1, [78, 69]), (2, [78, 69, 70]), (3, [69]), (4, []), (5, [69]), (6, [69, 65, 66]), (7, [69, 65]), (8, [69])] : List (Int × Str))).getD []))))) || (decide ((0 : Int) < (x3.a.length : Int)) && (!(dY ((lk x3.kind ([(1, [78, 69]), (2, [78, 69, 70]), (3, [69]), (4, []), (5, [69]), (6, [69, 65, 66]), (7, [69, 65]), (8, [69])] : List (Int × Str))).getD []))))) == false) rfl rfl (fun q => fZ (cO q)) (aC rfl rfl (fun q => gJ (cO q) (NL q) mR) (ae (gM rfl rfl mR) (ah (aa (aJ hs rfl (fun c29 hs => ?_) (fun c29 hs => ?_))))))
 refine ai (ag (ae (aj (v := (.int .i64 (4))) rfl) (ah (aa (aI (aB (aG (aB (aB (aG (aB (bI (v := (.int .i64 (4))) Tryz.results129 rfl ?_))))))))))))
 obtain rfl := Option.some.inj hs
 exact ⟨h.grown, rfl⟩
 refine aD (aa (ai (ai (ag (ae (au iV rfl) (ae (aF h 8 rfl aV rfl rfl) (ae (bM rfl rfl) (ae (ak (v := (.bool (decide ((x3.kind : Int) = 1)))) rfl) (aC rfl rfl (fun q => au si rfl) (aC rfl rfl (fun q => aF h 8 rfl aV (cO q) rfl) (aC rfl rfl (fun q => ak (v := (.int .i64 (c))) rfl) (Iu rfl rfl Kc rfl (fun q => kC (cO q) (kC (cO q) rfl)) (oO _ _ h.lt x3.n c _ rfl) fun w VR => ?_))))))))))))
 replace h := h.grow VR
 refine aC rfl rfl (fun q => fZ (cO q)) (ae (gJ rfl rfl mR) (ae (ak (v := (.bool ((decide ((x3.kind : Int) = 1) && (!(aN x3.n c)))))) rfl) (aC rfl rfl (fun q => au iV rfl) (aC rfl rfl (fun q => aF h 8 rfl aV (cO q) rfl) (aC rfl rfl (fun q => bM (cO q) rfl) (aC rfl rfl (fun q => ak (v := (.bool (decide ((x3.kind : Int) = 2)))) (cO q)) (lZ ((decide ((x3.kind : Int) = 1) && (!(aN x3.n c))) == false) rfl rfl (fun q => au si rfl) (lZ ((decide ((x3.kind : Int) = 1) && (!(aN x3.n c))) == false) rfl rfl (fun q => aF h 8 rfl aV (cO q) rfl) (Lj ((decide ((x3.kind : Int) = 1) && (!(aN x3.n c))) == false) rfl rfl vH rfl (fun q => kC (cO q) (kC rfl (kC rfl rfl))) (fE _ _ h.lt x3.n 0 3 _ rfl) fun w k31 => ?_)))))))))
 replace h := h.grow k31
 refine lZ ((decide ((x3.kind : Int) = 1) && (!(aN x3.n c))) == false) rfl rfl (fun q => fZ (cO q)) (aC rfl rfl (fun q => gJ (cO q) (NL q) mR) (ae (gM rfl rfl mR) (ah (aa (aJ hs rfl (fun c32 hs => ?_) (fun c32 hs => ?_))))))
 refine ai (ag (ae (aj (v := (.int .i64 (3))) rfl) (ah (aa (aI (aB (aG (aB (aB (aG (aB (bI (v := (.int .i64 (3))) Tryz.results129 rfl ?_))))))))))))
 obtain rfl := Option.some.inj hs
 exact ⟨h.grown, rfl⟩
 refine aD (aa (ai (ag (ae (aj (v := (.int .i64 (0))) rfl) (ah (aa (bU (σ := Int) (inl [12, 105, 106, 107, 108, 109, 110, 111]) (fun Aw => [(12, (.int .i64 (Aw)))]) (fun Aw w => SH w0 M BE w (hset [(1, .sr dM va a), (2, .sr gQ vb b), (4, .rd jo OE x3.e), (5, .rd jo Ay x3.f), (6, .rd dM Df x3.a), (7, .rd dM IX x3.b), (8, .blk Fh [(.int .i64 (x3.kind)), (.int .i64 (x3.n)), OE, Ay, Df, IX]), (10, .blk zO [(aP ((lk x3.kind ([(1, [78, 69]), (2, [78, 69, 70]), (3, [69]), (4, []), (5, [69]), (6, [69, 65, 66]), (7, [69, 65]), (8, [69])] : List (Int × Str))).getD []))])]) ∧ jS N F0 x3 b c a Fg Aw = some r) ?_ ?_)))))))
 rintro Aw w dm ⟨h, hs⟩
 refine bU (σ := Int) (inl [12, 112, 113, 114, 115, 116, 117, 118, 119, 120, 121, 122]) (fun x34 => [(12, (.int .i64 (x34))), (115, (gv (decide ((Aw : Int) = 0) == true) (.func (.func 144) #[] #[(.pointer (some ⟨zO, 0, none⟩))])))]) (fun x34 w => SH w0 M BE w (hset [(1, .sr dM va a), (2, .sr gQ vb b), (4, .rd jo OE x3.e), (5, .rd jo Ay x3.f), (6, .rd dM Df x3.a), (7, .rd dM IX x3.b), (8, .blk Fh [(.int .i64 (x3.kind)), (.int .i64 (x3.n)), OE, Ay, Df, IX]), (10, .blk zO [(aP ((lk x3.kind ([(1, [78, 69]), (2, [78, 69, 70]), (3, [69]), (4, []), (5, [69]), (6, [69, 65, 66]), (7, [69, 65]), (8, [69])] : List (Int × Str))).getD []))])]) ∧ jR F0 x3 a b c Fg x34 = some r) ?_ ?_
 rintro x34 w dm ⟨h, hs⟩
 refine bU (σ := Int) (inl [12, 123, 124, 125, 126, 127, 128, 129]) (fun wT => [(12, (.int .i64 (wT)))]) (fun wT w => SH w0 M BE w (hset [(1, .sr dM va a), (2, .sr gQ vb b), (4, .rd jo OE x3.e), (5, .rd jo Ay x3.f), (6, .rd dM Df x3.a), (7, .rd dM IX x3.b), (8, .blk Fh [(.int .i64 (x3.kind)), (.int .i64 (x3.n)), OE, Ay, Df, IX]), (10, .blk zO [(aP ((lk x3.kind ([(1, [78, 69]), (2, [78, 69, 70]), (3, [69]), (4, []), (5, [69]), (6, [69, 65, 66]), (7, [69, 65]), (8, [69])] : List (Int × Str))).getD []))])]) ∧ jQ F0 x3 b c Fg wT = some r) ?_ ?_
 rintro wT w dm ⟨h, hs⟩
 refine bU (σ := Int) (inl [12, 130, 131, 132, 133, 134, 135, 136]) (fun pQ => [(12, (.int .i64 (pQ)))]) (fun pQ w => SH w0 M BE w (hset [(1, .sr dM va a), (2, .sr gQ vb b), (10, .blk zO [(aP ((lk x3.kind ([(1, [78, 69]), (2, [78, 69, 70]), (3, [69]), (4, []), (5, [69]), (6, [69, 65, 66]), (7, [69, 65]), (8, [69])] : List (Int × Str))).getD []))])]) ∧ jP Fg pQ = some r) ?_ ?_
 rintro pQ w dm ⟨h, hs⟩
 refine ai (ag (ae (ak (v := (.int .i64 (pQ))) rfl) (ae (iH rfl rfl) (ah (aa (aJ hs rfl (fun c37 hs => ?_) (fun c37 hs => ?_)))))))
 refine ai (ag (ae (ak (v := (.int .i64 (pQ))) rfl) (ae (aj (v := (.int .i64 (pQ))) rfl) (ah (aa (aI (aG (aB (aB (aG (aB (bI (v := (.int .i64 (pQ))) Tryz.results129 rfl ?_))))))))))))
 obtain rfl := Option.some.inj hs
 exact ⟨h.grown, rfl⟩
 refine aD (az (aa (ag (ae (bY rfl rfl YI) (ae (ak (v := (.int .i64 ((i2 + 1)))) rfl) (ah (ay ?_)))))))
 subst TV
 exact iQ ⟨k1 + 1, i2 + 1⟩ ⟨h.cn _, by omega, hs⟩ (by have := of_decide_eq_true e6; dsimp only; omega)
 refine ai (ag (ae (ak (v := (.int .i64 (wT))) rfl) (ae (bM rfl rfl) (ah (aa (aJ hs rfl (fun Ki hs => ?_) (fun Ki hs => ?_)))))))
 refine ag (ae (au wm rfl) (ae (aF h 8 rfl nu rfl rfl) (ae (ak (v := vb) rfl) (ae (ak (v := (.int .i64 (c))) rfl) ?_))))
 obtain ⟨y39, e40, hs⟩ := aM hs
 refine aO GZ rfl rfl (ih _ _ h.lt IX x3.b (h.mU 7 rfl) vb b (h.fV 2 rfl) c _ e40) ?_
 rintro _ w ⟨YL, rfl⟩
 refine ⟨_, rfl, ?_⟩
 replace h := h.grow YL
 refine ae (aj (v := (.int .i64 (y39))) rfl) (ah (ay ?_))
 exact bR y39 ⟨h.cn _, hs⟩
 refine aD (ay ?_)
 exact bR wT ⟨h.cn _, hs⟩
 refine ai (ag (ae (ak (v := (.int .i64 (x34))) rfl) (ae (bM rfl rfl) (ah (aa (aJ hs rfl (fun c42 hs => ?_) (fun c42 hs => ?_)))))))
 refine ag (ae (au vZ rfl) (ae (aF h 8 rfl nu rfl rfl) (ae (ak (v := vb) rfl) (ae (ak (v := (.int .i64 (c))) rfl) ?_))))
 obtain ⟨xy, e44, hs⟩ := aM hs
 refine aO GZ rfl rfl (ih _ _ h.lt Df x3.a (h.mU 6 rfl) vb b (h.fV 2 rfl) c _ e44) ?_
 rintro _ w ⟨k45, rfl⟩
 refine ⟨_, rfl, ?_⟩
 replace h := h.grow k45
 refine ae (aj (v := (.int .i64 (xy))) rfl) (ah (ay ?_))
 exact bR xy ⟨h.cn _, hs⟩
 refine aD (ay ?_)
 exact bR x34 ⟨h.cn _, hs⟩
 refine ai (ag (ae (ak (v := (.int .i64 (Aw))) rfl) (ae (bM rfl rfl) (ae (ak (v := (.bool (decide ((Aw : Int) = 0)))) rfl) (aC rfl rfl (fun q => ak (v := (.func (.func 144) #[] #[(.pointer (some ⟨zO, 0, none⟩))])) rfl) (DJ [(.pointer (some ⟨zO, 0, none⟩))] rfl rfl xw (fun q => (cO q)) (fun q => kC rfl rfl) (l8 _ _ h.lt ((lk x3.kind ([(1, [78, 69]), (2, [78, 69, 70]), (3, [69]), (4, []), (5, [69]), (6, [69, 65, 66]), (7, [69, 65]), (8, [69])] : List (Int × Str))).getD []) zO (h.oU 10 rfl) _ rfl) fun w YM => ?_))))))
 replace h := h.grow YM
 refine ae (gJ rfl rfl mR) (ah (aa (aJ hs rfl (fun YN hs => ?_) (fun YN hs => ?_))))
 refine ag (ae (au yz rfl) (ae (aF h 8 rfl uM rfl rfl) (ae (ak (v := vb) rfl) (ae (ak (v := (.int .i64 (c))) rfl) ?_))))
 obtain ⟨wU, e49, hs⟩ := aM hs
 refine aO LC rfl rfl (qa N _ _ h.lt Ay x3.f (h.mU 5 rfl) vb b (h.fV 2 rfl) c _ e49) ?_
 rintro _ w ⟨YO, rfl⟩
 refine ⟨_, rfl, ?_⟩
 replace h := h.grow YO
 refine ae (aj (v := (.int .i64 (wU))) rfl) (ah (ay ?_))
 exact bR wU ⟨h.cn _, hs⟩
 refine aD (ay ?_)
 exact bR Aw ⟨h.cn _, hs⟩
 refine ai (ag (ae (ak (v := (.func (.func 144) #[] #[(.pointer (some ⟨zO, 0, none⟩))])) rfl) (jh (args := [(aP [69]), (.pointer (some ⟨zO, 0, none⟩))]) xw rfl rfl (aK (args := [(aP [69]), (.pointer (some ⟨zO, 0, none⟩))]) Tryz.func144 rfl Tryz.ntmps144 (Nat.le_of_ble_eq_true rfl) (ai (ag (ae (aj (v := (.bool (false))) rfl) (ah (aa (ai (ag (ae (aF h 10 rfl wu rfl rfl) (ae (ak (v := (aP [69])) rfl) (aO zk rfl rfl (iK _ _ h.lt ((lk x3.kind ([(1, [78, 69]), (2, [78, 69, 70]), (3, [69]), (4, []), (5, [69]), (6, [69, 65, 66]), (7, [69, 65]), (8, [69])] : List (Int × Str))).getD []) 69 _ rfl) ?_))))))))))))))
 rintro _ w ⟨YP, rfl⟩
 refine ⟨_, rfl, ?_⟩
 replace h := h.grow YP
 refine ae (aj (v := (.bool ((hasB ((lk x3.kind ([(1, [78, 69]), (2, [78, 69, 70]), (3, [69]), (4, []), (5, [69]), (6, [69, 65, 66]), (7, [69, 65]), (8, [69])] : List (Int × Str))).getD []) 69)))) rfl) (ah (aa (aI (bI (v := (.bool ((hasB ((lk x3.kind ([(1, [78, 69]), (2, [78, 69, 70]), (3, [69]), (4, []), (5, [69]), (6, [69, 65, 66]), (7, [69, 65]), (8, [69])] : List (Int × Str))).getD []) 69)))) Tryz.results144 rfl (⟨_, rfl, ?_⟩)))))
 refine ah (aa (aJ hs rfl (fun zX hs => ?_) (fun zX hs => ?_)))
 refine ag (ae (au vY rfl) (ae (aF h 8 rfl uM rfl rfl) (ae (ak (v := vb) rfl) (ae (ak (v := (.int .i64 (c))) rfl) ?_))))
 obtain ⟨IW, e54, hs⟩ := aM hs
 refine aO LC rfl rfl (qa N _ _ h.lt OE x3.e (h.mU 4 rfl) vb b (h.fV 2 rfl) c _ e54) ?_
 rintro _ w ⟨YQ, rfl⟩
 refine ⟨_, rfl, ?_⟩
 replace h := h.grow YQ
 refine ae (aj (v := (.int .i64 (IW))) rfl) (ah (ay ?_))
 exact bR IW ⟨h.cn _, hs⟩
 refine aD (ay ?_)
 exact bR 0 ⟨h.cn _, hs⟩
 rw [fK (hik ▸ e6), fB] at hs
 refine bT (aH (aH (aT (aa (ai (ag (ae (aj (v := (.int .i64 (0))) rfl) (ah (aa (aI (bI (v := (.int .i64 (0))) Tryz.results129 rfl ?_)))))))))))
 obtain rfl := Option.some.inj hs
 exact ⟨h.grown, rfl⟩
def jV (N : Nat) (a : List dQ) (rf : dQ) (s : Unit) (wz : Unit → Option Int) : Option Int :=
  (kX N rf.body 4).bind fun kG => bif (!kG.2) then some 2 else (ig N rf.body a rf.locals).bind fun R9 => bif decide ((R9 : Int) ≠ 0) then some R9 else wz ()
def jW (s : Unit) : Option Int :=
  some 0
def jX (i4 : Int) (x5 : dQ) (s : Unit) (nx7 : Unit → Option Int) : Option Int :=
  bif (((!(aR x5.params 0 3)) || (!(aR x5.locals x5.params 6))) || (decide ((i4 : Int) = 0) && decide ((x5.params : Int) ≠ 0))) then some 3 else nx7 ()
def jY (N : Nat) (a : List dQ) (s : Unit) : Option Int :=
  each (jV N a) jW a ()
def qb (N : Nat) (a : List dQ) : Option Int :=
  bif (!(aR (a.length : Int) 1 4)) then some 2 else eX jX (jY N a) 0 a ()
theorem u7 (N : Nat) (w0 : World) (M : BS) (hM : ∀ b, M b → b < w0.heap.size) (va : Value) (a : List dQ) (ha : eZ gQ w0 BE M va a) (r : Int) (hs : qb N a = some r) :
    Calls Tryz.prog 112 #[va] w0 (fun e w' => Grow w0 w' ∧ e = .returned (.int .i64 r)) := by
 refine aK (args := [va]) Tryz.func112 rfl Tryz.ntmps112 (Nat.le_of_ble_eq_true rfl) ?_
 have h := SH.init hM
 replace h := h.dU 1 ha aW
 have tC := ha.bL
 refine ai (ag (ae (aj (v := (.int .i64 (0))) rfl) (ah (aa (ai (ai (ag (ae (ak (v := va) rfl) (ae (bF gK rfl (h.fV 1 rfl)) (aO vH rfl rfl (fE _ _ h.lt (a.length : Int) 1 4 _ rfl) ?_))))))))))
 rintro _ w ⟨k1, rfl⟩
 refine ⟨_, rfl, ?_⟩
 replace h := h.grow k1
 refine ae (fZ rfl) (ah (aa (aJ hs rfl (fun c2 hs => ?_) (fun c2 hs => ?_))))
 refine ai (ag (ae (aj (v := (.int .i64 (2))) rfl) (ah (aa (aI (aB (bI (v := (.int .i64 (2))) Tryz.results112 rfl ?_)))))))
 obtain rfl := Option.some.inj hs
 exact ⟨h.grown, rfl⟩
 refine aD (aa (ai (ai (ag (ae (ak (v := va) rfl) (ae (bF gK rfl (h.fV 1 rfl)) (ae (ak (v := (.int .i64 (0))) rfl) (ah (aa (aL (fq (σ := Nat × Int) (inl [2, 3, 4, 16, 17, 18, 19, 20, 21, 22, 23, 24, 25, 26, 27, 28, 29, 30, 31, 32, 33, 34, 35, 36, 37, 38, 39, 40, 41, 42]) (fun ⟨k3, i4⟩ => [(16, (.int .i64 (i4)))]) (fun ⟨k3, i4⟩ w => SH w0 M BE w (hset [(1, .sr gQ va a)]) ∧ i4 = (k3 : Int) ∧ eX jX (jY N a) i4 (a.drop k3) () = some r) (fun ⟨k3, i4⟩ => a.length - k3) ⟨0, 0⟩ ⟨rfl, trivial⟩ ?_ ?_)))))))))))
 exact ⟨h.cn _, rfl, hs⟩
 rintro ⟨k3, i4⟩ w dm ⟨h, hik, hs⟩
 refine ai (ag ?_)
 refine ae (dA rfl rfl) (ah (aa ?_))
 refine ai (gH rfl (fun e8 => ?_) (fun e8 => ?_))
 refine aD (aa ?_)
 obtain ⟨x5, e9a, e9b⟩ := fJ (hik ▸ e8)
 rw [e9b, jc] at hs
 generalize YR : eX jX (jY N a) (i4 + 1) (a.drop (k3 + 1)) = nx7 at hs
 have e9r := fO ((h.fV 1 rfl)).bL hik e8
 refine ai (aL (ai (ag (ae (ak (v := (.int .i64 (i4))) rfl) ?_))))
 obtain ⟨b11, o12, YS, h, YT, i10⟩ := h.wZ 1 2 rfl gK rfl (gZ hik) (fM hik e9a)
 obtain ⟨Ay, rfl, g16⟩ := p8 YT
 replace h := h.bG 3 g16.up
 refine ae (i10 _ _ _ _ _ _ _ _ _ rfl rfl) (ae (iF (k := 0) (vs := [(.int .i64 (x5.params)), (.int .i64 (x5.locals)), Ay]) h 2 rfl kF rfl rfl rfl (Nat.le_of_ble_eq_true rfl)) (bP h 4 kF fun w b17 h => ae (aj (v := (.int .i64 (i4))) rfl) (dV (vs := [(.int .i64 (x5.params)), (.int .i64 (x5.locals)), Ay]) h 4 [(.int .i64 (x5.params)), (.int .i64 (x5.locals)), Ay] rfl kF rfl rfl rfl rfl rfl (ax rfl (ax rfl (ax (h.fu 3 rfl).one bA))) fun w h => ah (aa (ai (ag (ae (au r9 rfl) (ae (aF h 4 rfl aV rfl rfl) (aO vH rfl rfl (fE _ _ h.lt x5.params 0 3 _ rfl) ?_)))))))))
 rintro _ w ⟨k18, rfl⟩
 refine ⟨_, rfl, ?_⟩
 replace h := h.grow k18
 refine ae (fZ rfl) (ae (ak (v := (.bool ((!(aR x5.params 0 3))))) rfl) (aC rfl rfl (fun q => au vX rfl) (aC rfl rfl (fun q => aF h 4 rfl aV (cO q) rfl) (aC rfl rfl (fun q => au r9 rfl) (aC rfl rfl (fun q => aF h 4 rfl aV (cO q) rfl) (Iu rfl rfl vH rfl (fun q => kC (cO q) (kC (cO q) (kC rfl rfl))) (fE _ _ h.lt x5.locals x5.params 6 _ rfl) fun w k19 => ?_))))))
 replace h := h.grow k19
 refine aC rfl rfl (fun q => fZ (cO q)) (ae (gM rfl rfl mR) (ae (ak (v := (.bool (((!(aR x5.params 0 3)) || (!(aR x5.locals x5.params 6)))))) rfl) (aC rfl rfl (fun q => ak (v := (.int .i64 (i4))) rfl) (aC rfl rfl (fun q => bM (cO q) rfl) (aC rfl rfl (fun q => ak (v := (.bool (decide ((i4 : Int) = 0)))) (cO q)) (lZ (((!(aR x5.params 0 3)) || (!(aR x5.locals x5.params 6))) == false) rfl rfl (fun q => au r9 rfl) (lZ (((!(aR x5.params 0 3)) || (!(aR x5.locals x5.params 6))) == false) rfl rfl (fun q => aF h 4 rfl aV (cO q) rfl) (lZ (((!(aR x5.params 0 3)) || (!(aR x5.locals x5.params 6))) == false) rfl rfl (fun q => iH (cO q) rfl) (aC rfl rfl (fun q => gJ (cO q) (NL q) mR) (ae (gM rfl rfl mR) (ah (aa (aJ hs rfl (fun c20 hs => ?_) (fun c20 hs => ?_))))))))))))))
 refine ai (ag (ae (aj (v := (.int .i64 (3))) rfl) (ah (aa (aI (aG (aB (aB (aG (aB (bI (v := (.int .i64 (3))) Tryz.results112 rfl ?_)))))))))))
 obtain rfl := Option.some.inj hs
 exact ⟨h.grown, rfl⟩
 refine aD (az (aa (ag (ae (bY rfl rfl e9r) (ae (ak (v := (.int .i64 ((i4 + 1)))) rfl) (ah (ay ?_)))))))
 subst YR
 exact iQ ⟨k3 + 1, i4 + 1⟩ ⟨h.cn _, by omega, hs⟩ (by have := of_decide_eq_true e8; dsimp only; omega)
 rw [fK (hik ▸ e8), ow] at hs
 refine bT (aH (aH (aT (aa (ai (ai (ag (ae (ak (v := va) rfl) (ae (bF gK rfl (h.fV 1 rfl)) (ae (ak (v := (.int .i64 (0))) rfl) (ah (aa (aL (fq (σ := Nat × Int) (inl [2, 6, 7, 8, 9, 45, 46, 47, 48, 49, 50, 51, 52, 53, 54, 55, 56, 57, 58, 59, 60, 61, 62, 63, 64, 65, 66]) (fun ⟨k21, i22⟩ => [(45, (.int .i64 (i22)))]) (fun ⟨k21, i22⟩ w => SH w0 M BE w (hset [(1, .sr gQ va a)]) ∧ i22 = (k21 : Int) ∧ each (jV N a) jW (a.drop k21) () = some r) (fun ⟨k21, i22⟩ => a.length - k21) ⟨0, 0⟩ ⟨rfl, trivial⟩ ?_ ?_))))))))))))))
 exact ⟨h.cn _, rfl, hs⟩
 rintro ⟨k21, i22⟩ w dm ⟨h, hik, hs⟩
 refine ai (ag ?_)
 refine ae (dA rfl rfl) (ah (aa ?_))
 refine ai (gH rfl (fun e26 => ?_) (fun e26 => ?_))
 refine aD (aa ?_)
 obtain ⟨rf, YU, YV⟩ := fJ (hik ▸ e26)
 rw [YV, df] at hs
 generalize OG : each (jV N a) jW (a.drop (k21 + 1)) = wz at hs
 have YW := fO ((h.fV 1 rfl)).bL hik e26
 refine ai (aL (ai (ag ?_)))
 obtain ⟨XQ, o30, cs31, h, r32, i28⟩ := h.wZ 1 5 rfl gK rfl (gZ hik) (fM hik YU)
 obtain ⟨u33, rfl, YX⟩ := p8 r32
 replace h := h.bG 6 YX.up
 refine ae (i28 _ _ _ _ _ _ _ _ _ rfl rfl) (ae (iF (k := 0) (vs := [(.int .i64 (rf.params)), (.int .i64 (rf.locals)), u33]) h 5 rfl kF rfl rfl rfl (Nat.le_of_ble_eq_true rfl)) (bP h 7 kF fun w b35 h => dV (vs := [(.int .i64 (rf.params)), (.int .i64 (rf.locals)), u33]) h 7 [(.int .i64 (rf.params)), (.int .i64 (rf.locals)), u33] rfl kF rfl rfl rfl rfl rfl (ax rfl (ax rfl (ax (h.fu 6 rfl).one bA))) fun w h => ah (aa (ai (ai (ag (ae (au yx rfl) (ae (aF h 7 rfl nu rfl rfl) ?_))))))))
 obtain ⟨kG, e37, hs⟩ := aM hs
 refine aO LB rfl rfl (zF N _ _ h.lt u33 rf.body (h.mU 6 rfl) 4 _ e37) ?_
 rintro _ w ⟨Rc, rfl⟩
 refine ⟨_, rfl, ?_⟩
 replace h := h.grow Rc
 refine ae (ak (v := (.tuple #[(.int .i64 (kG.1)), (.bool (kG.2))])) rfl) (ae (bC rfl rfl) (ae (bC rfl rfl) (ae (aj (v := (.int .i64 (kG.1))) rfl) (ae (aj (v := (.bool (kG.2))) rfl) (ah (aa (ai (ag (ae (ak (v := (.bool (kG.2))) rfl) (ae (fZ rfl) (ah (aa (aJ hs rfl (fun c39 hs => ?_) (fun c39 hs => ?_))))))))))))))
 refine ai (ag (ae (aj (v := (.int .i64 (2))) rfl) (ah (aa (aI (aB (aG (aB (aB (aG (aB (bI (v := (.int .i64 (2))) Tryz.results112 rfl ?_))))))))))))
 obtain rfl := Option.some.inj hs
 exact ⟨h.grown, rfl⟩
 refine aD (aa (ai (ag (ae (au yx rfl) (ae (aF h 7 rfl nu rfl rfl) (ae (ak (v := va) rfl) (ae (au vX rfl) (ae (aF h 7 rfl aV rfl rfl) ?_))))))))
 obtain ⟨R9, e41, hs⟩ := aM hs
 refine aO GZ rfl rfl (vJ N _ _ h.lt u33 rf.body (h.mU 6 rfl) va a (h.fV 1 rfl) rf.locals _ e41) ?_
 rintro _ w ⟨k42, rfl⟩
 refine ⟨_, rfl, ?_⟩
 replace h := h.grow k42
 refine ae (aj (v := (.int .i64 (R9))) rfl) (ah (aa (ai (ag (ae (ak (v := (.int .i64 (R9))) rfl) (ae (iH rfl rfl) (ah (aa (aJ hs rfl (fun YY hs => ?_) (fun YY hs => ?_))))))))))
 refine ai (ag (ae (ak (v := (.int .i64 (R9))) rfl) (ae (aj (v := (.int .i64 (R9))) rfl) (ah (aa (aI (aG (aB (aB (aG (aB (bI (v := (.int .i64 (R9))) Tryz.results112 rfl ?_))))))))))))
 obtain rfl := Option.some.inj hs
 exact ⟨h.grown, rfl⟩
 refine aD (az (aa (ag (ae (bY rfl rfl YW) (ae (ak (v := (.int .i64 ((i22 + 1)))) rfl) (ah (ay ?_)))))))
 subst OG
 exact iQ ⟨k21 + 1, i22 + 1⟩ ⟨h.cn _, by omega, hs⟩ (by have := of_decide_eq_true e26; dsimp only; omega)
 rw [fK (hik ▸ e26), fB] at hs
 refine bT (aH (aH (aT (aa (ai (ag (ae (aj (v := (.int .i64 (0))) rfl) (ah (aa (aI (bI (v := (.int .i64 (0))) Tryz.results112 rfl ?_)))))))))))
 obtain rfl := Option.some.inj hs
 exact ⟨h.grown, rfl⟩
theorem qA (w0 : World) (M : BS) (hM : ∀ b, M b → b < w0.heap.size) (hT : rY Tryz.prog 4 w0) (a : Int) (r : Str) (hs : FL a = some r) :
    Calls Tryz.prog 125 #[.int .i64 a] w0 (fun e w' => Grow w0 w' ∧ e = .returned (aP r)) :=
  Ta Tryz.strconv_Itoa hT hs
theorem wB (w0 : World) (M : BS) (hM : ∀ b, M b → b < w0.heap.size) (hT : rY Tryz.prog 4 w0) (a : Str) (r : List Str) (hs : AX a = some r) :
    Calls Tryz.prog 111 #[aP a] w0 (fun e w' => Grow w0 w' ∧ ∃ u, e = .returned u ∧ eB lY w' M u r) :=
  Oh Tryz.strings_Fields (q := 0) (by kernel_rfl) hM hT hs
def iE (a : Tok) : Option Str :=
  (FL a.n).bind fun y2 => bif decide ((a.kind : Int) = 2) then gG ([118].length + y2.length ≤ 9223372036854775807) (some ([118] ++ y2)) else bif decide ((a.kind : Int) = 3) then gG (jb (a.n + 1)) ((subs? [63, 43, 45, 42, 60, 61] a.n (a.n + 1)).bind fun x9 => some x9) else bif decide ((a.kind : Int) = 4) then gG ([46].length + y2.length ≤ 9223372036854775807) (some ([46] ++ y2)) else bif decide ((a.kind : Int) = 5) then gG ([110, 101, 119].length + y2.length ≤ 9223372036854775807) (some ([110, 101, 119] ++ y2)) else bif decide ((a.kind : Int) = 6) then gG ([102].length + y2.length ≤ 9223372036854775807) (some ([102] ++ y2)) else some y2
theorem nz (w0 : World) (M : BS) (hM : ∀ b, M b → b < w0.heap.size) (hT : rY Tryz.prog 4 w0) (a : Tok) (r : Str) (hs : iE a = some r) :
    Calls Tryz.prog 106 #[(.agg #[(.int .i64 (a.kind)), (.int .i64 (a.n))])] w0 (fun e w' => Grow w0 w' ∧ e = .returned (aP r)) := by
 refine aK (args := [(.agg #[(.int .i64 (a.kind)), (.int .i64 (a.n))])]) Tryz.func106 rfl Tryz.ntmps106 (Nat.le_of_ble_eq_true rfl) ?_
 have h := SH.init hM
 refine ai (ag (pX (cs := [(.int .i64 (a.kind)), (.int .i64 (a.n))]) h 1 rfl rfl fun w b1 h => ae (aj (v := (aP [])) rfl) (ah (aa (ai (ag (ae (au lJ rfl) (ae (aF h 1 rfl aV rfl rfl) ?_))))))))
 obtain ⟨y2, e3, hs⟩ := aM hs
 refine aO Dr rfl rfl (qA _ _ h.lt (hT.go h.keep) a.n _ e3) ?_
 rintro _ w ⟨k4, rfl⟩
 refine ⟨_, rfl, ?_⟩
 replace h := h.grow k4
 refine ae (aj (v := (aP y2)) rfl) (ah (aa (ai (ai (ag (ae (au A7 rfl) (ae (aF h 1 rfl aV rfl rfl) (ah (aa (aL (ai (ag (ae (bM rfl rfl) (ae (aj (v := (.bool (decide ((a.kind : Int) = 2)))) rfl) (ah (aa (aJ hs rfl (fun c5 hs => ?_) (fun c5 hs => ?_))))))))))))))))))
 refine ai (ag (ae (ak (v := (aP y2)) rfl) ?_))
 obtain ⟨a6, hs⟩ := aZ hs
 refine ae (kK rfl rfl a6) (ae (aj (v := (aP ([118] ++ y2))) rfl) (ah (aa (aI (aG (aB (bI (v := (aP ([118] ++ y2))) Tryz.results106 rfl ?_)))))))
 obtain rfl := Option.some.inj hs
 exact ⟨h.grown, rfl⟩
 refine ai (ag (ae (bM rfl rfl) (ae (aj (v := (.bool (decide ((a.kind : Int) = 3)))) rfl) (ah (aa (aJ hs rfl (fun c7 hs => ?_) (fun c7 hs => ?_)))))))
 refine ai (ag (ae (au lJ rfl) (ae (aF h 1 rfl aV rfl rfl) (ae (au lJ rfl) (ae (aF h 1 rfl aV rfl rfl) ?_)))))
 obtain ⟨a8, hs⟩ := aZ hs
 refine ae (bY rfl rfl a8) ?_
 obtain ⟨x9, e10, hs⟩ := aM hs
 obtain ⟨OH, OI, YZ, e11⟩ := J6 e10
 refine ae (J5 e11 Tryz.underlying9 rfl (.inr (congrArg some rfl)) (.inr (congrArg some rfl)) OH OI YZ) (ae (aj (v := (aP x9)) rfl) (ah (aa (aI (aG (aB (bI (v := (aP x9)) Tryz.results106 rfl ?_)))))))
 obtain rfl := Option.some.inj hs
 exact ⟨h.grown, rfl⟩
 refine ai (ag (ae (bM rfl rfl) (ae (aj (v := (.bool (decide ((a.kind : Int) = 4)))) rfl) (ah (aa (aJ hs rfl (fun c12 hs => ?_) (fun c12 hs => ?_)))))))
 refine ai (ag (ae (ak (v := (aP y2)) rfl) ?_))
 obtain ⟨a13, hs⟩ := aZ hs
 refine ae (kK rfl rfl a13) (ae (aj (v := (aP ([46] ++ y2))) rfl) (ah (aa (aI (aG (aB (bI (v := (aP ([46] ++ y2))) Tryz.results106 rfl ?_)))))))
 obtain rfl := Option.some.inj hs
 exact ⟨h.grown, rfl⟩
 refine ai (ag (ae (bM rfl rfl) (ae (aj (v := (.bool (decide ((a.kind : Int) = 5)))) rfl) (ah (aa (aJ hs rfl (fun c14 hs => ?_) (fun c14 hs => ?_)))))))
 refine ai (ag (ae (ak (v := (aP y2)) rfl) ?_))
 obtain ⟨a15, hs⟩ := aZ hs
 refine ae (kK rfl rfl a15) (ae (aj (v := (aP ([110, 101, 119] ++ y2))) rfl) (ah (aa (aI (aG (aB (bI (v := (aP ([110, 101, 119] ++ y2))) Tryz.results106 rfl ?_)))))))
 obtain rfl := Option.some.inj hs
 exact ⟨h.grown, rfl⟩
 refine ai (ag (ae (bM rfl rfl) (ae (aj (v := (.bool (decide ((a.kind : Int) = 6)))) rfl) (ah (aa (aJ hs rfl (fun c16 hs => ?_) (fun c16 hs => ?_)))))))
 refine ai (ag (ae (ak (v := (aP y2)) rfl) ?_))
 obtain ⟨a17, hs⟩ := aZ hs
 refine ae (kK rfl rfl a17) (ae (aj (v := (aP ([102] ++ y2))) rfl) (ah (aa (aI (aG (aB (bI (v := (aP ([102] ++ y2))) Tryz.results106 rfl ?_)))))))
 obtain rfl := Option.some.inj hs
 exact ⟨h.grown, rfl⟩
 refine aD (az (aa (ai (ag (ae (ak (v := (aP y2)) rfl) (ae (aj (v := (aP y2)) rfl) (ah (aa (aI (bI (v := (aP y2)) Tryz.results106 rfl ?_))))))))))
 obtain rfl := Option.some.inj hs
 exact ⟨h.grown, rfl⟩
def lL (x7 : Tok) (x4 : Str) (Dt : Str → Option Str) : Option Str :=
  (iE x7).bind fun EZ => gG ([32].length + EZ.length ≤ 9223372036854775807) (gG (x4.length + ([32] ++ EZ).length ≤ 9223372036854775807) (Dt (x4 ++ ([32] ++ EZ))))
def lM (x4 : Str) : Option Str :=
  some x4
def nQ (a : List Tok) : Option Str :=
  each lL lM a []
theorem qB (w0 : World) (M : BS) (hM : ∀ b, M b → b < w0.heap.size) (hT : rY Tryz.prog 4 w0) (va : Value) (a : List Tok) (ha : eZ jo w0 BE M va a) (r : Str) (hs : nQ a = some r) :
    Calls Tryz.prog 147 #[va] w0 (fun e w' => Grow w0 w' ∧ e = .returned (aP r)) := by
 refine aK (args := [va]) Tryz.func147 rfl Tryz.ntmps147 (Nat.le_of_ble_eq_true rfl) ?_
 have h := SH.init hM
 replace h := h.dU 1 ha aW
 have tC := ha.bL
 refine ai (ag (ae (aj (v := (aP [])) rfl) (ah (aa (ai (ag (ae (aj (v := (aP [])) rfl) (ah (aa (ai (ai (ag (ae (ak (v := va) rfl) (ae (bF jd rfl (h.fV 1 rfl)) (ae (ak (v := (.int .i64 (0))) rfl) (ah (aa (aL (fq (σ := Nat × Int × Str) (inl [3, 5, 8, 9, 10, 11, 12, 13, 14, 15, 16, 17]) (fun ⟨k5, i6, x4⟩ => [(3, (aP x4)), (8, (.int .i64 (i6)))]) (fun ⟨k5, i6, x4⟩ w => SH w0 M BE w (hset [(1, .sr jo va a)]) ∧ i6 = (k5 : Int) ∧ each lL lM (a.drop k5) x4 = some r) (fun ⟨k5, i6, x4⟩ => a.length - k5) ⟨0, 0, []⟩ ⟨rfl, rfl, trivial⟩ ?_ ?_)))))))))))))))))))
 exact ⟨h.cn _, rfl, hs⟩
 rintro ⟨k5, i6, x4⟩ w dm ⟨h, hik, hs⟩
 refine ai (ag ?_)
 refine ae (dA rfl rfl) (ah (aa ?_))
 refine ai (gH rfl (fun e10 => ?_) (fun e10 => ?_))
 refine aD (aa ?_)
 obtain ⟨x7, OH, OI⟩ := fJ (hik ▸ e10)
 rw [OI, df] at hs
 generalize OJ : each lL lM (a.drop (k5 + 1)) = Dt at hs
 have OL := fO ((h.fV 1 rfl)).bL hik e10
 refine ai (aL (ai (ag ?_)))
 obtain ⟨b13, o14, cs15, h, r16, i12⟩ := h.wZ 1 2 rfl jd rfl (gZ hik) (fM hik OH)
 obtain rfl := r16
 refine ae (i12 _ _ _ _ _ _ _ _ _ rfl rfl) (ae (iF (k := 0) (vs := [(.int .i64 (x7.kind)), (.int .i64 (x7.n))]) h 2 rfl iZ rfl rfl rfl (Nat.le_of_ble_eq_true rfl)) (bP h 3 iZ fun w b17 h => dV (vs := [(.int .i64 (x7.kind)), (.int .i64 (x7.n))]) h 3 [(.int .i64 (x7.kind)), (.int .i64 (x7.n))] rfl iZ rfl rfl rfl rfl rfl (ax rfl (ax rfl bA)) fun w h => ah (aa (ag (ae (ak (v := (aP x4)) rfl) (ae (fA (vs := [(.int .i64 (x7.kind)), (.int .i64 (x7.n))]) h 3 rfl iZ rfl rfl rfl) ?_))))))
 obtain ⟨EZ, e19, hs⟩ := aM hs
 refine aO GV rfl rfl (nz _ _ h.lt (hT.go h.keep) x7 _ e19) ?_
 rintro _ w ⟨k20, rfl⟩
 refine ⟨_, rfl, ?_⟩
 replace h := h.grow k20
 obtain ⟨a21, hs⟩ := aZ hs
 refine ae (kK rfl rfl a21) ?_
 obtain ⟨a22, hs⟩ := aZ hs
 refine ae (kK rfl rfl a22) (ae (aj (v := (aP (x4 ++ ([32] ++ EZ)))) rfl) (ah (az (aa (ag (ae (bY rfl rfl OL) (ae (ak (v := (.int .i64 ((i6 + 1)))) rfl) (ah (ay ?_)))))))))
 subst OJ
 exact iQ ⟨k5 + 1, i6 + 1, (x4 ++ ([32] ++ EZ))⟩ ⟨h.cn _, by omega, hs⟩ (by have := of_decide_eq_true e10; dsimp only; omega)
 rw [fK (hik ▸ e10), fB] at hs
 refine bT (aH (aH (aT (aa (ai (ag (ae (ak (v := (aP x4)) rfl) (ae (aj (v := (aP x4)) rfl) (ah (aa (aI (bI (v := (aP x4)) Tryz.results147 rfl ?_))))))))))))
 obtain rfl := Option.some.inj hs
 exact ⟨h.grown, rfl⟩
def kL (Dt : Str → Option Str) (Ig : Str) : Option Str :=
  Dt Ig
def kM (F0 : List aU → Option Str) (x7 : aU) (Dt : Str → Option Str) (x34 : Str) : Option Str :=
  bif decide ((x7.kind : Int) = 6) then (F0 x7.b).bind fun kG => gG ([32].length + kG.length ≤ 9223372036854775807) (gG (x34.length + ([32] ++ kG).length ≤ 9223372036854775807) (kL Dt (x34 ++ ([32] ++ kG)))) else kL Dt x34
def kN (F0 : List aU → Option Str) (x7 : aU) (a : List aU) (Dt : Str → Option Str) (x30 : Str) : Option Str :=
  (nQ x7.e).bind fun nR => (nQ x7.f).bind fun nS => gG (nR.length + nS.length ≤ 9223372036854775807) (gG (x30.length + (nR ++ nS).length ≤ 9223372036854775807) (bif (decide ((x7.kind : Int) = 6) || decide ((x7.kind : Int) = 7)) then (F0 x7.a).bind fun nA => gG ([32].length + nA.length ≤ 9223372036854775807) (gG ((x30 ++ (nR ++ nS)).length + ([32] ++ nA).length ≤ 9223372036854775807) (kM F0 x7 Dt ((x30 ++ (nR ++ nS)) ++ ([32] ++ nA)))) else kM F0 x7 Dt (x30 ++ (nR ++ nS))))
def kP (F0 : List aU → Option Str) (a : List aU) (x7 : aU) (x4 : Str) (Dt : Str → Option Str) : Option Str :=
  gG (jb (x7.kind - 1)) ((AX [115, 101, 116, 32, 112, 117, 116, 32, 115, 97, 121, 32, 112, 97, 117, 115, 101, 32, 103, 111, 32, 105, 102, 32, 119, 104, 105, 108, 101, 32, 114, 101, 116, 117, 114, 110]).bind fun IY => (idx IY (x7.kind - 1)).bind fun nT => gG ([32].length + nT.length ≤ 9223372036854775807) (gG (x4.length + ([32] ++ nT).length ≤ 9223372036854775807) (bif decide ((x7.kind : Int) ≤ 2) then (FL x7.n).bind fun wU => gG ([32].length + wU.length ≤ 9223372036854775807) (gG ((x4 ++ ([32] ++ nT)).length + ([32] ++ wU).length ≤ 9223372036854775807) (kN F0 x7 a Dt ((x4 ++ ([32] ++ nT)) ++ ([32] ++ wU)))) else kN F0 x7 a Dt (x4 ++ ([32] ++ nT)))))
def kQ (x4 : Str) : Option Str :=
  gG (x4.length + [32, 125].length ≤ 9223372036854775807) (some (x4 ++ [32, 125]))
def qc (F0 : List aU → Option Str) (a : List aU) : Option Str :=
  each (kP F0 a) kQ a [123]
def iI : Nat → List aU → Option Str
  | 0 => fun _ => none
  | N + 1 => qc (iI N)
theorem wC : ∀ (N : Nat) (w0 : World) (M : BS) (hM : ∀ b, M b → b < w0.heap.size) (hT : rY Tryz.prog 4 w0) (va : Value) (a : List aU) (ha : eZ dM w0 BE M va a) (r : Str) (hs : iI N a = some r),
    Calls Tryz.prog 130 #[va] w0 (fun e w' => Grow w0 w' ∧ e = .returned (aP r)) := by
 intro N
 induction N with
 | zero => intro w0 M hM hT va a ha r hs; cases hs
 | succ N ih =>
 intro w0 M hM hT va a ha r hs
 replace hs : qc (iI N) a = some r := hs
 generalize iI N = F0 at hs ih
 refine aK (args := [va]) Tryz.func130 rfl Tryz.ntmps130 (Nat.le_of_ble_eq_true rfl) ?_
 have h := SH.init hM
 replace h := h.dU 1 ha aW
 have tC := ha.bL
 refine ai (ag (ae (aj (v := (aP [])) rfl) (ah (aa (ai (ag (ae (aj (v := (aP [123])) rfl) (ah (aa (ai (ai (ag (ae (ak (v := va) rfl) (ae (bF jG rfl (h.fV 1 rfl)) (ae (ak (v := (.int .i64 (0))) rfl) (ah (aa (aL (fq (σ := Nat × Int × Str) (inl [3, 5, 8, 9, 10, 11, 12, 13, 14, 15, 16, 17, 18, 19, 20, 21, 22, 23, 24, 25, 26, 27, 28, 29, 30, 31, 32, 33, 34, 35, 36, 37, 38, 39, 40, 41, 42, 43, 44, 45, 46, 47, 48, 49, 50, 51, 52, 53, 54, 55, 56, 57, 58, 59, 60, 61, 62]) (fun ⟨k5, i6, x4⟩ => [(3, (aP x4)), (8, (.int .i64 (i6)))]) (fun ⟨k5, i6, x4⟩ w => SH w0 M BE w (hset [(1, .sr dM va a)]) ∧ i6 = (k5 : Int) ∧ each (kP F0 a) kQ (a.drop k5) x4 = some r) (fun ⟨k5, i6, x4⟩ => a.length - k5) ⟨0, 0, [123]⟩ ⟨rfl, rfl, trivial⟩ ?_ ?_)))))))))))))))))))
 exact ⟨h.cn _, rfl, hs⟩
 rintro ⟨k5, i6, x4⟩ w dm ⟨h, hik, hs⟩
 refine ai (ag ?_)
 refine ae (dA rfl rfl) (ah (aa ?_))
 refine ai (gH rfl (fun e10 => ?_) (fun e10 => ?_))
 refine aD (aa ?_)
 obtain ⟨x7, OH, OI⟩ := fJ (hik ▸ e10)
 rw [OI, df] at hs
 generalize OJ : each (kP F0 a) kQ (a.drop (k5 + 1)) = Dt at hs
 have OL := fO ((h.fV 1 rfl)).bL hik e10
 refine bU (σ := Str) (inl [3, 5, 10, 11, 12, 13, 14, 15, 16, 17, 18, 19, 20, 21, 22, 23, 24, 25, 26, 27, 28, 29, 30, 31, 32, 33, 34, 35, 36, 37, 38, 39, 40, 41, 42, 43, 44, 45, 46, 47, 48, 49, 50, 51, 52, 53, 54, 55, 56, 57, 58, 59, 60, 61]) (fun Ig => [(3, (aP Ig))]) (fun Ig w => SH w0 M BE w (hset [(1, .sr dM va a)]) ∧ kL Dt Ig = some r) ?_ ?_
 rintro Ig w dm ⟨h, hs⟩
 refine ag (ae (bY rfl rfl OL) (ae (ak (v := (.int .i64 ((i6 + 1)))) rfl) (ah (ay ?_))))
 subst OJ
 exact iQ ⟨k5 + 1, i6 + 1, Ig⟩ ⟨h.cn _, by omega, hs⟩ (by have := of_decide_eq_true e10; dsimp only; omega)
 refine aL (ai (ag ?_))
 obtain ⟨b14, o15, Yi, h, Yj, i13⟩ := h.wZ 1 2 rfl jG rfl (gZ hik) (fM hik OH)
 obtain ⟨Nu, u20, u22, u24, rfl, g19, g21, g23, TN⟩ := xc Yj
 replace h := h.bG 3 g19.up
 replace h := h.bG 4 g21.up.up
 replace h := h.bG 5 g23.up.up.up
 replace h := h.bG 6 TN.up.up.up.up
 refine ae (i13 _ _ _ _ _ _ _ _ _ rfl rfl) (ae (iF (k := 0) (vs := [(.int .i64 (x7.kind)), (.int .i64 (x7.n)), Nu, u20, u22, u24]) h 2 rfl mh rfl rfl rfl (Nat.le_of_ble_eq_true rfl)) (bP h 7 mh fun w U5 h => dV (vs := [(.int .i64 (x7.kind)), (.int .i64 (x7.n)), Nu, u20, u22, u24]) h 7 [(.int .i64 (x7.kind)), (.int .i64 (x7.n)), Nu, u20, u22, u24] rfl mh rfl rfl rfl rfl rfl (ax rfl (ax rfl (ax (h.fu 3 rfl).one (ax (h.fu 4 rfl).one (ax (h.fu 5 rfl).one (ax (h.fu 6 rfl).one bA)))))) fun w h => ah (aa (ai (Dm mixed h fun w h => jA 0 (aQ.refl BE _) rfl aA (by kernel_rfl) (by kernel_rfl) (by kernel_rfl) (fun w hk => ak (v := (aP x4)) rfl) (jA 2 (aQ.refl BE _) rfl aA (by kernel_rfl) (by kernel_rfl) (by kernel_rfl) (fun w hk => au iV rfl) (jA 3 (aQ.refl BE _) rfl aA (by kernel_rfl) (by kernel_rfl) (by kernel_rfl) (fun w hk => have h := h.grow hk; aF h 7 rfl aV rfl rfl) ?_)))))))
 obtain ⟨D9, hs⟩ := aZ hs
 refine jA 4 (aQ.refl BE _) rfl aA (by kernel_rfl) (by kernel_rfl) (by kernel_rfl) (fun w hk => rT rfl rfl D9) ?_
 obtain ⟨OM, IZ⟩ : ∃ x, x = w := ⟨_, rfl⟩
 have qj : Grow OM w := IZ ▸ aQ.refl BE w
 refine Ll IZ.symm (w9 1 (by kernel_rfl) rfl aA ?_)
 obtain ⟨IY, OO, hs⟩ := aM hs
 refine aO LA rfl rfl (wB _ _ h.lt (hT.go h.keep) [115, 101, 116, 32, 112, 117, 116, 32, 115, 97, 121, 32, 112, 97, 117, 115, 101, 32, 103, 111, 32, 105, 102, 32, 119, 104, 105, 108, 101, 32, 114, 101, 116, 117, 114, 110] _ OO) ?_
 rintro _ w ⟨I1, VS, rfl, OP⟩
 refine ⟨_, rfl, ?_⟩
 replace h := h.AJ 20 I1 OP
 replace qj := qj.trans I1
 refine ah (uj qj ?_)
 obtain ⟨nT, I4, hs⟩ := aM hs
 obtain ⟨VT, VU, U9, h, OQ, OT⟩ := h.FD 20 68 rfl dN rfl (aX I4).1 (aX I4).2
 obtain rfl := OQ
 refine jA 5 qj rfl aA (by kernel_rfl) (by kernel_rfl) (by kernel_rfl) (fun w hk => OT _ _ _ _ _ _ _ _ _ rfl rfl) (QB qj ?_)
 obtain ⟨ME, Kj⟩ : ∃ x, x = w := ⟨_, rfl⟩
 have Va : Grow ME w := Kj ▸ aQ.refl _ _
 refine jA 6 (aQ.refl BE _) rfl aA (by kernel_rfl) (by kernel_rfl) (by kernel_rfl) (fun w hk => have h := h.grow hk; ed (k := 0) h 68 rfl wu rfl rfl) ?_
 obtain ⟨OU, hs⟩ := aZ hs
 refine jA 7 (aQ.refl BE _) rfl aA (by kernel_rfl) (by kernel_rfl) (by kernel_rfl) (fun w hk => kK rfl rfl OU) ?_
 obtain ⟨OV, hs⟩ := aZ hs
 refine jA 8 (aQ.refl BE _) rfl aA (by kernel_rfl) (by kernel_rfl) (by kernel_rfl) (fun w hk => kK rfl rfl OV) (jA 9 (aQ.refl BE _) rfl aA (by kernel_rfl) (by kernel_rfl) (by kernel_rfl) (fun w hk => aj (v := (aP (x4 ++ ([32] ++ nT)))) rfl) (AR (by kernel_rfl) (aa (bU (σ := Str) (inl [3, 21, 22, 23, 24, 25, 26, 27, 28, 29]) (fun x30 => [(3, (aP x30))]) (fun x30 w => SH w0 M BE w (hset [(1, .sr dM va a), (3, .rd jo Nu x7.e), (4, .rd jo u20 x7.f), (5, .rd dM u22 x7.a), (6, .rd dM u24 x7.b), (7, .blk U5 [(.int .i64 (x7.kind)), (.int .i64 (x7.n)), Nu, u20, u22, u24])]) ∧ kN F0 x7 a Dt x30 = some r) ?_ ?_))))
 rintro x30 w dm ⟨h, hs⟩
 refine ai (Dm mixed h fun w h => jA 0 (aQ.refl BE _) rfl aA (by kernel_rfl) (by kernel_rfl) (by kernel_rfl) (fun w hk => ak (v := (aP x30)) rfl) (jA 1 (aQ.refl BE _) rfl aA (by kernel_rfl) (by kernel_rfl) (by kernel_rfl) (fun w hk => au vY rfl) (jA 2 (aQ.refl BE _) rfl aA (by kernel_rfl) (by kernel_rfl) (by kernel_rfl) (fun w hk => have h := h.grow hk; aF h 7 rfl uM rfl rfl) (jA 4 (aQ.refl BE _) rfl aA (by kernel_rfl) (by kernel_rfl) (by kernel_rfl) (fun w hk => au yz rfl) (jA 5 (aQ.refl BE _) rfl aA (by kernel_rfl) (by kernel_rfl) (by kernel_rfl) (fun w hk => have h := h.grow hk; aF h 7 rfl uM rfl rfl) ?_)))))
 obtain ⟨Kk, I5⟩ : ∃ x, x = w := ⟨_, rfl⟩
 have lD : Grow Kk w := I5 ▸ aQ.refl BE w
 refine Ll I5.symm (w9 3 (by kernel_rfl) rfl aA ?_)
 obtain ⟨nR, OW, hs⟩ := aM hs
 refine aO LD rfl rfl (qB _ _ h.lt (hT.go h.keep) Nu x7.e (h.mU 3 rfl) _ OW) ?_
 rintro _ w ⟨I6, rfl⟩
 refine ⟨_, rfl, ?_⟩
 replace h := h.grow I6
 replace lD := lD.trans I6
 refine ah (uj lD (w9 6 (by kernel_rfl) rfl aA ?_))
 obtain ⟨nS, OX, hs⟩ := aM hs
 refine aO LD rfl rfl (qB _ _ h.lt (hT.go h.keep) u20 x7.f (h.mU 4 rfl) _ OX) ?_
 rintro _ w ⟨I7, rfl⟩
 refine ⟨_, rfl, ?_⟩
 replace h := h.grow I7
 replace lD := lD.trans I7
 refine ah (uj lD ?_)
 obtain ⟨OY, hs⟩ := aZ hs
 refine jA 7 lD rfl aA (by kernel_rfl) (by kernel_rfl) (by kernel_rfl) (fun w hk => kK rfl rfl OY) ?_
 obtain ⟨OZ, hs⟩ := aZ hs
 refine jA 8 lD rfl aA (by kernel_rfl) (by kernel_rfl) (by kernel_rfl) (fun w hk => kK rfl rfl OZ) (jA 9 lD rfl aA (by kernel_rfl) (by kernel_rfl) (by kernel_rfl) (fun w hk => aj (v := (aP (x30 ++ (nR ++ nS)))) rfl) (AR (by kernel_rfl) (aa (bU (σ := Str) (inl [3, 39, 40, 41, 42, 43, 44, 45, 46, 47, 48, 49, 50, 51, 52]) (fun x34 => [(3, (aP x34))]) (fun x34 w => SH w0 M BE w (hset [(1, .sr dM va a), (3, .rd jo Nu x7.e), (4, .rd jo u20 x7.f), (5, .rd dM u22 x7.a), (6, .rd dM u24 x7.b), (7, .blk U5 [(.int .i64 (x7.kind)), (.int .i64 (x7.n)), Nu, u20, u22, u24])]) ∧ kM F0 x7 Dt x34 = some r) ?_ ?_))))
 rintro x34 w dm ⟨h, hs⟩
 refine ai (ag (ae (au iV rfl) (ae (aF h 7 rfl aV rfl rfl) (ae (bM rfl rfl) (ah (aa (aJ hs rfl (fun TW hs => ?_) (fun TW hs => ?_))))))))
 refine ag (ae (ak (v := (aP x34)) rfl) (ae (au wm rfl) (ae (aF h 7 rfl nu rfl rfl) ?_)))
 obtain ⟨kG, e37, hs⟩ := aM hs
 refine aO G5 rfl rfl (ih _ _ h.lt (hT.go h.keep) u24 x7.b (h.mU 6 rfl) _ e37) ?_
 rintro _ w ⟨Rc, rfl⟩
 refine ⟨_, rfl, ?_⟩
 replace h := h.grow Rc
 obtain ⟨a39, hs⟩ := aZ hs
 refine ae (kK rfl rfl a39) ?_
 obtain ⟨a40, hs⟩ := aZ hs
 refine ae (kK rfl rfl a40) (ae (aj (v := (aP (x34 ++ ([32] ++ kG)))) rfl) (ah (az (ay ?_))))
 exact bR (x34 ++ ([32] ++ kG)) ⟨h.cn _, hs⟩
 refine aD (az (ay ?_))
 exact bR x34 ⟨h.cn _, hs⟩
 refine ai (ag (ae (au iV rfl) (ae (aF h 7 rfl aV rfl rfl) (ae (bM rfl rfl) (ae (ak (v := (.bool (decide ((x7.kind : Int) = 6)))) rfl) (aC rfl rfl (fun q => au iV rfl) (aC rfl rfl (fun q => aF h 7 rfl aV (cO q) rfl) (aC rfl rfl (fun q => bM (cO q) rfl) (ae (gM rfl rfl mR) (ah (aa (aJ hs rfl (fun TT hs => ?_) (fun TT hs => ?_)))))))))))))
 refine ag (ae (ak (v := (aP (x30 ++ (nR ++ nS)))) rfl) (ae (au vZ rfl) (ae (aF h 7 rfl nu rfl rfl) ?_)))
 obtain ⟨nA, e43, hs⟩ := aM hs
 refine aO G5 rfl rfl (ih _ _ h.lt (hT.go h.keep) u22 x7.a (h.mU 5 rfl) _ e43) ?_
 rintro _ w ⟨k44, rfl⟩
 refine ⟨_, rfl, ?_⟩
 replace h := h.grow k44
 obtain ⟨a45, hs⟩ := aZ hs
 refine ae (kK rfl rfl a45) ?_
 obtain ⟨a46, hs⟩ := aZ hs
 refine ae (kK rfl rfl a46) (ae (aj (v := (aP ((x30 ++ (nR ++ nS)) ++ ([32] ++ nA)))) rfl) (ah (ay ?_)))
 exact bR ((x30 ++ (nR ++ nS)) ++ ([32] ++ nA)) ⟨h.cn _, hs⟩
 refine aD (ay ?_)
 exact bR (x30 ++ (nR ++ nS)) ⟨h.cn _, hs⟩
 refine ai (ag (ae (au iV rfl) (ae (aF h 7 rfl aV rfl rfl) (ae (CF rfl rfl) (ah (aa (aJ hs rfl (fun YN hs => ?_) (fun YN hs => ?_))))))))
 refine ag (ae (ak (v := (aP (x4 ++ ([32] ++ nT)))) rfl) (ae (au si rfl) (ae (aF h 7 rfl aV rfl rfl) ?_)))
 obtain ⟨wU, e49, hs⟩ := aM hs
 refine aO Dr rfl rfl (qA _ _ h.lt (hT.go h.keep) x7.n _ e49) ?_
 rintro _ w ⟨YO, rfl⟩
 refine ⟨_, rfl, ?_⟩
 replace h := h.grow YO
 obtain ⟨a51, hs⟩ := aZ hs
 refine ae (kK rfl rfl a51) ?_
 obtain ⟨a52, hs⟩ := aZ hs
 refine ae (kK rfl rfl a52) (ae (aj (v := (aP ((x4 ++ ([32] ++ nT)) ++ ([32] ++ wU)))) rfl) (ah (ay ?_)))
 exact bR ((x4 ++ ([32] ++ nT)) ++ ([32] ++ wU)) ⟨h.cn _, hs⟩
 refine aD (ay ?_)
 exact bR (x4 ++ ([32] ++ nT)) ⟨h.cn _, hs⟩
 rw [fK (hik ▸ e10), fB] at hs
 refine bT (aH (aH (aT (aa (ai (ag (ae (ak (v := (aP x4)) rfl) ?_)))))))
 obtain ⟨a53, hs⟩ := aZ hs
 refine ae (kK rfl rfl a53) (ae (aj (v := (aP (x4 ++ [32, 125]))) rfl) (ah (aa (aI (bI (v := (aP (x4 ++ [32, 125]))) Tryz.results130 rfl ?_)))))
 obtain rfl := Option.some.inj hs
 exact ⟨h.grown, rfl⟩
theorem Ea (w0 : World) (M : BS) (hM : ∀ b, M b → b < w0.heap.size) (va : Value) (a : List Str) (ha : eZ lY w0 BE M va a) (b : Str) (r : Str) (hs : NZ a b = some r) :
    Calls Tryz.prog 131 #[va, aP b] w0 (fun e w' => Grow w0 w' ∧ e = .returned (aP r)) :=
  Te Tryz.strings_Join_none Tryz.strings_Join ha hs
def kR (N : Nat) (dC : dQ) (x8 : List Str) (lq : List Str → Option Str) : Option Str :=
  (FL dC.params).bind fun mX => gG ([102, 117, 110, 32].length + mX.length ≤ 9223372036854775807) (gG (([102, 117, 110, 32] ++ mX).length + [32].length ≤ 9223372036854775807) ((FL dC.locals).bind fun o7 => gG ((([102, 117, 110, 32] ++ mX) ++ [32]).length + o7.length ≤ 9223372036854775807) (gG (((([102, 117, 110, 32] ++ mX) ++ [32]) ++ o7).length + [32].length ≤ 9223372036854775807) ((iI N dC.body).bind fun qd => gG ((((([102, 117, 110, 32] ++ mX) ++ [32]) ++ o7) ++ [32]).length + qd.length ≤ 9223372036854775807) (gG (Room 16 x8 [((((([102, 117, 110, 32] ++ mX) ++ [32]) ++ o7) ++ [32]) ++ qd)]) (lq (x8 ++ [((((([102, 117, 110, 32] ++ mX) ++ [32]) ++ o7) ++ [32]) ++ qd)])))))))
def kS (x8 : List Str) : Option Str :=
  (NZ x8 [32]).bind fun Du => some Du
def qC (N : Nat) (a : List dQ) : Option Str :=
  each (kR N) kS a []
theorem vK (N : Nat) (w0 : World) (M : BS) (hM : ∀ b, M b → b < w0.heap.size) (hT : rY Tryz.prog 4 w0) (va : Value) (a : List dQ) (ha : eZ gQ w0 BE M va a) (r : Str) (hs : qC N a = some r) :
    Calls Tryz.prog 113 #[va] w0 (fun e w' => Grow w0 w' ∧ e = .returned (aP r)) := by
 refine aK (args := [va]) Tryz.func113 rfl Tryz.ntmps113 (Nat.le_of_ble_eq_true rfl) ?_
 have h := SH.init hM
 replace h := h.dU 1 ha aW
 have tC := ha.bL
 refine ai (ag (ae (aj (v := (aP [])) rfl) (ah (aa (ai (ag (ae (aj (v := (.slice none 0 0)) rfl) (ah (aa (ai (ai (ag (ae (ak (v := va) rfl) (ae (bF gK rfl (h.fV 1 rfl)) (ae (ak (v := (.int .i64 (0))) rfl) (ah (aa (aL ?_))))))))))))))))))
 replace h := h.vG (R := lY) (E := 9) 5
 refine fq (σ := Nat × Int × Value × List Str) (inl [3, 5, 8, 9, 10, 11, 12, 13, 14, 15, 16, 17, 18, 19, 20, 21, 22, 23, 24, 25, 26, 27, 28, 29]) (fun ⟨k9, i10, v7, x8⟩ => [(3, v7), (8, (.int .i64 (i10)))]) (fun ⟨k9, i10, v7, x8⟩ w => SH w0 M BE w (hset [(1, .sr gQ va a), (5, .own lY 9 v7 x8)]) ∧ i10 = (k9 : Int) ∧ each (kR N) kS (a.drop k9) x8 = some r) (fun ⟨k9, i10, v7, x8⟩ => a.length - k9) ⟨0, 0, (.slice none 0 0), []⟩ ⟨rfl, rfl, trivial⟩ ?_ ?_
 exact ⟨h.cn _, rfl, hs⟩
 rintro ⟨k9, i10, v7, x8⟩ w dm ⟨h, hik, hs⟩
 refine ai (ag ?_)
 refine ae (dA rfl rfl) (ah (aa ?_))
 refine ai (gH rfl (fun e14 => ?_) (fun e14 => ?_))
 refine aD (aa ?_)
 obtain ⟨dC, G9, Ha⟩ := fJ (hik ▸ e14)
 rw [Ha, df] at hs
 generalize Bf : each (kR N) kS (a.drop (k9 + 1)) = lq at hs
 have Hd := fO ((h.fV 1 rfl)).bL hik e14
 refine ai (aL (ai (ag ?_)))
 obtain ⟨b17, XR, Re, h, O0, i16⟩ := h.wZ 1 6 rfl gK rfl (gZ hik) (fM hik G9)
 obtain ⟨u21, rfl, g22⟩ := p8 O0
 replace h := h.bG 7 g22.up
 refine ae (i16 _ _ _ _ _ _ _ _ _ rfl rfl) (ae (iF (k := 0) (vs := [(.int .i64 (dC.params)), (.int .i64 (dC.locals)), u21]) h 6 rfl kF rfl rfl rfl (Nat.le_of_ble_eq_true rfl)) (bP h 8 kF fun w zO h => dV (vs := [(.int .i64 (dC.params)), (.int .i64 (dC.locals)), u21]) h 8 [(.int .i64 (dC.params)), (.int .i64 (dC.locals)), u21] rfl kF rfl rfl rfl rfl rfl (ax rfl (ax rfl (ax (h.fu 7 rfl).one bA))) fun w h => ah (aa (rW (L := (ob v7)) mixed h fun w h => bJ 0 (aQ.refl _ _) rfl aA (by kernel_rfl) (by kernel_rfl) (by kernel_rfl) (fun w hk => ak (v := v7) rfl) (bJ 1 (aQ.refl _ _) rfl aA (by kernel_rfl) (by kernel_rfl) (by kernel_rfl) (fun w hk => au r9 rfl) (bJ 2 (aQ.refl _ _) rfl aA (by kernel_rfl) (by kernel_rfl) (by kernel_rfl) (fun w hk => have h := h.tX 5 rfl hk; aF h 8 rfl aV rfl rfl) (bJ 6 (aQ.refl _ _) rfl aA (by kernel_rfl) (by kernel_rfl) (by kernel_rfl) (fun w hk => au vX rfl) (bJ 7 (aQ.refl _ _) rfl aA (by kernel_rfl) (by kernel_rfl) (by kernel_rfl) (fun w hk => have h := h.tX 5 rfl hk; aF h 8 rfl aV rfl rfl) (bJ 11 (aQ.refl _ _) rfl aA (by kernel_rfl) (by kernel_rfl) (by kernel_rfl) (fun w hk => au yx rfl) (bJ 12 (aQ.refl _ _) rfl aA (by kernel_rfl) (by kernel_rfl) (by kernel_rfl) (fun w hk => have h := h.tX 5 rfl hk; aF h 8 rfl nu rfl rfl) ?_))))))))))
 obtain ⟨OM, IZ⟩ : ∃ x, x = w := ⟨_, rfl⟩
 have qj : aQ (ob v7) OM w := IZ ▸ aQ.refl (ob v7) w
 refine yj IZ.symm (bW 3 (by kernel_rfl) rfl aA ?_)
 obtain ⟨mX, O1, hs⟩ := aM hs
 refine aO Dr rfl rfl (qA _ _ h.lt (hT.go h.keep) dC.params _ O1) ?_
 rintro _ w ⟨I8, rfl⟩
 refine ⟨_, rfl, ?_⟩
 replace h := h.grow I8
 replace qj := qj.grow I8
 refine ah (aY qj ?_)
 obtain ⟨D9, hs⟩ := aZ hs
 refine bJ 4 qj rfl aA (by kernel_rfl) (by kernel_rfl) (by kernel_rfl) (fun w hk => kK rfl rfl D9) ?_
 obtain ⟨O3, hs⟩ := aZ hs
 refine bJ 5 qj rfl aA (by kernel_rfl) (by kernel_rfl) (by kernel_rfl) (fun w hk => kK rfl rfl O3) (bW 8 (by kernel_rfl) rfl aA ?_)
 obtain ⟨o7, O4, hs⟩ := aM hs
 refine aO Dr rfl rfl (qA _ _ h.lt (hT.go h.keep) dC.locals _ O4) ?_
 rintro _ w ⟨I9, rfl⟩
 refine ⟨_, rfl, ?_⟩
 replace h := h.grow I9
 replace qj := qj.grow I9
 refine ah (aY qj ?_)
 obtain ⟨O5, hs⟩ := aZ hs
 refine bJ 9 qj rfl aA (by kernel_rfl) (by kernel_rfl) (by kernel_rfl) (fun w hk => kK rfl rfl O5) ?_
 obtain ⟨MF, hs⟩ := aZ hs
 refine bJ 10 qj rfl aA (by kernel_rfl) (by kernel_rfl) (by kernel_rfl) (fun w hk => kK rfl rfl MF) (bW 13 (by kernel_rfl) rfl aA ?_)
 obtain ⟨qd, MG, hs⟩ := aM hs
 refine aO G5 rfl rfl (wC N _ _ h.lt (hT.go h.keep) u21 dC.body (h.mU 7 rfl) _ MG) ?_
 rintro _ w ⟨FV, rfl⟩
 refine ⟨_, rfl, ?_⟩
 replace h := h.grow FV
 replace qj := qj.grow FV
 refine ah (aY qj ?_)
 obtain ⟨MH, hs⟩ := aZ hs
 refine bJ 14 qj rfl aA (by kernel_rfl) (by kernel_rfl) (by kernel_rfl) (fun w hk => kK rfl rfl MH) (bW 15 (by kernel_rfl) rfl aA (zM (R := lY) (vs := [(aP ((((([102, 117, 110, 32] ++ mX) ++ [32]) ++ o7) ++ [32]) ++ qd))]) (xs := [((((([102, 117, 110, 32] ++ mX) ++ [32]) ++ o7) ++ [32]) ++ qd)]) h 189 FT rfl rfl rfl ⟨rfl, trivial⟩ rfl fun w MI h Kl Km => ?_))
 have TY : ∀ b, ob MI b → OM.heap.size ≤ b := fun b hb => Nat.le_trans qj.size (Km b hb)
 replace qj := qj.grow Kl
 refine ah (aY qj (bW 16 (by kernel_rfl) rfl aA ?_))
 obtain ⟨FW, hs⟩ := aZ hs
 have TZ := qj.size
 refine pF (R := lY) (m := [((((([102, 117, 110, 32] ++ mX) ++ [32]) ++ o7) ++ [32]) ++ qd)]) h 5 rfl (h.dJ 189 rfl) FT rfl rfl rfl FW.1 FW.2 fun w Cb h Kn Ko => ?_
 have T9 : ∀ b, ob Cb b → b < OM.heap.size → ob v7 b := fun b hb hl => Ko b hb (Nat.lt_of_lt_of_le hl (qj).size)
 replace qj := qj.same Kn
 refine ah (aY qj (bJ 17 qj rfl aA (by kernel_rfl) (by kernel_rfl) (by kernel_rfl) (fun w hk => aj (v := Cb) rfl) (jE (by kernel_rfl) (az (aa (ag (ae (bY rfl rfl Hd) (ae (ak (v := (.int .i64 ((i10 + 1)))) rfl) (ah (ay ?_))))))))))
 subst Bf
 exact iQ ⟨k9 + 1, i10 + 1, Cb, (x8 ++ [((((([102, 117, 110, 32] ++ mX) ++ [32]) ++ o7) ++ [32]) ++ qd)])⟩ ⟨h.cn _, by omega, hs⟩ (by have := of_decide_eq_true e14; dsimp only; omega)
 rw [fK (hik ▸ e14), fB] at hs
 refine bT (aH (aH (aT (aa (ai (ag (ae (ak (v := v7) rfl) ?_)))))))
 obtain ⟨Du, e31, hs⟩ := aM hs
 refine aO Q4 rfl rfl (Ea _ _ h.lt v7 x8 (h.dJ 5 rfl) [32] _ e31) ?_
 rintro _ w ⟨k32, rfl⟩
 refine ⟨_, rfl, ?_⟩
 replace h := h.grow k32
 refine ae (aj (v := (aP Du)) rfl) (ah (aa (aI (bI (v := (aP Du)) Tryz.results113 rfl ?_))))
 obtain rfl := Option.some.inj hs
 exact ⟨h.grown, rfl⟩
def stringslite_HasPrefix (a : Str) (b : Str) : Option Bool :=
  bif decide (((b.length : Int) : Int) ≤ (a.length : Int)) then (subs? a 0 (b.length : Int)).bind fun x2 => some (decide ((x2 : Str) = b)) else some false
theorem wD (w0 : World) (M : BS) (hM : ∀ b, M b → b < w0.heap.size) (a : Str) (b : Str) (r : Bool) (hs : stringslite_HasPrefix a b = some r) :
    Calls Tryz.prog 141 #[(aP a), (aP b)] w0 (fun e w' => Grow w0 w' ∧ e = .returned (.bool r)) := by
 refine aK (args := [(aP a), (aP b)]) Tryz.func141 rfl Tryz.ntmps141 (Nat.le_of_ble_eq_true rfl) ?_
 have h := SH.init hM
 refine ai (ag (ae (aj (v := (.bool (false))) rfl) (ah (aa (ai (ag (ae (ak (v := (aP a)) rfl) (ae (Gy Tryz.underlying9 rfl) (ae (ak (v := (aP b)) rfl) (ae (Gy Tryz.underlying9 rfl) (ae (oL rfl rfl) (ae (ak (v := (.bool (decide (((b.length : Int) : Int) ≤ (a.length : Int))))) rfl) (ma (b := decide (((b.length : Int) : Int) ≤ (a.length : Int))) hs (fun c1 hs => ?_) (fun c1 hs => ?_))))))))))))))
 refine dG rfl (congrArg Value.bool c1) (ae (ak (v := (aP a)) rfl) (dG rfl (congrArg Value.bool c1) (ae (ak (v := (aP b)) rfl) (dG rfl (congrArg Value.bool c1) (ae (Gy Tryz.underlying9 rfl) (dG rfl (congrArg Value.bool c1) ?_))))))
 obtain ⟨x2, e3, hs⟩ := aM hs
 obtain ⟨e4a, e4b, e4c, e4⟩ := J6 e3
 refine ae (J5 e4 Tryz.underlying9 rfl (.inl ⟨rfl, rfl⟩) (.inr (congrArg some rfl)) e4a e4b e4c) (dG rfl (congrArg Value.bool c1) (ae (ak (v := (aP b)) rfl) (dG rfl (congrArg Value.bool c1) (ae (BO rfl rfl) (ae (fw (b := true) (v := (.bool (decide ((x2 : Str) = b)))) (congrArg Value.bool c1) rfl) (ae (aj (v := (.bool (decide ((x2 : Str) = b)))) rfl) (ah (aa (aI (bI (v := (.bool (decide ((x2 : Str) = b)))) Tryz.results141 rfl ?_))))))))))
 obtain rfl := Option.some.inj hs
 exact ⟨h.grown, rfl⟩
 refine bH (b' := false) rfl (congrArg Value.bool c1) rfl (bH (b' := false) rfl (congrArg Value.bool c1) rfl (bH (b' := false) rfl (congrArg Value.bool c1) rfl (bH (b' := false) rfl (congrArg Value.bool c1) rfl (bH (b' := false) rfl (congrArg Value.bool c1) rfl (bH (b' := false) rfl (congrArg Value.bool c1) rfl (ae (fw (b := false) (v := (.bool (false))) (congrArg Value.bool c1) rfl) (ae (aj (v := (.bool (false))) rfl) (ah (aa (aI (bI (v := (.bool (false))) Tryz.results141 rfl ?_)))))))))))
 obtain rfl := Option.some.inj hs
 exact ⟨h.grown, rfl⟩
def stringslite_TrimPrefix (a : Str) (b : Str) : Option Str :=
  (stringslite_HasPrefix a b).bind fun y1 => bif y1 then (subs? a (b.length : Int) (a.length : Int)).bind fun x5 => some x5 else some a
theorem vL (w0 : World) (M : BS) (hM : ∀ b, M b → b < w0.heap.size) (a : Str) (b : Str) (r : Str) (hs : stringslite_TrimPrefix a b = some r) :
    Calls Tryz.prog 124 #[(aP a), (aP b)] w0 (fun e w' => Grow w0 w' ∧ e = .returned (aP r)) := by
 refine aK (args := [(aP a), (aP b)]) Tryz.func124 rfl Tryz.ntmps124 (Nat.le_of_ble_eq_true rfl) ?_
 have h := SH.init hM
 refine ai (ag (ae (aj (v := (aP [])) rfl) (ah (aa (ai (ai (ag (ae (ak (v := (aP a)) rfl) (ae (ak (v := (aP b)) rfl) ?_)))))))))
 obtain ⟨y1, e2, hs⟩ := aM hs
 refine aO Q5 rfl rfl (wD _ _ h.lt a b _ e2) ?_
 rintro _ w ⟨k3, rfl⟩
 refine ⟨_, rfl, ?_⟩
 replace h := h.grow k3
 refine ah (aa (aJ hs rfl (fun c4 hs => ?_) (fun c4 hs => ?_)))
 refine ai (ag (ae (ak (v := (aP a)) rfl) (ae (ak (v := (aP b)) rfl) (ae (Gy Tryz.underlying9 rfl) ?_))))
 obtain ⟨x5, e6, hs⟩ := aM hs
 obtain ⟨YG, YH, e7c, e7⟩ := J6 e6
 refine ae (J5 e7 Tryz.underlying9 rfl (.inr (congrArg some rfl)) (.inl ⟨rfl, rfl⟩) YG YH e7c) (ae (aj (v := (aP x5)) rfl) (ah (aa (aI (aB (bI (v := (aP x5)) Tryz.results124 rfl ?_))))))
 obtain rfl := Option.some.inj hs
 exact ⟨h.grown, rfl⟩
 refine aD (aa (ai (ag (ae (ak (v := (aP a)) rfl) (ae (aj (v := (aP a)) rfl) (ah (aa (aI (bI (v := (aP a)) Tryz.results124 rfl ?_)))))))))
 obtain rfl := Option.some.inj hs
 exact ⟨h.grown, rfl⟩
def strings_TrimPrefix (a : Str) (b : Str) : Option Str :=
  (stringslite_TrimPrefix a b).bind fun y1 => some y1
theorem yA (w0 : World) (M : BS) (hM : ∀ b, M b → b < w0.heap.size) (a : Str) (b : Str) (r : Str) (hs : strings_TrimPrefix a b = some r) :
    Calls Tryz.prog 105 #[(aP a), (aP b)] w0 (fun e w' => Grow w0 w' ∧ e = .returned (aP r)) := by
 refine aK (args := [(aP a), (aP b)]) Tryz.func105 rfl Tryz.ntmps105 (Nat.le_of_ble_eq_true rfl) ?_
 have h := SH.init hM
 refine ai (ag (ae (aj (v := (aP [])) rfl) (ah (aa (ai (ag (ae (ak (v := (aP a)) rfl) (ae (ak (v := (aP b)) rfl) ?_))))))))
 obtain ⟨y1, e2, hs⟩ := aM hs
 refine aO Q3 rfl rfl (vL _ _ h.lt a b _ e2) ?_
 rintro _ w ⟨k3, rfl⟩
 refine ⟨_, rfl, ?_⟩
 replace h := h.grow k3
 refine ae (aj (v := (aP y1)) rfl) (ah (aa (aI (bI (v := (aP y1)) Tryz.results105 rfl ?_))))
 obtain rfl := Option.some.inj hs
 exact ⟨h.grown, rfl⟩
def mE (a : List Str) (b : Str) (i2 : Int) (s : Unit) (Fg : Unit → Option Int) : Option Int :=
  (idx a i2).bind fun x8 => bif decide ((b : Str) = x8) then some i2 else Fg ()
def mF (s : Unit) : Option Int :=
  some (-1)
def slices_Index_string (a : List Str) (b : Str) : Option Int :=
  upto (mE a b) mF 0 ((a.length : Int)).toNat ()
theorem xU (w0 : World) (M : BS) (hM : ∀ b, M b → b < w0.heap.size) (va : Value) (a : List Str) (ha : eZ lY w0 BE M va a) (b : Str) (r : Int) (hs : slices_Index_string a b = some r) :
    Calls Tryz.prog 110 #[va, (aP b)] w0 (fun e w' => Grow w0 w' ∧ e = .returned (.int .i64 r)) := by
 refine aK (args := [va, (aP b)]) Tryz.func110 rfl Tryz.ntmps110 (Nat.le_of_ble_eq_true rfl) ?_
 have h := SH.init hM
 replace h := h.dU 1 ha aW
 have tC := ha.bL
 refine ai (ag (ae (aj (v := (.int .i64 (0))) rfl) (ah (aa (ai (ai (ag (ae (ak (v := va) rfl) (ae (bF dN rfl (h.fV 1 rfl)) (ae (ak (v := (.int .i64 (0))) rfl) (ah (aa (aL ?_)))))))))))))
 have Y0 := (h.fV 1 rfl).bL
 refine fq (σ := Nat × Int) (inl [4, 5, 8, 9, 10, 11, 12, 13, 14, 15, 16, 17, 18]) (fun ⟨k1, i2⟩ => [(8, (.int .i64 (i2)))]) (fun ⟨k1, i2⟩ w => SH w0 M BE w (hset [(1, .sr lY va a)]) ∧ i2 = (k1 : Int) ∧ upto (mE a b) mF i2 (((a.length : Int)).toNat - k1) () = some r) (fun ⟨k1, i2⟩ => ((a.length : Int)).toNat - k1) ⟨0, 0⟩ ⟨rfl, trivial⟩ ?_ ?_
 exact ⟨h.cn _, rfl, hs⟩
 rintro ⟨k1, i2⟩ w dm ⟨h, hik, hs⟩
 refine ai (ag ?_)
 refine ae (dA rfl rfl) (ah (aa ?_))
 refine ai (gH rfl (fun e6 => ?_) (fun e6 => ?_))
 refine aD (aa ?_)
 rw [pz (by have := of_decide_eq_true e6; omega)] at hs
 generalize TV : upto (mE a b) mF (i2 + 1) (((a.length : Int)).toNat - (k1 + 1)) = Fg at hs
 have YI : jb (i2 + 1) := (by have := of_decide_eq_true e6; have := Y0; exact jb.mk (by omega) (by omega))
 refine ai (aL (ai (ag (ae (ak (v := (.int .i64 (i2))) rfl) (ae (aj (v := (.int .i64 (i2))) rfl) (ah (aa (ai (ag (ae (ak (v := (aP b)) rfl) (ae (ak (v := va) rfl) (ae (ak (v := (.int .i64 (i2))) rfl) ?_))))))))))))
 obtain ⟨x8, e9, hs⟩ := aM hs
 obtain ⟨b11, o12, YS, h, YT, i10⟩ := h.wZ 1 2 rfl dN rfl (aX e9).1 (aX e9).2
 obtain rfl := YT
 refine ae (i10 _ _ _ _ _ _ _ _ _ rfl rfl) (ae (ed (k := 0) h 2 rfl wu rfl rfl) (ae (BO rfl rfl) (ah (aa (aJ hs rfl (fun c15 hs => ?_) (fun c15 hs => ?_))))))
 refine ai (ag (ae (ak (v := (.int .i64 (i2))) rfl) (ae (aj (v := (.int .i64 (i2))) rfl) (ah (aa (aI (aG (aB (aB (aG (aB (bI (v := (.int .i64 (i2))) Tryz.results110 rfl ?_))))))))))))
 obtain rfl := Option.some.inj hs
 exact ⟨h.grown, rfl⟩
 refine aD (az (aa (ag (ae (bY rfl rfl YI) (ae (ak (v := (.int .i64 ((i2 + 1)))) rfl) (ah (ay ?_)))))))
 subst TV
 exact iQ ⟨k1 + 1, i2 + 1⟩ ⟨h.cn _, by omega, hs⟩ (by have := of_decide_eq_true e6; dsimp only; omega)
 rw [pE (by have := of_decide_eq_false e6; omega)] at hs
 refine bT (aH (aH (aT (aa (ai (ag (ae (aj (v := (.int .i64 (-1))) rfl) (ah (aa (aI (bI (v := (.int .i64 (-1))) Tryz.results110 rfl ?_)))))))))))
 obtain rfl := Option.some.inj hs
 exact ⟨h.grown, rfl⟩
def xz (uZ : Int) (MJ : (Int × Int × Int) → Option (List Tok × dh)) (zm : Int) (Ih : Int) : Option (List Tok × dh) :=
  gG (jb (uZ + 1)) (MJ ((uZ + 1), zm, Ih))
def xA (x29 : Str) (zG : List Tok) (F : List dQ) (y31 : Int) (wV : Int) (wz : (List Tok × Int × Bool × Int) → Option (List Tok × dh)) (Du : Bool) (s : Int × Int × Int) (MJ : Int × Int × Int → Option (List Tok × dh)) : Option (List Tok × dh) :=
  match s with | (uZ, Dv, yB) => bif decide ((uZ : Int) ≤ 5) then (iE (⟨3, uZ⟩ : Tok)).bind fun y72 => bif decide ((y72 : Str) = x29) then xz uZ MJ 3 uZ else xz uZ MJ Dv yB else gG (Room 16 zG [(⟨Dv, yB⟩ : Tok)]) (bif (decide (((dK (⟨Dv, yB⟩ : Tok) F 6) : Int) ≠ 0) || decide ((24 : Int) < ((zG ++ [(⟨Dv, yB⟩ : Tok)]).length : Int))) then some ((zG ++ [(⟨Dv, yB⟩ : Tok)]), (⟨y31, false⟩ : dh)) else (oD (⟨Dv, yB⟩ : Tok) F).bind fun Sa => gG (jb (wV + Sa)) (gG (jb ((wV + Sa) - 1)) (wz ((zG ++ [(⟨Dv, yB⟩ : Tok)]), ((wV + Sa) - 1), Du, y31))))
def qD (tF : (Int × Str)) (Bg : Int × Bool) (Az : Int) (nA : Int) (Vb : Bool) : Option (Int × Int) :=
  bif Vb then some (tF.1, Bg.1) else some (Az, nA)
def mG (x29 : Str) (tF : (Int × Str)) (s : Int × Int) : Option (Int × Int) :=
  match s with | (Az, nA) => (strings_TrimPrefix x29 tF.2).bind fun He => (ym He).bind fun Bg => bif (!Bg.2) then (iE (⟨tF.1, Bg.1⟩ : Tok)).bind fun oQ => qD tF Bg Az nA (decide ((oQ : Str) = x29)) else qD tF Bg Az nA false
def Bh (N : Nat) (x29 : Str) (zG : List Tok) (F : List dQ) (y31 : Int) (wV : Int) (wz : (List Tok × Int × Bool × Int) → Option (List Tok × dh)) (Du : Bool) (s : Int × Int) : Option (List Tok × dh) :=
  match s with | (Az, nA) => again (xA x29 zG F y31 wV wz Du) N (1, Az, nA)
def qE (N : Nat) (zG : List Tok) (F : List dQ) (wV : Int) (wz : (List Tok × Int × Bool × Int) → Option (List Tok × dh)) (x29 : Str) (Du : Bool) (y31 : Int) : Option (List Tok × dh) :=
  (vo (mG x29) ([(2, [118]), (4, [46]), (5, [110, 101, 119]), (6, [102]), (1, [])] : List (Int × Str)) (0, 0)).bind fun Ja => (Bh N x29 zG F y31 wV wz Du) Ja
def qF (N : Nat) (W : List Str) (F : List dQ) (s : List Tok × Int × Bool × Int) (wz : List Tok × Int × Bool × Int → Option (List Tok × dh)) : Option (List Tok × dh) :=
  match s with | (zG, wV, Kq, y20) => bif (decide ((0 : Int) < wV) && Kq) then bif decide (((W.length : Int) : Int) ≤ y20) then qE N zG F wV wz [] false y20 else gG (jb (y20 + 1)) (gG (jb ((y20 + 1) - 1)) ((idx W ((y20 + 1) - 1)).bind fun x103 => qE N zG F wV wz x103 Kq (y20 + 1))) else some (zG, (⟨y20, Kq⟩ : dh))
def Bi (N : Nat) (sx : dh) (W : List Str) (F : List dQ) : Option (List Tok × dh) :=
  again (qF N W F) N ([], 1, sx.ok, sx.at_)
theorem FX (N : Nat) (w0 : World) (M : BS) (hM : ∀ b, M b → b < w0.heap.size) (hT : rY Tryz.prog 4 w0) (ba bo bw bwd bf : Nat) (sx : dh) (hC : Chunk.holds w0 M (Chunk.own' (.two (.blk ba [(.int .i64 (sx.at_))]) (.blk bo [(.bool (sx.ok))]) : Chunk)) (.two (.blk ba [(.int .i64 (sx.at_))]) (.blk bo [(.bool (sx.ok))]) : Chunk)) (hap : ∀ b, Chunk.own' (.two (.blk ba [(.int .i64 (sx.at_))]) (.blk bo [(.bool (sx.ok))]) : Chunk) b → ¬ M b) (vW : Value) (W : List Str) (VV : eB lY w0 (fun b => M b ∨ Chunk.own' (.two (.blk ba [(.int .i64 (sx.at_))]) (.blk bo [(.bool (sx.ok))]) : Chunk) b) vW W) (vF : Value) (F : List dQ) (VW : eZ gQ w0 (Chunk.own' (.two (.blk ba [(.int .i64 (sx.at_))]) (.blk bo [(.bool (sx.ok))]) : Chunk)) (fun b => M b ∨ Chunk.own' (.two (.blk ba [(.int .i64 (sx.at_))]) (.blk bo [(.bool (sx.ok))]) : Chunk) b) vF F) (hbw : ∃ E, w0.heap[bw]? = some (.cells #[vW] E (0, 0))) (O6 : ¬ Chunk.own' (.two (.blk ba [(.int .i64 (sx.at_))]) (.blk bo [(.bool (sx.ok))]) : Chunk) bw) (Hf : ∃ E, w0.heap[bwd]? = some (.cells #[(.func (.func 103) #[] #[(.pointer (some ⟨ba, 0, none⟩)), (.pointer (some ⟨bw, 0, none⟩)), (.pointer (some ⟨bo, 0, none⟩))])] E (0, 0))) (Eb : ¬ Chunk.own' (.two (.blk ba [(.int .i64 (sx.at_))]) (.blk bo [(.bool (sx.ok))]) : Chunk) bwd) (hbf : ∃ E, w0.heap[bf]? = some (.cells #[vF] E (0, 0))) (O7 : ¬ Chunk.own' (.two (.blk ba [(.int .i64 (sx.at_))]) (.blk bo [(.bool (sx.ok))]) : Chunk) bf) (hG : ∀ b, Chunk.own' (.two (.blk ba [(.int .i64 (sx.at_))]) (.blk bo [(.bool (sx.ok))]) : Chunk) b → Tryz.prog.globals.size ≤ b) (r : List Tok × dh) (hs : Bi N sx W F = some r) :
    Calls Tryz.prog 104 #[(.pointer (some ⟨bo, 0, none⟩)), (.pointer (some ⟨bwd, 0, none⟩)), (.pointer (some ⟨bf, 0, none⟩))] w0 (fun e w' => aQ (Chunk.own' (.two (.blk ba [(.int .i64 (sx.at_))]) (.blk bo [(.bool (sx.ok))]) : Chunk)) w0 w' ∧ ∃ u0, e = .returned (u0) ∧ Chunk.holds w' M (Chunk.own' (.two (.blk ba [.int .i64 r.2.at_]) (.blk bo [.bool r.2.ok]) : Chunk)) (.two (.blk ba [.int .i64 r.2.at_]) (.blk bo [.bool r.2.ok]) : Chunk) ∧ (∀ b, Chunk.own' (.two (.blk ba [.int .i64 r.2.at_]) (.blk bo [.bool r.2.ok]) : Chunk) b → b < w0.heap.size → Chunk.own' (.two (.blk ba [(.int .i64 (sx.at_))]) (.blk bo [(.bool (sx.ok))]) : Chunk) b) ∧ eB jo w' (fun b => M b ∨ Chunk.own' (.two (.blk ba [.int .i64 r.2.at_]) (.blk bo [.bool r.2.ok]) : Chunk) b) u0 r.1) := by
 refine aK (args := [(.pointer (some ⟨bo, 0, none⟩)), (.pointer (some ⟨bwd, 0, none⟩)), (.pointer (some ⟨bf, 0, none⟩))]) Tryz.func104 rfl Tryz.ntmps104 (Nat.le_of_ble_eq_true rfl) ?_
 have h := SH.DK hM hC hap
 replace h := h.BP 3 VV yt
 replace h := h.Oe 4 VW (rG yt)
 replace h := h.xh 5 (cs := [vW]) hbw O6 (vv (rG yt))
 replace h := h.xh 6 (cs := [(.func (.func 103) #[] #[(.pointer (some ⟨ba, 0, none⟩)), (.pointer (some ⟨bw, 0, none⟩)), (.pointer (some ⟨bo, 0, none⟩))])]) Hf Eb (oC (vv (rG yt)))
 replace h := h.xh 7 (cs := [vF]) hbf O7 (oC (oC (vv (rG yt))))
 have Kr := O6
 have Ec := Eb
 have Kt := O7
 generalize Ii : (.two (.blk ba [(.int .i64 (sx.at_))]) (.blk bo [(.bool (sx.ok))]) : Chunk).own' = K0 at h Kr Ec Kt hG
 replace h := h.iT 1 2 (by decide) rfl rfl
 refine ai (ag (ae (aj (v := (.slice none 0 0)) rfl) (ah (aa (ai (ag (ae (aj (v := (.slice none 0 0)) rfl) (ah (aa (ai (ai (ag (ae (aj (v := (.int .i64 (1))) rfl) (ah (aa (aL ?_))))))))))))))))
 replace h := h.vG (R := jo) (E := 160) 11
 refine fq (σ := Nat × Value × List Tok × Int × Bool × Int) (inl [4, 5, 6, 7, 8, 9, 10, 11, 12, 13, 14, 15, 16, 17, 18, 19, 20, 21, 22, 23, 24, 25, 26, 27, 28, 29, 30, 31, 32, 33, 34, 35, 36, 37, 38, 39, 40, 41, 42, 43, 44, 45, 46, 47, 48, 49, 50, 51, 52, 53, 54, 55, 56, 57, 58, 59, 60, 61, 62, 63, 64, 65, 66, 67, 68, 69, 70, 71, 72, 73, 74, 75, 76, 77, 78, 79]) (fun ⟨m24, v16, zG, wV, Kq, y20⟩ => [(4, v16), (5, (.int .i64 (wV)))]) (fun ⟨m24, v16, zG, wV, Kq, y20⟩ w => SH w0 M K0 w (hset [(1, .blk ba [(.int .i64 (y20))]), (2, .blk bo [(.bool (Kq))]), (3, .rd lY vW W), (4, .sr gQ vF F), (5, .pt bw 0 [vW]), (6, .pt bwd 0 [(.func (.func 103) #[] #[(.pointer (some ⟨ba, 0, none⟩)), (.pointer (some ⟨bw, 0, none⟩)), (.pointer (some ⟨bo, 0, none⟩))])]), (7, .pt bf 0 [vF]), (11, .own jo 160 v16 zG)]) ∧ again (qF N W F) m24 (zG, wV, Kq, y20) = some r) (fun ⟨m24, v16, zG, wV, Kq, y20⟩ => m24) ⟨N, (.slice none 0 0), [], 1, sx.ok, sx.at_⟩ ⟨rfl, rfl, trivial⟩ ?_ ?_
 exact ⟨h.cn _, hs⟩
 rintro ⟨m24, v16, zG, wV, Kq, y20⟩ w dm ⟨h, hs⟩
 obtain ⟨VX, Y1, Y2⟩ := nk hs
 subst Y1
 replace hs := Y2
 generalize OG : again (qF N W F) VX = wz at hs
 refine ai (ai (ag (ae (ak (v := (.int .i64 (wV))) rfl) (ae (iR rfl rfl) (ae (ak (v := (.bool (decide ((0 : Int) < wV)))) rfl) (aC rfl rfl (fun q => aF h 2 rfl vI rfl rfl) (ae (gJ rfl rfl mR) (ah (aa (aJ hs rfl (fun c28 hs => ?_) (fun c28 hs => ?_)))))))))))
 refine aD (aa (ai (aL (bU (σ := Str × Bool × Int) (inl [6, 20, 21]) (fun ⟨x29, Du, y31⟩ => [(6, (aP x29))]) (fun ⟨x29, Du, y31⟩ w => SH w0 M K0 w (hset [(1, .blk ba [(.int .i64 (y31))]), (2, .blk bo [(.bool (Du))]), (3, .rd lY vW W), (4, .sr gQ vF F), (5, .pt bw 0 [vW]), (6, .pt bwd 0 [(.func (.func 103) #[] #[(.pointer (some ⟨ba, 0, none⟩)), (.pointer (some ⟨bw, 0, none⟩)), (.pointer (some ⟨bo, 0, none⟩))])]), (7, .pt bf 0 [vF]), (11, .own jo 160 v16 zG)]) ∧ qE N zG F wV wz x29 Du y31 = some r) ?_ ?_))))
 rintro ⟨x29, Du, y31⟩ w dm ⟨h, hs⟩
 refine ai (ag (ae (eD (pv := []) (out := [(.int .i64 (0)), (.int .i64 (0))]) wy rfl rfl) (bP h 12 iZ fun w b32 h => dV (vs := [(.int .i64 (0)), (.int .i64 (0))]) h 12 [(.int .i64 (0)), (.int .i64 (0))] rfl iZ rfl rfl rfl rfl rfl (ax rfl (ax rfl bA)) fun w h => ah (aa (ai (ai (ag (y5 h 13 fun w Vd h => lH (nH := [(2, (aP [118]))]) h 13 rfl jF rfl rfl rfl rfl fun w h => lH (nH := [(2, (aP [118])), (4, (aP [46]))]) h 13 rfl jF rfl rfl rfl rfl fun w h => lH (nH := [(2, (aP [118])), (4, (aP [46])), (5, (aP [110, 101, 119]))]) h 13 rfl jF rfl rfl rfl rfl fun w h => lH (nH := [(2, (aP [118])), (4, (aP [46])), (5, (aP [110, 101, 119])), (6, (aP [102]))]) h 13 rfl jF rfl rfl rfl rfl fun w h => lH (nH := [(2, (aP [118])), (4, (aP [46])), (5, (aP [110, 101, 119])), (6, (aP [102])), (1, (aP []))]) h 13 rfl jF rfl rfl rfl rfl fun w h => ae (ak (v := (.map (some Vd))) rfl) (QL (f := aP) ([(2, [118]), (4, [46]), (5, [110, 101, 119]), (6, [102]), (1, [])] : List (Int × Str)) h 13 rfl jF rfl rfl fun w XT h => ah (aa (aL ?_)))))))))))
 obtain ⟨Ja, Ku, hs⟩ := aM hs
 replace Ku := Tp Ku
 refine fq (σ := List (Int × Str) × Int × Int) (inl [8, 9, 10, 11, 26, 27, 28, 29, 30, 31, 32, 33, 34, 35, 36, 37, 38, 39, 40, 41, 42, 43, 44, 45, 46, 47, 48, 49, 50]) (fun ⟨lf43, Az, nA⟩ => []) (fun ⟨lf43, Az, nA⟩ w => SH w0 M K0 w (hset [(1, .blk ba [(.int .i64 (y31))]), (2, .blk bo [(.bool (Du))]), (3, .rd lY vW W), (4, .sr gQ vF F), (5, .pt bw 0 [vW]), (6, .pt bwd 0 [(.func (.func 103) #[] #[(.pointer (some ⟨ba, 0, none⟩)), (.pointer (some ⟨bw, 0, none⟩)), (.pointer (some ⟨bo, 0, none⟩))])]), (7, .pt bf 0 [vF]), (11, .own jo 160 v16 zG), (12, .blk b32 [(.int .i64 (Az)), (.int .i64 (nA))]), (13, .fU (Fb aP Vd XT none lf43))]) ∧ pG (mG x29) lf43 (Az, nA) Ja) (fun ⟨lf43, Az, nA⟩ => lf43.length) ⟨([(2, [118]), (4, [46]), (5, [110, 101, 119]), (6, [102]), (1, [])] : List (Int × Str)), 0, 0⟩ trivial ?_ ?_
 exact ⟨h.cn _, Ku⟩
 rintro ⟨lf43, Az, nA⟩ w dm ⟨h, hf⟩
 refine ai (ag ?_)
 refine Tn h 13 rfl rfl (fun e48 => ?_) (fun tF Ua w e48 h => ?_)
 obtain rfl := pG.nil (e48 ▸ hf)
 refine ae (bC rfl rfl) (ah (aa ?_))
 refine ai (SF rfl (bT (aH (aH (aT (aa (ai (ai (ag (ae (aj (v := (.int .i64 (1))) rfl) (ah (aa (aL (fq (σ := Nat × Int × Int × Int) (inl [12, 51, 52, 53, 54, 55, 56, 57, 58, 59, 60, 61]) (fun ⟨m64, uZ, Dv, yB⟩ => [(12, (.int .i64 (uZ)))]) (fun ⟨m64, uZ, Dv, yB⟩ w => SH w0 M K0 w (hset [(1, .blk ba [(.int .i64 (y31))]), (2, .blk bo [(.bool (Du))]), (3, .rd lY vW W), (4, .sr gQ vF F), (5, .pt bw 0 [vW]), (6, .pt bwd 0 [(.func (.func 103) #[] #[(.pointer (some ⟨ba, 0, none⟩)), (.pointer (some ⟨bw, 0, none⟩)), (.pointer (some ⟨bo, 0, none⟩))])]), (7, .pt bf 0 [vF]), (11, .own jo 160 v16 zG), (12, .blk b32 [(.int .i64 (Dv)), (.int .i64 (yB))])]) ∧ again (xA x29 zG F y31 wV wz Du) m64 (uZ, Dv, yB) = some r) (fun ⟨m64, uZ, Dv, yB⟩ => m64) ⟨N, 1, Az, nA⟩ ⟨rfl, trivial⟩ ?_ ?_))))))))))))))
 exact ⟨h.cn _, hs⟩
 rintro ⟨m64, uZ, Dv, yB⟩ w dm ⟨h, hs⟩
 obtain ⟨VY, Y3, Y4⟩ := nk hs
 subst Y3
 replace hs := Y4
 generalize VZ : again (xA x29 zG F y31 wV wz Du) VY = MJ at hs
 refine ai (ai (ag (ae (ak (v := (.int .i64 (uZ))) rfl) (ae (CF rfl rfl) (ah (aa (aJ hs rfl (fun Y5 hs => ?_) (fun Y5 hs => ?_))))))))
 refine aD (aa (bU (σ := Int × Int) (inl [55, 56, 57, 58, 59, 60, 61]) (fun ⟨zm, Ih⟩ => []) (fun ⟨zm, Ih⟩ w => SH w0 M K0 w (hset [(1, .blk ba [(.int .i64 (y31))]), (2, .blk bo [(.bool (Du))]), (3, .rd lY vW W), (4, .sr gQ vF F), (5, .pt bw 0 [vW]), (6, .pt bwd 0 [(.func (.func 103) #[] #[(.pointer (some ⟨ba, 0, none⟩)), (.pointer (some ⟨bw, 0, none⟩)), (.pointer (some ⟨bo, 0, none⟩))])]), (7, .pt bf 0 [vF]), (11, .own jo 160 v16 zG), (12, .blk b32 [(.int .i64 (zm)), (.int .i64 (Ih))])]) ∧ xz uZ MJ zm Ih = some r) ?_ ?_))
 rintro ⟨zm, Ih⟩ w dm ⟨h, hs⟩
 refine ag (ae (ak (v := (.int .i64 (uZ))) rfl) ?_)
 obtain ⟨a71, hs⟩ := aZ hs
 refine ae (bY rfl rfl a71) (ae (aj (v := (.int .i64 ((uZ + 1)))) rfl) (ah (ay ?_)))
 subst VZ
 exact iQ ⟨VY, (uZ + 1), zm, Ih⟩ ⟨h.cn _, hs⟩
 refine aL (ai (ag (ae (ak (v := (.int .i64 (uZ))) rfl) (ae (eD (pv := [(0, (.int .i64 (3))), (1, (.int .i64 (uZ)))]) (out := [(.int .i64 (3)), (.int .i64 (uZ))]) wy rfl ⟨0, 1, [(.int .i64 (3))], rfl, rfl, rfl, Nat.le_of_ble_eq_true rfl, ⟨1, 1, [(.int .i64 (uZ))], rfl, rfl, rfl, Nat.le_of_ble_eq_true rfl, rfl⟩⟩) ?_))))
 obtain ⟨y72, e73, hs⟩ := aM hs
 refine aO GV rfl rfl (nz _ _ h.lt (hT.NY h.keep hG) (⟨3, uZ⟩ : Tok) _ e73) ?_
 rintro _ w ⟨k74, rfl⟩
 refine ⟨_, rfl, ?_⟩
 replace h := h.grow k74
 refine ae (ak (v := (aP x29)) rfl) (ae (BO rfl rfl) (ah (aa (aJ hs rfl (fun c75 hs => ?_) (fun c75 hs => ?_)))))
 refine ag (ae (ak (v := (.int .i64 (uZ))) rfl) (ae (eD (pv := [(0, (.int .i64 (3))), (1, (.int .i64 (uZ)))]) (out := [(.int .i64 (3)), (.int .i64 (uZ))]) wy rfl ⟨0, 1, [(.int .i64 (3))], rfl, rfl, rfl, Nat.le_of_ble_eq_true rfl, ⟨1, 1, [(.int .i64 (uZ))], rfl, rfl, rfl, Nat.le_of_ble_eq_true rfl, rfl⟩⟩) (dV (vs := [(.int .i64 (3)), (.int .i64 (uZ))]) h 12 [(.int .i64 (3)), (.int .i64 (uZ))] rfl iZ rfl rfl rfl rfl rfl (ax rfl (ax rfl bA)) fun w h => ah (az (ay ?_)))))
 exact bR (3, uZ) ⟨h.cn _, hs⟩
 refine aD (az (ay ?_))
 exact bR (Dv, yB) ⟨h.cn _, hs⟩
 refine bT (aH (aH (aT (aa (ai (ai (ag (ae (ak (v := v16) rfl) (ae (fA (vs := [(.int .i64 (Dv)), (.int .i64 (yB))]) h 12 rfl iZ rfl rfl rfl) (oV (R := jo) (vs := [(.agg #[(.int .i64 (Dv)), (.int .i64 (yB))])]) (xs := [(⟨Dv, yB⟩ : Tok)]) h 14 FR rfl rfl rfl ⟨rfl, trivial⟩ rfl fun w u76 h => ?_))))))))))
 obtain ⟨a77, hs⟩ := aZ hs
 refine jg (R := jo) (m := [(⟨Dv, yB⟩ : Tok)]) h 11 rfl (h.dJ 14 rfl) FR rfl rfl rfl a77.1 a77.2 fun w E5 h => ae (aj (v := E5) rfl) (ah (aa (ai (ag (ae (fA (vs := [(.int .i64 (Dv)), (.int .i64 (yB))]) h 12 rfl iZ rfl rfl rfl) (ae (ed (k := 0) h 7 rfl wo rfl rfl) (aO Lx rfl rfl (qy _ _ h.lt (⟨Dv, yB⟩ : Tok) vF F (h.fV 4 rfl) 6 _ rfl) ?_)))))))
 rintro _ w ⟨k79, rfl⟩
 refine ⟨_, rfl, ?_⟩
 replace h := h.grow k79
 refine ae (iH rfl rfl) (ae (ak (v := (.bool (decide (((dK (⟨Dv, yB⟩ : Tok) F 6) : Int) ≠ 0)))) rfl) (aC rfl rfl (fun q => ak (v := E5) rfl) (aC rfl rfl (fun q => bF jd (cO q) (h.dJ 11 rfl)) (aC rfl rfl (fun q => iR (cO q) rfl) (ae (gM rfl rfl mR) (ah (aa (aJ hs rfl (fun c80 hs => ?_) (fun c80 hs => ?_)))))))))
 refine ai (ag (dX h 2 [(.bool (false))] rfl vI rfl rfl rfl rfl rfl fun w h => ah (aa (bT (aH (Dy (by decide) (aH (aH (aT (aa (ai (ag (ae (ak (v := E5) rfl) (ae (aj (v := E5) rfl) (ah (aa (aI (bI (v := E5) Tryz.results104 rfl ?_))))))))))))))))))
 replace h := h.freeze 11 rfl
 replace h := h.pair 1 2 (by decide)
 obtain rfl := Option.some.inj hs
 subst Ii
 obtain ⟨o1, o2, o3⟩ := h.zV 1 (C := (.two (.blk ba [(.int .i64 (y31))]) (.blk bo [(.bool (false))]) : Chunk)) rfl ⟨trivial, trivial⟩
 exact ⟨o2, E5, rfl, o1, o3, h.xg 1 11 rfl rfl⟩
 refine aD (aa (ag (ae (ak (v := (.int .i64 (wV))) rfl) (ae (fA (vs := [(.int .i64 (Dv)), (.int .i64 (yB))]) h 12 rfl iZ rfl rfl rfl) (ae (ed (k := 0) h 7 rfl wo rfl rfl) ?_)))))
 obtain ⟨Sa, e82, hs⟩ := aM hs
 refine aO GX rfl rfl (pO _ _ h.lt (⟨Dv, yB⟩ : Tok) vF F (h.fV 4 rfl) _ e82) ?_
 rintro _ w ⟨Y6, rfl⟩
 refine ⟨_, rfl, ?_⟩
 replace h := h.grow Y6
 obtain ⟨a84, hs⟩ := aZ hs
 refine ae (bY rfl rfl a84) (ae (aj (v := (.int .i64 ((wV + Sa)))) rfl) (ah (az (aa (ag (ae (ak (v := (.int .i64 ((wV + Sa)))) rfl) ?_))))))
 obtain ⟨a85, hs⟩ := aZ hs
 refine ae (rT rfl rfl a85) (ae (aj (v := (.int .i64 (((wV + Sa) - 1)))) rfl) (ah (ay ?_)))
 subst OG
 exact iQ ⟨VX, E5, (zG ++ [(⟨Dv, yB⟩ : Tok)]), ((wV + Sa) - 1), Du, y31⟩ ⟨h.cn _, hs⟩
 obtain ⟨Y7, hs1, hf1⟩ := hf.cons e48
 replace hs := hs1
 refine ae (bC rfl rfl) (ah (aa ?_))
 refine ai (SE rfl (aD (aa ?_)))
 refine aL (ai (ag (ae (QM (f := aP) h 13 rfl rfl) (ae (bC rfl rfl) (ae (bC rfl rfl) (ae (aj (v := (.int .i64 (tF.1))) rfl) (ae (aj (v := (aP tF.2)) rfl) (ah (aa (ai (ag (ae (ak (v := (aP x29)) rfl) (ae (ak (v := (aP tF.2)) rfl) ?_)))))))))))))
 obtain ⟨He, Y8, hs⟩ := aM hs
 refine aO QV rfl rfl (yA _ _ h.lt x29 tF.2 _ Y8) ?_
 rintro _ w ⟨Y9, rfl⟩
 refine ⟨_, rfl, ?_⟩
 replace h := h.grow Y9
 obtain ⟨Bg, VQ, hs⟩ := aM hs
 refine aO Ba rfl rfl (nP _ _ h.lt (hT.NY h.keep hG) He _ VQ) ?_
 rintro _ w ⟨k93, Ub, rfl, g92⟩
 refine ⟨_, rfl, ?_⟩
 replace h := h.grow k93
 refine ae (ak (v := (.tuple #[(.int .i64 (Bg.1)), Ub])) rfl) (ae (bC rfl rfl) (ae (bC rfl rfl) (ae (aj (v := (.int .i64 (Bg.1))) rfl) (ae (aj (v := Ub) rfl) (ah (aa (bU (σ := Bool) (inl [38, 39, 40, 41, 42, 43, 44, 45, 46, 47]) (fun Vb => [(47, (.bool (Vb)))]) (fun Vb w => SH w0 M K0 w (hset [(1, .blk ba [(.int .i64 (y31))]), (2, .blk bo [(.bool (Du))]), (3, .rd lY vW W), (4, .sr gQ vF F), (5, .pt bw 0 [vW]), (6, .pt bwd 0 [(.func (.func 103) #[] #[(.pointer (some ⟨ba, 0, none⟩)), (.pointer (some ⟨bw, 0, none⟩)), (.pointer (some ⟨bo, 0, none⟩))])]), (7, .pt bf 0 [vF]), (11, .own jo 160 v16 zG), (12, .blk b32 [(.int .i64 (Az)), (.int .i64 (nA))]), (13, .fU (Fb aP Vd XT (some tF) Ua))]) ∧ qD tF Bg Az nA Vb = some Y7) ?_ ?_)))))))
 rintro Vb w dm ⟨h, hs⟩
 refine aJ hs rfl (fun c95 hs => ?_) (fun c95 hs => ?_)
 refine ag (ae (ak (v := (.int .i64 (tF.1))) rfl) (ae (ak (v := (.int .i64 (Bg.1))) rfl) (ae (eD (pv := [(0, (.int .i64 (tF.1))), (1, (.int .i64 (Bg.1)))]) (out := [(.int .i64 (tF.1)), (.int .i64 (Bg.1))]) wy rfl ⟨0, 1, [(.int .i64 (tF.1))], rfl, rfl, rfl, Nat.le_of_ble_eq_true rfl, ⟨1, 1, [(.int .i64 (Bg.1))], rfl, rfl, rfl, Nat.le_of_ble_eq_true rfl, rfl⟩⟩) (dV (vs := [(.int .i64 (tF.1)), (.int .i64 (Bg.1))]) h 12 [(.int .i64 (tF.1)), (.int .i64 (Bg.1))] rfl iZ rfl rfl rfl rfl rfl (ax rfl (ax rfl bA)) fun w h => ah (az (ay ?_))))))
 replace h := h.FO 13 rfl
 obtain rfl := Option.some.inj hs
 exact iQ ⟨Ua, tF.1, Bg.1⟩ ⟨h.cn _, hf1⟩ (by have := e48.length_eq; simp only [List.length_cons] at this; dsimp only; omega)
 refine aD (az (ay ?_))
 replace h := h.FO 13 rfl
 obtain rfl := Option.some.inj hs
 exact iQ ⟨Ua, Az, nA⟩ ⟨h.cn _, hf1⟩ (by have := e48.length_eq; simp only [List.length_cons] at this; dsimp only; omega)
 refine ag (ae (ak (v := Ub) rfl) (ae (Mk Mr rfl g92 rfl) (ae (ak (v := (.bool ((!Bg.2)))) rfl) (ma (b := (!Bg.2)) hs (fun Kv hs => ?_) (fun Kv hs => ?_)))))
 refine dG rfl (congrArg Value.bool Kv) (ae (ak (v := (.int .i64 (tF.1))) rfl) (dG rfl (congrArg Value.bool Kv) (ae (ak (v := (.int .i64 (Bg.1))) rfl) (dG rfl (congrArg Value.bool Kv) (ae (eD (pv := [(0, (.int .i64 (tF.1))), (1, (.int .i64 (Bg.1)))]) (out := [(.int .i64 (tF.1)), (.int .i64 (Bg.1))]) wy rfl ⟨0, 1, [(.int .i64 (tF.1))], rfl, rfl, rfl, Nat.le_of_ble_eq_true rfl, ⟨1, 1, [(.int .i64 (Bg.1))], rfl, rfl, rfl, Nat.le_of_ble_eq_true rfl, rfl⟩⟩) (dG rfl (congrArg Value.bool Kv) ?_))))))
 obtain ⟨oQ, e98, hs⟩ := aM hs
 refine aO GV rfl rfl (nz _ _ h.lt (hT.NY h.keep hG) (⟨tF.1, Bg.1⟩ : Tok) _ e98) ?_
 rintro _ w ⟨Za, rfl⟩
 refine ⟨_, rfl, ?_⟩
 replace h := h.grow Za
 refine dG rfl (congrArg Value.bool Kv) (ae (ak (v := (aP x29)) rfl) (dG rfl (congrArg Value.bool Kv) (ae (BO rfl rfl) (ae (fw (b := true) (v := (.bool (decide ((oQ : Str) = x29)))) (congrArg Value.bool Kv) rfl) (ah (ay ?_))))))
 exact bR (decide ((oQ : Str) = x29)) ⟨h.cn _, hs⟩
 refine bH (b' := false) rfl (congrArg Value.bool Kv) rfl (bH (b' := false) rfl (congrArg Value.bool Kv) rfl (bH (b' := false) rfl (congrArg Value.bool Kv) rfl (bH (b' := false) rfl (congrArg Value.bool Kv) rfl (bH (b' := false) rfl (congrArg Value.bool Kv) rfl (bH (b' := false) rfl (congrArg Value.bool Kv) rfl (ae (fw (b := false) (v := (.bool (false))) (congrArg Value.bool Kv) rfl) (ah (ay ?_))))))))
 exact bR false ⟨h.cn _, hs⟩
 refine ag (ae (ed (k := 0) h 6 rfl xx rfl rfl) (jh (args := [(.pointer (some ⟨ba, 0, none⟩)), (.pointer (some ⟨bw, 0, none⟩)), (.pointer (some ⟨bo, 0, none⟩))]) xu rfl rfl (aK (args := [(.pointer (some ⟨ba, 0, none⟩)), (.pointer (some ⟨bw, 0, none⟩)), (.pointer (some ⟨bo, 0, none⟩))]) Tryz.func103 rfl Tryz.ntmps103 (Nat.le_of_ble_eq_true rfl) (ai (ag (ae (aj (v := (aP [])) rfl) (ah (aa (ai (ai (ag (ae (aF h 1 rfl aV rfl rfl) (ae (ed (k := 0) h 5 rfl ll rfl rfl) (ae (bF dN rfl (h.mU 3 rfl)) (ae (oL rfl rfl) (ah (aa (aJ hs rfl (fun Zb hs => ?_) (fun Zb hs => ?_)))))))))))))))))))
 refine ai (ag (dX h 2 [(.bool (false))] rfl vI rfl rfl rfl rfl rfl fun w h => ah (aa (ai (ag (ae (aj (v := (aP [])) rfl) (ah (aa (aI (aB (bI (v := (aP [])) Tryz.results103 rfl (⟨_, rfl, ?_⟩))))))))))))
 refine ae (aj (v := (aP [])) rfl) (ah (ay ?_))
 exact bR ([], false, y20) ⟨h.cn _, hs⟩
 refine aD (aa (ai (ag (ae (aF h 1 rfl aV rfl rfl) ?_))))
 obtain ⟨Ra, hs⟩ := aZ hs
 refine ae (bY rfl rfl Ra) (dX h 1 [(.int .i64 ((y20 + 1)))] rfl aV rfl rfl rfl rfl rfl fun w h => ah (aa (ai (ag (ae (ed (k := 0) h 5 rfl ll rfl rfl) (ae (aF h 1 rfl aV rfl rfl) ?_))))))
 obtain ⟨Zc, hs⟩ := aZ hs
 refine ae (rT rfl rfl Zc) ?_
 obtain ⟨x103, Rb, hs⟩ := aM hs
 obtain ⟨b106, o107, cs108, h, Zd, i105⟩ := h.FD 3 15 rfl dN rfl (aX Rb).1 (aX Rb).2
 obtain rfl := Zd
 refine ae (i105 _ _ _ _ _ _ _ _ _ rfl rfl) (ae (ed (k := 0) h 15 rfl wu rfl rfl) (ae (aj (v := (aP x103)) rfl) (ah (aa (aI (bI (v := (aP x103)) Tryz.results103 rfl (⟨_, rfl, ?_⟩)))))))
 refine ae (aj (v := (aP x103)) rfl) (ah (ay ?_))
 exact bR (x103, Kq, (y20 + 1)) ⟨h.cn _, hs⟩
 refine bT (aH (aH (aT (aa (ai (ag (ae (ak (v := v16) rfl) (ae (aj (v := v16) rfl) (ah (aa (aI (bI (v := v16) Tryz.results104 rfl ?_))))))))))))
 replace h := h.freeze 11 rfl
 replace h := h.pair 1 2 (by decide)
 obtain rfl := Option.some.inj hs
 subst Ii
 obtain ⟨o1, o2, o3⟩ := h.zV 1 (C := (.two (.blk ba [(.int .i64 (y20))]) (.blk bo [(.bool (Kq))]) : Chunk)) rfl ⟨trivial, trivial⟩
 exact ⟨o2, v16, rfl, o1, o3, h.xg 1 11 rfl rfl⟩
def xB (lF : List aU) (kG : Int) (vR : Int) (wU : List Tok) (qZ : List Tok) (Kw : List aU) (jZ : (List aU × Int × Bool) → Option (List aU × dh)) (Uc : Int) (Ud : Bool) (yB : List aU) : Option (List aU × dh) :=
  gG (Room 112 lF [(⟨(kG + 1), vR, wU, qZ, Kw, yB⟩ : aU)]) (jZ ((lF ++ [(⟨(kG + 1), vR, wU, qZ, Kw, yB⟩ : aU)]), Uc, Ud))
def xC (F0 : dh → List Str → List dQ → Int → Option (List aU × dh)) (kG : Int) (a : Int) (W : List Str) (F : List dQ) (lF : List aU) (vR : Int) (wU : List Tok) (qZ : List Tok) (jZ : (List aU × Int × Bool) → Option (List aU × dh)) (IW : Int) (Nw : Bool) (Kw : List aU) : Option (List aU × dh) :=
  bif decide (((kG + 1) : Int) = 6) then gG (jb (a + 1)) ((F0 (⟨IW, Nw⟩ : dh) W F (a + 1)).bind fun Be => xB lF kG vR wU qZ Kw jZ Be.2.at_ Be.2.ok Be.1) else xB lF kG vR wU qZ Kw jZ IW Nw []
def qG (F0 : dh → List Str → List dQ → Int → Option (List aU × dh)) (kG : Int) (a : Int) (W : List Str) (F : List dQ) (lF : List aU) (vR : Int) (wU : List Tok) (jZ : (List aU × Int × Bool) → Option (List aU × dh)) (zP : Int) (p9 : Bool) (qZ : List Tok) : Option (List aU × dh) :=
  bif (decide (((kG + 1) : Int) = 6) || decide (((kG + 1) : Int) = 7)) then gG (jb (a + 1)) ((F0 (⟨zP, p9⟩ : dh) W F (a + 1)).bind fun Rf => xC F0 kG a W F lF vR wU qZ jZ Rf.2.at_ Rf.2.ok Rf.1) else xC F0 kG a W F lF vR wU qZ jZ zP p9 []
def qH (N : Nat) (F0 : dh → List Str → List dQ → Int → Option (List aU × dh)) (kG : Int) (W : List Str) (F : List dQ) (a : Int) (lF : List aU) (vR : Int) (jZ : (List aU × Int × Bool) → Option (List aU × dh)) (Ky : Int) (Kz : Bool) (wU : List Tok) : Option (List aU × dh) :=
  bif decide (((kG + 1) : Int) = 2) then (Bi N (⟨Ky, Kz⟩ : dh) W F).bind fun He => qG F0 kG a W F lF vR wU jZ He.2.at_ He.2.ok He.1 else qG F0 kG a W F lF vR wU jZ Ky Kz []
def oF (N : Nat) (F0 : dh → List Str → List dQ → Int → Option (List aU × dh)) (kG : Int) (W : List Str) (F : List dQ) (a : Int) (lF : List aU) (jZ : (List aU × Int × Bool) → Option (List aU × dh)) (nA : Int) (xy : Bool) (vR : Int) : Option (List aU × dh) :=
  bif decide (((kG + 1) : Int) ≠ 4) then (Bi N (⟨nA, xy⟩ : dh) W F).bind fun y95 => qH N F0 kG W F a lF vR jZ y95.2.at_ y95.2.ok y95.1 else qH N F0 kG W F a lF vR jZ nA xy []
def qI (N : Nat) (F0 : dh → List Str → List dQ → Int → Option (List aU × dh)) (lF : List aU) (W : List Str) (F : List dQ) (a : Int) (jZ : (List aU × Int × Bool) → Option (List aU × dh)) (x27 : Str) (y28 : Int) (y29 : Bool) : Option (List aU × dh) :=
  bif decide ((x27 : Str) = [125]) then some (lF, (⟨y28, y29⟩ : dh)) else (AX [115, 101, 116, 32, 112, 117, 116, 32, 115, 97, 121, 32, 112, 97, 117, 115, 101, 32, 103, 111, 32, 105, 102, 32, 119, 104, 105, 108, 101, 32, 114, 101, 116, 117, 114, 110]).bind fun y31 => (slices_Index_string y31 x27).bind fun kG => gG (jb (kG + 1)) (bif (!(y29 && decide ((0 : Int) < (kG + 1)))) then some ([], (⟨y28, (y29 && decide ((0 : Int) < (kG + 1)))⟩ : dh)) else bif decide (((kG + 1) : Int) ≤ 2) then bif decide (((W.length : Int) : Int) ≤ y28) then (ym []).bind fun y104 => oF N F0 kG W F a lF jZ y28 false y104.1 else gG (jb (y28 + 1)) (gG (jb ((y28 + 1) - 1)) ((idx W ((y28 + 1) - 1)).bind fun KA => (ym KA).bind fun KC => oF N F0 kG W F a lF jZ (y28 + 1) (y29 && decide ((0 : Int) < (kG + 1))) KC.1)) else oF N F0 kG W F a lF jZ y28 (y29 && decide ((0 : Int) < (kG + 1))) 0)
def qJ (N : Nat) (F0 : dh → List Str → List dQ → Int → Option (List aU × dh)) (W : List Str) (F : List dQ) (a : Int) (s : List aU × Int × Bool) (jZ : List aU × Int × Bool → Option (List aU × dh)) : Option (List aU × dh) :=
  match s with | (lF, Dh, EZ) => bif EZ then bif decide (((W.length : Int) : Int) ≤ Dh) then qI N F0 lF W F a jZ [] Dh false else gG (jb (Dh + 1)) (gG (jb ((Dh + 1) - 1)) ((idx W ((Dh + 1) - 1)).bind fun Jb => qI N F0 lF W F a jZ Jb (Dh + 1) EZ)) else some ([], (⟨Dh, EZ⟩ : dh))
def sG (N : Nat) (F0 : dh → List Str → List dQ → Int → Option (List aU × dh)) (W : List Str) (F : List dQ) (a : Int) (y1 : Int) (y2 : Bool) : Option (List aU × dh) :=
  again (qJ N F0 W F a) N ([], y1, y2)
def qK (N : Nat) (F0 : dh → List Str → List dQ → Int → Option (List aU × dh)) (W : List Str) (F : List dQ) (a : Int) (zY : Bool) (Di : Int) (Hg : Bool) : Option (List aU × dh) :=
  bif zY then sG N F0 W F a Di false else sG N F0 W F a Di Hg
def uO (N : Nat) (F0 : dh → List Str → List dQ → Int → Option (List aU × dh)) (sx : dh) (W : List Str) (F : List dQ) (a : Int) : Option (List aU × dh) :=
  bif decide (((W.length : Int) : Int) ≤ sx.at_) then qK N F0 W F a true sx.at_ false else gG (jb (sx.at_ + 1)) (gG (jb ((sx.at_ + 1) - 1)) ((idx W ((sx.at_ + 1) - 1)).bind fun Jc => qK N F0 W F a (decide ((Jc : Str) ≠ [123]) || decide ((6 : Int) < a)) (sx.at_ + 1) sx.ok))
def sH : Nat → dh → List Str → List dQ → Int → Option (List aU × dh)
  | 0 => fun _ _ _ _ => none
  | N + 1 => uO N (sH N)
theorem KD : ∀ (N : Nat) (w0 : World) (M : BS) (hM : ∀ b, M b → b < w0.heap.size) (hT : rY Tryz.prog 4 w0) (ba bo bw bwd bf be bb : Nat) (sx : dh) (hC : Chunk.holds w0 M (Chunk.own' (.two (.blk ba [(.int .i64 (sx.at_))]) (.blk bo [(.bool (sx.ok))]) : Chunk)) (.two (.blk ba [(.int .i64 (sx.at_))]) (.blk bo [(.bool (sx.ok))]) : Chunk)) (hap : ∀ b, Chunk.own' (.two (.blk ba [(.int .i64 (sx.at_))]) (.blk bo [(.bool (sx.ok))]) : Chunk) b → ¬ M b) (vW : Value) (W : List Str) (VV : eB lY w0 (fun b => M b ∨ Chunk.own' (.two (.blk ba [(.int .i64 (sx.at_))]) (.blk bo [(.bool (sx.ok))]) : Chunk) b) vW W) (vF : Value) (F : List dQ) (VW : eZ gQ w0 (Chunk.own' (.two (.blk ba [(.int .i64 (sx.at_))]) (.blk bo [(.bool (sx.ok))]) : Chunk)) (fun b => M b ∨ Chunk.own' (.two (.blk ba [(.int .i64 (sx.at_))]) (.blk bo [(.bool (sx.ok))]) : Chunk) b) vF F) (hbw : ∃ E, w0.heap[bw]? = some (.cells #[vW] E (0, 0))) (O6 : ¬ Chunk.own' (.two (.blk ba [(.int .i64 (sx.at_))]) (.blk bo [(.bool (sx.ok))]) : Chunk) bw) (Hf : ∃ E, w0.heap[bwd]? = some (.cells #[(.func (.func 103) #[] #[(.pointer (some ⟨ba, 0, none⟩)), (.pointer (some ⟨bw, 0, none⟩)), (.pointer (some ⟨bo, 0, none⟩))])] E (0, 0))) (Eb : ¬ Chunk.own' (.two (.blk ba [(.int .i64 (sx.at_))]) (.blk bo [(.bool (sx.ok))]) : Chunk) bwd) (hbf : ∃ E, w0.heap[bf]? = some (.cells #[vF] E (0, 0))) (O7 : ¬ Chunk.own' (.two (.blk ba [(.int .i64 (sx.at_))]) (.blk bo [(.bool (sx.ok))]) : Chunk) bf) (hbe : ∃ E, w0.heap[be]? = some (.cells #[(.func (.func 104) #[] #[(.pointer (some ⟨bo, 0, none⟩)), (.pointer (some ⟨bwd, 0, none⟩)), (.pointer (some ⟨bf, 0, none⟩))])] E (0, 0))) (Ve : ¬ Chunk.own' (.two (.blk ba [(.int .i64 (sx.at_))]) (.blk bo [(.bool (sx.ok))]) : Chunk) be) (hbb : ∃ E, w0.heap[bb]? = some (.cells #[(.func (.func 109) #[] #[(.pointer (some ⟨bwd, 0, none⟩)), (.pointer (some ⟨bo, 0, none⟩)), (.pointer (some ⟨be, 0, none⟩)), (.pointer (some ⟨bb, 0, none⟩))])] E (0, 0))) (Vf : ¬ Chunk.own' (.two (.blk ba [(.int .i64 (sx.at_))]) (.blk bo [(.bool (sx.ok))]) : Chunk) bb) (a : Int) (hG : ∀ b, Chunk.own' (.two (.blk ba [(.int .i64 (sx.at_))]) (.blk bo [(.bool (sx.ok))]) : Chunk) b → Tryz.prog.globals.size ≤ b) (r : List aU × dh) (hs : sH N sx W F a = some r),
    Calls Tryz.prog 109 #[(.int .i64 (a)), (.pointer (some ⟨bwd, 0, none⟩)), (.pointer (some ⟨bo, 0, none⟩)), (.pointer (some ⟨be, 0, none⟩)), (.pointer (some ⟨bb, 0, none⟩))] w0 (fun e w' => aQ (Chunk.own' (.two (.blk ba [(.int .i64 (sx.at_))]) (.blk bo [(.bool (sx.ok))]) : Chunk)) w0 w' ∧ ∃ u0, e = .returned (u0) ∧ Chunk.holds w' M (Chunk.own' (.two (.blk ba [.int .i64 r.2.at_]) (.blk bo [.bool r.2.ok]) : Chunk)) (.two (.blk ba [.int .i64 r.2.at_]) (.blk bo [.bool r.2.ok]) : Chunk) ∧ (∀ b, Chunk.own' (.two (.blk ba [.int .i64 r.2.at_]) (.blk bo [.bool r.2.ok]) : Chunk) b → b < w0.heap.size → Chunk.own' (.two (.blk ba [(.int .i64 (sx.at_))]) (.blk bo [(.bool (sx.ok))]) : Chunk) b) ∧ eB dM w' (fun b => M b ∨ Chunk.own' (.two (.blk ba [.int .i64 r.2.at_]) (.blk bo [.bool r.2.ok]) : Chunk) b) u0 r.1) := by
 intro N
 induction N with
 | zero => intro w0 M hM hT ba bo bw bwd bf be bb sx hC hap vW W VV vF F VW hbw O6 Hf Eb hbf O7 hbe Ve hbb Vf a hG r hs; cases hs
 | succ N ih =>
 intro w0 M hM hT ba bo bw bwd bf be bb sx hC hap vW W VV vF F VW hbw O6 Hf Eb hbf O7 hbe Ve hbb Vf a hG r hs
 replace hs : uO N (sH N) sx W F a = some r := hs
 generalize sH N = F0 at hs ih
 refine aK (args := [(.int .i64 (a)), (.pointer (some ⟨bwd, 0, none⟩)), (.pointer (some ⟨bo, 0, none⟩)), (.pointer (some ⟨be, 0, none⟩)), (.pointer (some ⟨bb, 0, none⟩))]) Tryz.func109 rfl Tryz.ntmps109 (Nat.le_of_ble_eq_true rfl) ?_
 have h := SH.DK hM hC hap
 replace h := h.BP 3 VV yt
 replace h := h.Oe 4 VW (rG yt)
 replace h := h.xh 5 (cs := [vW]) hbw O6 (vv (rG yt))
 replace h := h.xh 6 (cs := [(.func (.func 103) #[] #[(.pointer (some ⟨ba, 0, none⟩)), (.pointer (some ⟨bw, 0, none⟩)), (.pointer (some ⟨bo, 0, none⟩))])]) Hf Eb (oC (vv (rG yt)))
 replace h := h.xh 7 (cs := [vF]) hbf O7 (oC (oC (vv (rG yt))))
 replace h := h.xh 8 (cs := [(.func (.func 104) #[] #[(.pointer (some ⟨bo, 0, none⟩)), (.pointer (some ⟨bwd, 0, none⟩)), (.pointer (some ⟨bf, 0, none⟩))])]) hbe Ve (oC (oC (oC (vv (rG yt)))))
 replace h := h.xh 9 (cs := [(.func (.func 109) #[] #[(.pointer (some ⟨bwd, 0, none⟩)), (.pointer (some ⟨bo, 0, none⟩)), (.pointer (some ⟨be, 0, none⟩)), (.pointer (some ⟨bb, 0, none⟩))])]) hbb Vf (oC (oC (oC (oC (vv (rG yt))))))
 have Kr := O6
 have Ec := Eb
 have Kt := O7
 have Ue := Ve
 have Uf := Vf
 generalize Ii : (.two (.blk ba [(.int .i64 (sx.at_))]) (.blk bo [(.bool (sx.ok))]) : Chunk).own' = K0 at h Kr Ec Kt Ue Uf hG
 replace h := h.iT 1 2 (by decide) rfl rfl
 refine ai (ag (ae (aj (v := (.slice none 0 0)) rfl) (ah (aa (bU (σ := Int × Bool) (inl [10, 11, 12, 13, 14, 15, 16]) (fun ⟨y1, y2⟩ => []) (fun ⟨y1, y2⟩ w => SH w0 M K0 w (hset [(1, .blk ba [(.int .i64 (y1))]), (2, .blk bo [(.bool (y2))]), (3, .rd lY vW W), (4, .sr gQ vF F), (5, .pt bw 0 [vW]), (6, .pt bwd 0 [(.func (.func 103) #[] #[(.pointer (some ⟨ba, 0, none⟩)), (.pointer (some ⟨bw, 0, none⟩)), (.pointer (some ⟨bo, 0, none⟩))])]), (7, .pt bf 0 [vF]), (8, .pt be 0 [(.func (.func 104) #[] #[(.pointer (some ⟨bo, 0, none⟩)), (.pointer (some ⟨bwd, 0, none⟩)), (.pointer (some ⟨bf, 0, none⟩))])]), (9, .pt bb 0 [(.func (.func 109) #[] #[(.pointer (some ⟨bwd, 0, none⟩)), (.pointer (some ⟨bo, 0, none⟩)), (.pointer (some ⟨be, 0, none⟩)), (.pointer (some ⟨bb, 0, none⟩))])])]) ∧ sG N F0 W F a y1 y2 = some r) ?_ ?_)))))
 rintro ⟨y1, y2⟩ w dm ⟨h, hs⟩
 refine ai (ag (ae (aj (v := (.slice none 0 0)) rfl) (ah (aa (ai (aL ?_))))))
 replace h := h.vG (R := dM) (E := 147) 13
 refine fq (σ := Nat × Value × List aU × Int × Bool) (inl [6, 7, 8, 9, 17, 18, 19, 20, 21, 22, 23, 24, 25, 26, 27, 28, 29, 30, 31, 32, 33, 34, 35, 36, 37, 38, 39, 40, 41, 42, 43, 44, 45, 46, 47, 48, 49, 50, 51, 52, 53, 54, 55, 56, 57, 58, 59, 60, 61, 62, 63, 64, 65, 66, 67, 68, 69, 70, 71, 72, 73, 74, 75, 76, 77, 78, 79, 80, 81, 82]) (fun ⟨m22, v15, lF, Dh, EZ⟩ => [(7, v15)]) (fun ⟨m22, v15, lF, Dh, EZ⟩ w => SH w0 M K0 w (hset [(1, .blk ba [(.int .i64 (Dh))]), (2, .blk bo [(.bool (EZ))]), (3, .rd lY vW W), (4, .sr gQ vF F), (5, .pt bw 0 [vW]), (6, .pt bwd 0 [(.func (.func 103) #[] #[(.pointer (some ⟨ba, 0, none⟩)), (.pointer (some ⟨bw, 0, none⟩)), (.pointer (some ⟨bo, 0, none⟩))])]), (7, .pt bf 0 [vF]), (8, .pt be 0 [(.func (.func 104) #[] #[(.pointer (some ⟨bo, 0, none⟩)), (.pointer (some ⟨bwd, 0, none⟩)), (.pointer (some ⟨bf, 0, none⟩))])]), (9, .pt bb 0 [(.func (.func 109) #[] #[(.pointer (some ⟨bwd, 0, none⟩)), (.pointer (some ⟨bo, 0, none⟩)), (.pointer (some ⟨be, 0, none⟩)), (.pointer (some ⟨bb, 0, none⟩))])]), (13, .own dM 147 v15 lF)]) ∧ again (qJ N F0 W F a) m22 (lF, Dh, EZ) = some r) (fun ⟨m22, v15, lF, Dh, EZ⟩ => m22) ⟨N, (.slice none 0 0), [], y1, y2⟩ ⟨rfl, trivial⟩ ?_ ?_
 exact ⟨h.cn _, hs⟩
 rintro ⟨m22, v15, lF, Dh, EZ⟩ w dm ⟨h, hs⟩
 obtain ⟨V3, Ze, Zf⟩ := nk hs
 subst Ze
 replace hs := Zf
 generalize O8 : again (qJ N F0 W F a) V3 = jZ at hs
 refine ai (ai (ag (ae (aF h 2 rfl vI rfl rfl) (ah (aa (aJ hs rfl (fun c26 hs => ?_) (fun c26 hs => ?_)))))))
 refine aD (aa (aL (bU (σ := Str × Int × Bool) (inl [8, 18, 19]) (fun ⟨x27, y28, y29⟩ => [(8, (aP x27))]) (fun ⟨x27, y28, y29⟩ w => SH w0 M K0 w (hset [(1, .blk ba [(.int .i64 (y28))]), (2, .blk bo [(.bool (y29))]), (3, .rd lY vW W), (4, .sr gQ vF F), (5, .pt bw 0 [vW]), (6, .pt bwd 0 [(.func (.func 103) #[] #[(.pointer (some ⟨ba, 0, none⟩)), (.pointer (some ⟨bw, 0, none⟩)), (.pointer (some ⟨bo, 0, none⟩))])]), (7, .pt bf 0 [vF]), (8, .pt be 0 [(.func (.func 104) #[] #[(.pointer (some ⟨bo, 0, none⟩)), (.pointer (some ⟨bwd, 0, none⟩)), (.pointer (some ⟨bf, 0, none⟩))])]), (9, .pt bb 0 [(.func (.func 109) #[] #[(.pointer (some ⟨bwd, 0, none⟩)), (.pointer (some ⟨bo, 0, none⟩)), (.pointer (some ⟨be, 0, none⟩)), (.pointer (some ⟨bb, 0, none⟩))])]), (13, .own dM 147 v15 lF)]) ∧ qI N F0 lF W F a jZ x27 y28 y29 = some r) ?_ ?_)))
 rintro ⟨x27, y28, y29⟩ w dm ⟨h, hs⟩
 refine ai (ai (ag (ae (ak (v := (aP x27)) rfl) (ae (BO rfl rfl) (ah (aa (aJ hs rfl (fun Zg hs => ?_) (fun Zg hs => ?_))))))))
 refine ai (ag (ae (ak (v := v15) rfl) (ae (aj (v := v15) rfl) (ah (aa (aI (aB (aG (aB (aG (aB (bI (v := v15) Tryz.results109 rfl ?_))))))))))))
 replace h := h.freeze 13 rfl
 replace h := h.pair 1 2 (by decide)
 obtain rfl := Option.some.inj hs
 subst Ii
 obtain ⟨o1, o2, o3⟩ := h.zV 1 (C := (.two (.blk ba [(.int .i64 (y28))]) (.blk bo [(.bool (y29))]) : Chunk)) rfl ⟨trivial, trivial⟩
 exact ⟨o2, v15, rfl, o1, o3, h.xg 1 13 rfl rfl⟩
 refine aD (aa (ai (ag ?_)))
 obtain ⟨y31, e32, hs⟩ := aM hs
 refine aO LA rfl rfl (wB _ _ h.lt (hT.NY h.keep hG) [115, 101, 116, 32, 112, 117, 116, 32, 115, 97, 121, 32, 112, 97, 117, 115, 101, 32, 103, 111, 32, 105, 102, 32, 119, 104, 105, 108, 101, 32, 114, 101, 116, 117, 114, 110] _ e32) ?_
 rintro _ w ⟨k35, u33, rfl, YX⟩
 refine ⟨_, rfl, ?_⟩
 replace h := h.AJ 14 k35 YX
 refine ae (ak (v := (aP x27)) rfl) ?_
 obtain ⟨kG, e37, hs⟩ := aM hs
 refine aO QW rfl rfl (xU _ _ h.lt u33 y31 (h.mU 14 rfl) x27 _ e37) ?_
 rintro _ w ⟨Rc, rfl⟩
 refine ⟨_, rfl, ?_⟩
 replace h := h.grow Rc
 obtain ⟨a39, hs⟩ := aZ hs
 refine ae (bY rfl rfl a39) (ae (eD (pv := [(0, (.int .i64 ((kG + 1))))]) (out := [(.int .i64 ((kG + 1))), (.int .i64 (0)), (.slice none 0 0), (.slice none 0 0), (.slice none 0 0), (.slice none 0 0)]) Mt rfl ⟨0, 1, [(.int .i64 ((kG + 1)))], rfl, rfl, rfl, Nat.le_of_ble_eq_true rfl, rfl⟩) (bP h 15 mh fun w V4 h => dV (vs := [(.int .i64 ((kG + 1))), (.int .i64 (0)), (.slice none 0 0), (.slice none 0 0), (.slice none 0 0), (.slice none 0 0)]) h 15 [(.int .i64 ((kG + 1))), (.int .i64 (0)), (.slice none 0 0), (.slice none 0 0), (.slice none 0 0), (.slice none 0 0)] rfl mh rfl rfl rfl rfl rfl (ax rfl (ax rfl (ax rfl (ax rfl (ax rfl (ax rfl bA)))))) fun w h => ah (aa (ai (ai (ag (ae (aF h 2 rfl vI rfl rfl) (ae (ak (v := (.bool (y29))) rfl) (aC rfl rfl (fun q => au iV rfl) (aC rfl rfl (fun q => aF h 15 rfl aV (cO q) rfl) (aC rfl rfl (fun q => iR (cO q) rfl) (ae (gJ rfl rfl mR) (dX h 2 [(.bool ((y29 && decide ((0 : Int) < (kG + 1)))))] rfl vI rfl rfl rfl rfl rfl fun w h => ah (aa (ai (ag (ae (aF h 2 rfl vI rfl rfl) (ae (fZ rfl) (ah (aa ?_))))))))))))))))))))
 refine aJ hs rfl (fun TT hs => ?_) (fun TT hs => ?_)
 refine bT (aH (Dy (by decide) (aH (aT (aa (ai (ag (ae (aj (v := (.slice none 0 0)) rfl) (ah (aa (aI (bI (v := (.slice none 0 0)) Tryz.results109 rfl ?_))))))))))))
 replace h := h.pair 1 2 (by decide)
 obtain rfl := Option.some.inj hs
 subst Ii
 obtain ⟨o1, o2, o3⟩ := h.zV 1 (C := (.two (.blk ba [(.int .i64 (y28))]) (.blk bo [(.bool ((y29 && decide ((0 : Int) < (kG + 1)))))]) : Chunk)) rfl ⟨trivial, trivial⟩
 exact ⟨o2, .slice none 0 0, rfl, o1, o3, eZ.nil⟩
 refine aD (aa (bU (σ := Int × Bool × Int) (inl [36, 37, 38, 39, 40, 41, 42, 43, 44, 45]) (fun ⟨nA, xy, vR⟩ => []) (fun ⟨nA, xy, vR⟩ w => SH w0 M K0 w (hset [(1, .blk ba [(.int .i64 (nA))]), (2, .blk bo [(.bool (xy))]), (3, .rd lY vW W), (4, .sr gQ vF F), (5, .pt bw 0 [vW]), (6, .pt bwd 0 [(.func (.func 103) #[] #[(.pointer (some ⟨ba, 0, none⟩)), (.pointer (some ⟨bw, 0, none⟩)), (.pointer (some ⟨bo, 0, none⟩))])]), (7, .pt bf 0 [vF]), (8, .pt be 0 [(.func (.func 104) #[] #[(.pointer (some ⟨bo, 0, none⟩)), (.pointer (some ⟨bwd, 0, none⟩)), (.pointer (some ⟨bf, 0, none⟩))])]), (9, .pt bb 0 [(.func (.func 109) #[] #[(.pointer (some ⟨bwd, 0, none⟩)), (.pointer (some ⟨bo, 0, none⟩)), (.pointer (some ⟨be, 0, none⟩)), (.pointer (some ⟨bb, 0, none⟩))])]), (13, .own dM 147 v15 lF), (15, .blk V4 [(.int .i64 ((kG + 1))), (.int .i64 (vR)), (.slice none 0 0), (.slice none 0 0), (.slice none 0 0), (.slice none 0 0)])]) ∧ oF N F0 kG W F a lF jZ nA xy vR = some r) ?_ ?_))
 rintro ⟨nA, xy, vR⟩ w dm ⟨h, hs⟩
 refine bU (σ := Int × Bool × Value × List Tok) (inl [46, 47, 48, 49, 50, 51]) (fun ⟨Ky, Kz, v47, wU⟩ => []) (fun ⟨Ky, Kz, v47, wU⟩ w => SH w0 M K0 w (hset [(1, .blk ba [(.int .i64 (Ky))]), (2, .blk bo [(.bool (Kz))]), (3, .rd lY vW W), (4, .sr gQ vF F), (5, .pt bw 0 [vW]), (6, .pt bwd 0 [(.func (.func 103) #[] #[(.pointer (some ⟨ba, 0, none⟩)), (.pointer (some ⟨bw, 0, none⟩)), (.pointer (some ⟨bo, 0, none⟩))])]), (7, .pt bf 0 [vF]), (8, .pt be 0 [(.func (.func 104) #[] #[(.pointer (some ⟨bo, 0, none⟩)), (.pointer (some ⟨bwd, 0, none⟩)), (.pointer (some ⟨bf, 0, none⟩))])]), (9, .pt bb 0 [(.func (.func 109) #[] #[(.pointer (some ⟨bwd, 0, none⟩)), (.pointer (some ⟨bo, 0, none⟩)), (.pointer (some ⟨be, 0, none⟩)), (.pointer (some ⟨bb, 0, none⟩))])]), (13, .own dM 147 v15 lF), (15, .blk V4 [(.int .i64 ((kG + 1))), (.int .i64 (vR)), v47, (.slice none 0 0), (.slice none 0 0), (.slice none 0 0)]), (16, .rd jo v47 wU)]) ∧ qH N F0 kG W F a lF vR jZ Ky Kz wU = some r) ?_ ?_
 rintro ⟨Ky, Kz, v47, wU⟩ w dm ⟨h, hs⟩
 refine bU (σ := Int × Bool × Value × List Tok) (inl [52, 53, 54, 55, 56, 57]) (fun ⟨zP, p9, v51, qZ⟩ => []) (fun ⟨zP, p9, v51, qZ⟩ w => SH w0 M K0 w (hset [(1, .blk ba [(.int .i64 (zP))]), (2, .blk bo [(.bool (p9))]), (3, .rd lY vW W), (4, .sr gQ vF F), (5, .pt bw 0 [vW]), (6, .pt bwd 0 [(.func (.func 103) #[] #[(.pointer (some ⟨ba, 0, none⟩)), (.pointer (some ⟨bw, 0, none⟩)), (.pointer (some ⟨bo, 0, none⟩))])]), (7, .pt bf 0 [vF]), (8, .pt be 0 [(.func (.func 104) #[] #[(.pointer (some ⟨bo, 0, none⟩)), (.pointer (some ⟨bwd, 0, none⟩)), (.pointer (some ⟨bf, 0, none⟩))])]), (9, .pt bb 0 [(.func (.func 109) #[] #[(.pointer (some ⟨bwd, 0, none⟩)), (.pointer (some ⟨bo, 0, none⟩)), (.pointer (some ⟨be, 0, none⟩)), (.pointer (some ⟨bb, 0, none⟩))])]), (13, .own dM 147 v15 lF), (15, .blk V4 [(.int .i64 ((kG + 1))), (.int .i64 (vR)), v47, v51, (.slice none 0 0), (.slice none 0 0)]), (16, .rd jo v47 wU), (17, .rd jo v51 qZ)]) ∧ qG F0 kG a W F lF vR wU jZ zP p9 qZ = some r) ?_ ?_
 rintro ⟨zP, p9, v51, qZ⟩ w dm ⟨h, hs⟩
 refine bU (σ := Int × Bool × Value × List aU) (inl [58, 59, 60, 61, 62, 63, 64, 65, 66, 67, 68, 69, 70]) (fun ⟨IW, Nw, v55, Kw⟩ => []) (fun ⟨IW, Nw, v55, Kw⟩ w => SH w0 M K0 w (hset [(1, .blk ba [(.int .i64 (IW))]), (2, .blk bo [(.bool (Nw))]), (3, .rd lY vW W), (4, .sr gQ vF F), (5, .pt bw 0 [vW]), (6, .pt bwd 0 [(.func (.func 103) #[] #[(.pointer (some ⟨ba, 0, none⟩)), (.pointer (some ⟨bw, 0, none⟩)), (.pointer (some ⟨bo, 0, none⟩))])]), (7, .pt bf 0 [vF]), (8, .pt be 0 [(.func (.func 104) #[] #[(.pointer (some ⟨bo, 0, none⟩)), (.pointer (some ⟨bwd, 0, none⟩)), (.pointer (some ⟨bf, 0, none⟩))])]), (9, .pt bb 0 [(.func (.func 109) #[] #[(.pointer (some ⟨bwd, 0, none⟩)), (.pointer (some ⟨bo, 0, none⟩)), (.pointer (some ⟨be, 0, none⟩)), (.pointer (some ⟨bb, 0, none⟩))])]), (13, .own dM 147 v15 lF), (15, .blk V4 [(.int .i64 ((kG + 1))), (.int .i64 (vR)), v47, v51, v55, (.slice none 0 0)]), (16, .rd jo v47 wU), (17, .rd jo v51 qZ), (18, .rd dM v55 Kw)]) ∧ xC F0 kG a W F lF vR wU qZ jZ IW Nw Kw = some r) ?_ ?_
 rintro ⟨IW, Nw, v55, Kw⟩ w dm ⟨h, hs⟩
 refine bU (σ := Int × Bool × Value × List aU) (inl [71, 72, 73, 74, 75, 76, 77, 78]) (fun ⟨Uc, Ud, v59, yB⟩ => []) (fun ⟨Uc, Ud, v59, yB⟩ w => SH w0 M K0 w (hset [(1, .blk ba [(.int .i64 (Uc))]), (2, .blk bo [(.bool (Ud))]), (3, .rd lY vW W), (4, .sr gQ vF F), (5, .pt bw 0 [vW]), (6, .pt bwd 0 [(.func (.func 103) #[] #[(.pointer (some ⟨ba, 0, none⟩)), (.pointer (some ⟨bw, 0, none⟩)), (.pointer (some ⟨bo, 0, none⟩))])]), (7, .pt bf 0 [vF]), (8, .pt be 0 [(.func (.func 104) #[] #[(.pointer (some ⟨bo, 0, none⟩)), (.pointer (some ⟨bwd, 0, none⟩)), (.pointer (some ⟨bf, 0, none⟩))])]), (9, .pt bb 0 [(.func (.func 109) #[] #[(.pointer (some ⟨bwd, 0, none⟩)), (.pointer (some ⟨bo, 0, none⟩)), (.pointer (some ⟨be, 0, none⟩)), (.pointer (some ⟨bb, 0, none⟩))])]), (13, .own dM 147 v15 lF), (15, .blk V4 [(.int .i64 ((kG + 1))), (.int .i64 (vR)), v47, v51, v55, v59]), (16, .rd jo v47 wU), (17, .rd jo v51 qZ), (18, .rd dM v55 Kw), (19, .rd dM v59 yB)]) ∧ xB lF kG vR wU qZ Kw jZ Uc Ud yB = some r) ?_ ?_
 rintro ⟨Uc, Ud, v59, yB⟩ w dm ⟨h, hs⟩
 refine ag (ae (ak (v := v15) rfl) (ae (fA (vs := [(.int .i64 ((kG + 1))), (.int .i64 (vR)), v47, v51, v55, v59]) h 15 rfl mh rfl rfl rfl) (oV (R := dM) (vs := [(.agg #[(.int .i64 ((kG + 1))), (.int .i64 (vR)), v47, v51, v55, v59])]) (xs := [(⟨(kG + 1), vR, wU, qZ, Kw, yB⟩ : aU)]) h 20 FQ rfl rfl rfl ⟨(NV ⟨_, _, _, _, rfl, (h.fu 16 rfl), (h.fu 17 rfl), (h.fu 18 rfl), (h.fu 19 rfl)⟩), trivial⟩ rfl fun w Zh h => ?_)))
 obtain ⟨a62, hs⟩ := aZ hs
 refine jg (R := dM) (m := [(⟨(kG + 1), vR, wU, qZ, Kw, yB⟩ : aU)]) h 13 rfl (h.dJ 20 rfl) FQ rfl rfl rfl a62.1 a62.2 fun w u63 h => ae (aj (v := u63) rfl) (ah (az (ay ?_)))
 subst O8
 exact iQ ⟨V3, u63, (lF ++ [(⟨(kG + 1), vR, wU, qZ, Kw, yB⟩ : aU)]), Uc, Ud⟩ ⟨h.cn _, hs⟩
 refine ai (ag (ae (au iV rfl) (ae (aF h 15 rfl aV rfl rfl) (ae (bM rfl rfl) (ah (aa (aJ hs rfl (fun c64 hs => ?_) (fun c64 hs => ?_))))))))
 refine ag (ae (ed (k := 0) h 9 rfl D5 rfl rfl) (ae (ak (v := (.int .i64 (a))) rfl) ?_))
 obtain ⟨a65, hs⟩ := aZ hs
 refine ae (bY rfl rfl a65) ?_
 replace h := h.pair 1 2 (by decide)
 obtain ⟨Zi, Zj, Zk⟩ := h.l7 1 (C := (.two (.blk ba [(.int .i64 (IW))]) (.blk bo [(.bool (Nw))]) : Chunk)) rfl ⟨trivial, trivial⟩
 obtain ⟨Be, Q9, hs⟩ := aM hs
 refine aO GY rfl rfl (ih _ _ Zk (hT.NY h.keep hG) ba bo bw bwd bf be bb (⟨IW, Nw⟩ : dh) Zi Zj vW W (h.EY 1 3 rfl rfl) vF F (h.QN 1 4 rfl rfl) (by obtain ⟨E, hE⟩ := hbw; exact ⟨E, h.keep.blk hE Kr⟩) O6 (by obtain ⟨E, hE⟩ := Hf; exact ⟨E, h.keep.blk hE Ec⟩) Eb (by obtain ⟨E, hE⟩ := hbf; exact ⟨E, h.keep.blk hE Kt⟩) O7 (by obtain ⟨E, hE⟩ := hbe; exact ⟨E, h.keep.blk hE Ue⟩) Ve (by obtain ⟨E, hE⟩ := hbb; exact ⟨E, h.keep.blk hE Uf⟩) Vf (a + 1) (h.DU hT hG 1 (C := (.two (.blk ba [(.int .i64 (IW))]) (.blk bo [(.bool (Nw))]) : Chunk)) rfl) _ Q9) ?_
 rintro _ w ⟨k71, u69, rfl, h72, h73, g70⟩
 refine ⟨_, rfl, ?_⟩
 replace h := h.back 1 (C := (.two (.blk ba [(.int .i64 (IW))]) (.blk bo [(.bool (Nw))]) : Chunk)) (C' := (.two (.blk ba [(.int .i64 (Be.2.at_))]) (.blk bo [(.bool (Be.2.ok))]) : Chunk)) rfl ⟨trivial, trivial⟩ h72 k71 h73
 replace h := h.bG 21 (iU g70)
 replace h := h.iT 1 2 (by decide) rfl rfl
 refine ae (au wm rfl) (dX h 15 [(.int .i64 ((kG + 1))), (.int .i64 (vR)), v47, v51, v55, u69] rfl nu rfl rfl rfl rfl (h.fu 21 rfl).one fun w h => ah (ay ?_))
 replace h := h.vg 21 19 rfl
 exact bR (Be.2.at_, Be.2.ok, u69, Be.1) ⟨h.cn _, hs⟩
 refine aD (ay ?_)
 replace h := h.bG 19 (eZ.nil (R := dM))
 exact bR (IW, Nw, (.slice none 0 0), []) ⟨h.cn _, hs⟩
 refine ai (ag (ae (au iV rfl) (ae (aF h 15 rfl aV rfl rfl) (ae (bM rfl rfl) (ae (ak (v := (.bool (decide (((kG + 1) : Int) = 6)))) rfl) (aC rfl rfl (fun q => au iV rfl) (aC rfl rfl (fun q => aF h 15 rfl aV (cO q) rfl) (aC rfl rfl (fun q => bM (cO q) rfl) (ae (gM rfl rfl mR) (ah (aa (aJ hs rfl (fun Zl hs => ?_) (fun Zl hs => ?_)))))))))))))
 refine ag (ae (ed (k := 0) h 9 rfl D5 rfl rfl) (ae (ak (v := (.int .i64 (a))) rfl) ?_))
 obtain ⟨a75, hs⟩ := aZ hs
 refine ae (bY rfl rfl a75) ?_
 replace h := h.pair 1 2 (by decide)
 obtain ⟨Zm, Zn, Zo⟩ := h.l7 1 (C := (.two (.blk ba [(.int .i64 (zP))]) (.blk bo [(.bool (p9))]) : Chunk)) rfl ⟨trivial, trivial⟩
 obtain ⟨Rf, e78, hs⟩ := aM hs
 refine aO GY rfl rfl (ih _ _ Zo (hT.NY h.keep hG) ba bo bw bwd bf be bb (⟨zP, p9⟩ : dh) Zm Zn vW W (h.EY 1 3 rfl rfl) vF F (h.QN 1 4 rfl rfl) (by obtain ⟨E, hE⟩ := hbw; exact ⟨E, h.keep.blk hE Kr⟩) O6 (by obtain ⟨E, hE⟩ := Hf; exact ⟨E, h.keep.blk hE Ec⟩) Eb (by obtain ⟨E, hE⟩ := hbf; exact ⟨E, h.keep.blk hE Kt⟩) O7 (by obtain ⟨E, hE⟩ := hbe; exact ⟨E, h.keep.blk hE Ue⟩) Ve (by obtain ⟨E, hE⟩ := hbb; exact ⟨E, h.keep.blk hE Uf⟩) Vf (a + 1) (h.DU hT hG 1 (C := (.two (.blk ba [(.int .i64 (zP))]) (.blk bo [(.bool (p9))]) : Chunk)) rfl) _ e78) ?_
 rintro _ w ⟨Zp, u79, rfl, h82, Zq, g80⟩
 refine ⟨_, rfl, ?_⟩
 replace h := h.back 1 (C := (.two (.blk ba [(.int .i64 (zP))]) (.blk bo [(.bool (p9))]) : Chunk)) (C' := (.two (.blk ba [(.int .i64 (Rf.2.at_))]) (.blk bo [(.bool (Rf.2.ok))]) : Chunk)) rfl ⟨trivial, trivial⟩ h82 Zp Zq
 replace h := h.bG 22 (iU g80)
 replace h := h.iT 1 2 (by decide) rfl rfl
 refine ae (au vZ rfl) (dX h 15 [(.int .i64 ((kG + 1))), (.int .i64 (vR)), v47, v51, u79, (.slice none 0 0)] rfl nu rfl rfl rfl rfl (h.fu 22 rfl).one fun w h => ah (ay ?_))
 replace h := h.vg 22 18 rfl
 exact bR (Rf.2.at_, Rf.2.ok, u79, Rf.1) ⟨h.cn _, hs⟩
 refine aD (ay ?_)
 replace h := h.bG 18 (eZ.nil (R := dM))
 exact bR (zP, p9, (.slice none 0 0), []) ⟨h.cn _, hs⟩
 refine ai (ag (ae (au iV rfl) (ae (aF h 15 rfl aV rfl rfl) (ae (bM rfl rfl) (ah (aa (aJ hs rfl (fun c84 hs => ?_) (fun c84 hs => ?_))))))))
 refine ag (ae (ed (k := 0) h 8 rfl G8 rfl rfl) ?_)
 replace h := h.pair 1 2 (by decide)
 obtain ⟨Zr, Zt, Zu⟩ := h.l7 1 (C := (.two (.blk ba [(.int .i64 (Ky))]) (.blk bo [(.bool (Kz))]) : Chunk)) rfl ⟨trivial, trivial⟩
 obtain ⟨He, Y8, hs⟩ := aM hs
 refine aO Lv rfl rfl (FX N _ _ Zu (hT.NY h.keep hG) ba bo bw bwd bf (⟨Ky, Kz⟩ : dh) Zr Zt vW W (h.EY 1 3 rfl rfl) vF F (h.QN 1 4 rfl rfl) (by obtain ⟨E, hE⟩ := hbw; exact ⟨E, h.keep.blk hE Kr⟩) O6 (by obtain ⟨E, hE⟩ := Hf; exact ⟨E, h.keep.blk hE Ec⟩) Eb (by obtain ⟨E, hE⟩ := hbf; exact ⟨E, h.keep.blk hE Kt⟩) O7 (h.DU hT hG 1 (C := (.two (.blk ba [(.int .i64 (Ky))]) (.blk bo [(.bool (Kz))]) : Chunk)) rfl) _ Y8) ?_
 rintro _ w ⟨k90, u88, rfl, h91, Zv, g89⟩
 refine ⟨_, rfl, ?_⟩
 replace h := h.back 1 (C := (.two (.blk ba [(.int .i64 (Ky))]) (.blk bo [(.bool (Kz))]) : Chunk)) (C' := (.two (.blk ba [(.int .i64 (He.2.at_))]) (.blk bo [(.bool (He.2.ok))]) : Chunk)) rfl ⟨trivial, trivial⟩ h91 k90 Zv
 replace h := h.bG 23 (iU g89)
 replace h := h.iT 1 2 (by decide) rfl rfl
 refine ae (au yz rfl) (dX h 15 [(.int .i64 ((kG + 1))), (.int .i64 (vR)), v47, u88, (.slice none 0 0), (.slice none 0 0)] rfl uM rfl rfl rfl rfl (h.fu 23 rfl).one fun w h => ah (ay ?_))
 replace h := h.vg 23 17 rfl
 exact bR (He.2.at_, He.2.ok, u88, He.1) ⟨h.cn _, hs⟩
 refine aD (ay ?_)
 replace h := h.bG 17 (eZ.nil (R := jo))
 exact bR (Ky, Kz, (.slice none 0 0), []) ⟨h.cn _, hs⟩
 refine ai (ag (ae (au iV rfl) (ae (aF h 15 rfl aV rfl rfl) (ae (iH rfl rfl) (ah (aa (aJ hs rfl (fun c93 hs => ?_) (fun c93 hs => ?_))))))))
 refine ag (ae (ed (k := 0) h 8 rfl G8 rfl rfl) ?_)
 replace h := h.pair 1 2 (by decide)
 obtain ⟨l94a, l94b, Ug⟩ := h.l7 1 (C := (.two (.blk ba [(.int .i64 (nA))]) (.blk bo [(.bool (xy))]) : Chunk)) rfl ⟨trivial, trivial⟩
 obtain ⟨y95, Zw, hs⟩ := aM hs
 refine aO Lv rfl rfl (FX N _ _ Ug (hT.NY h.keep hG) ba bo bw bwd bf (⟨nA, xy⟩ : dh) l94a l94b vW W (h.EY 1 3 rfl rfl) vF F (h.QN 1 4 rfl rfl) (by obtain ⟨E, hE⟩ := hbw; exact ⟨E, h.keep.blk hE Kr⟩) O6 (by obtain ⟨E, hE⟩ := Hf; exact ⟨E, h.keep.blk hE Ec⟩) Eb (by obtain ⟨E, hE⟩ := hbf; exact ⟨E, h.keep.blk hE Kt⟩) O7 (h.DU hT hG 1 (C := (.two (.blk ba [(.int .i64 (nA))]) (.blk bo [(.bool (xy))]) : Chunk)) rfl) _ Zw) ?_
 rintro _ w ⟨Za, Vg, rfl, Zx, Zy, Zz⟩
 refine ⟨_, rfl, ?_⟩
 replace h := h.back 1 (C := (.two (.blk ba [(.int .i64 (nA))]) (.blk bo [(.bool (xy))]) : Chunk)) (C' := (.two (.blk ba [(.int .i64 (y95.2.at_))]) (.blk bo [(.bool (y95.2.ok))]) : Chunk)) rfl ⟨trivial, trivial⟩ Zx Za Zy
 replace h := h.bG 24 (iU Zz)
 replace h := h.iT 1 2 (by decide) rfl rfl
 refine ae (au vY rfl) (dX h 15 [(.int .i64 ((kG + 1))), (.int .i64 (vR)), Vg, (.slice none 0 0), (.slice none 0 0), (.slice none 0 0)] rfl uM rfl rfl rfl rfl (h.fu 24 rfl).one fun w h => ah (ay ?_))
 replace h := h.vg 24 16 rfl
 exact bR (y95.2.at_, y95.2.ok, Vg, y95.1) ⟨h.cn _, hs⟩
 refine aD (ay ?_)
 replace h := h.bG 16 (eZ.nil (R := jo))
 exact bR (nA, xy, (.slice none 0 0), []) ⟨h.cn _, hs⟩
 refine ai (ag (ae (au iV rfl) (ae (aF h 15 rfl aV rfl rfl) (ae (CF rfl rfl) (ah (aa (aJ hs rfl (fun Uh hs => ?_) (fun Uh hs => ?_))))))))
 refine ag (ae (ed (k := 0) h 6 rfl xx rfl rfl) (jh (args := [(.pointer (some ⟨ba, 0, none⟩)), (.pointer (some ⟨bw, 0, none⟩)), (.pointer (some ⟨bo, 0, none⟩))]) xu rfl rfl (aK (args := [(.pointer (some ⟨ba, 0, none⟩)), (.pointer (some ⟨bw, 0, none⟩)), (.pointer (some ⟨bo, 0, none⟩))]) Tryz.func103 rfl Tryz.ntmps103 (Nat.le_of_ble_eq_true rfl) (ai (ag (ae (aj (v := (aP [])) rfl) (ah (aa (ai (ai (ag (ae (aF h 1 rfl aV rfl rfl) (ae (ed (k := 0) h 5 rfl ll rfl rfl) (ae (bF dN rfl (h.mU 3 rfl)) (ae (oL rfl rfl) (ah (aa (aJ hs rfl (fun Ui hs => ?_) (fun Ui hs => ?_)))))))))))))))))))
 refine ai (ag (dX h 2 [(.bool (false))] rfl vI rfl rfl rfl rfl rfl fun w h => ah (aa (ai (ag (ae (aj (v := (aP [])) rfl) (ah (aa (aI (aB (bI (v := (aP [])) Tryz.results103 rfl (⟨_, rfl, ?_⟩))))))))))))
 obtain ⟨y104, Hl, hs⟩ := aM hs
 refine aO Ba rfl rfl (nP _ _ h.lt (hT.NY h.keep hG) [] _ Hl) ?_
 rintro _ w ⟨Fj, Jd, rfl, V5⟩
 refine ⟨_, rfl, ?_⟩
 replace h := h.grow Fj
 refine ae (ak (v := (.tuple #[(.int .i64 (y104.1)), Jd])) rfl) (ae (bC rfl rfl) (ae (bC rfl rfl) (ae (au si rfl) (dX h 15 [(.int .i64 ((kG + 1))), (.int .i64 (y104.1)), (.slice none 0 0), (.slice none 0 0), (.slice none 0 0), (.slice none 0 0)] rfl aV rfl rfl rfl rfl rfl fun w h => ah (ay ?_)))))
 exact bR (y28, false, y104.1) ⟨h.cn _, hs⟩
 refine aD (aa (ai (ag (ae (aF h 1 rfl aV rfl rfl) ?_))))
 obtain ⟨a109, hs⟩ := aZ hs
 refine ae (bY rfl rfl a109) (dX h 1 [(.int .i64 ((y28 + 1)))] rfl aV rfl rfl rfl rfl rfl fun w h => ah (aa (ai (ag (ae (ed (k := 0) h 5 rfl ll rfl rfl) (ae (aF h 1 rfl aV rfl rfl) ?_))))))
 obtain ⟨ZA, hs⟩ := aZ hs
 refine ae (rT rfl rfl ZA) ?_
 obtain ⟨KA, V6, hs⟩ := aM hs
 obtain ⟨b114, o115, cs116, h, ZB, i113⟩ := h.FD 3 25 rfl dN rfl (aX V6).1 (aX V6).2
 obtain rfl := ZB
 refine ae (i113 _ _ _ _ _ _ _ _ _ rfl rfl) (ae (ed (k := 0) h 25 rfl wu rfl rfl) (ae (aj (v := (aP KA)) rfl) (ah (aa (aI (bI (v := (aP KA)) Tryz.results103 rfl (⟨_, rfl, ?_⟩)))))))
 obtain ⟨KC, e119, hs⟩ := aM hs
 refine aO Ba rfl rfl (nP _ _ h.lt (hT.NY h.keep hG) KA _ e119) ?_
 rintro _ w ⟨ZC, ZE, rfl, g121⟩
 refine ⟨_, rfl, ?_⟩
 replace h := h.grow ZC
 refine ae (ak (v := (.tuple #[(.int .i64 (KC.1)), ZE])) rfl) (ae (bC rfl rfl) (ae (bC rfl rfl) (ae (au si rfl) (dX h 15 [(.int .i64 ((kG + 1))), (.int .i64 (KC.1)), (.slice none 0 0), (.slice none 0 0), (.slice none 0 0), (.slice none 0 0)] rfl aV rfl rfl rfl rfl rfl fun w h => ah (ay ?_)))))
 exact bR ((y28 + 1), (y29 && decide ((0 : Int) < (kG + 1))), KC.1) ⟨h.cn _, hs⟩
 refine aD (ay ?_)
 exact bR (y28, (y29 && decide ((0 : Int) < (kG + 1))), 0) ⟨h.cn _, hs⟩
 refine ag (ae (ed (k := 0) h 6 rfl xx rfl rfl) (jh (args := [(.pointer (some ⟨ba, 0, none⟩)), (.pointer (some ⟨bw, 0, none⟩)), (.pointer (some ⟨bo, 0, none⟩))]) xu rfl rfl (aK (args := [(.pointer (some ⟨ba, 0, none⟩)), (.pointer (some ⟨bw, 0, none⟩)), (.pointer (some ⟨bo, 0, none⟩))]) Tryz.func103 rfl Tryz.ntmps103 (Nat.le_of_ble_eq_true rfl) (ai (ag (ae (aj (v := (aP [])) rfl) (ah (aa (ai (ai (ag (ae (aF h 1 rfl aV rfl rfl) (ae (ed (k := 0) h 5 rfl ll rfl rfl) (ae (bF dN rfl (h.mU 3 rfl)) (ae (oL rfl rfl) (ah (aa (aJ hs rfl (fun ZF hs => ?_) (fun ZF hs => ?_)))))))))))))))))))
 refine ai (ag (dX h 2 [(.bool (false))] rfl vI rfl rfl rfl rfl rfl fun w h => ah (aa (ai (ag (ae (aj (v := (aP [])) rfl) (ah (aa (aI (aB (bI (v := (aP [])) Tryz.results103 rfl (⟨_, rfl, ?_⟩))))))))))))
 refine ae (aj (v := (aP [])) rfl) (ah (ay ?_))
 exact bR ([], Dh, false) ⟨h.cn _, hs⟩
 refine aD (aa (ai (ag (ae (aF h 1 rfl aV rfl rfl) ?_))))
 obtain ⟨a124, hs⟩ := aZ hs
 refine ae (bY rfl rfl a124) (dX h 1 [(.int .i64 ((Dh + 1)))] rfl aV rfl rfl rfl rfl rfl fun w h => ah (aa (ai (ag (ae (ed (k := 0) h 5 rfl ll rfl rfl) (ae (aF h 1 rfl aV rfl rfl) ?_))))))
 obtain ⟨ZG, hs⟩ := aZ hs
 refine ae (rT rfl rfl ZG) ?_
 obtain ⟨Jb, e127, hs⟩ := aM hs
 obtain ⟨b129, o130, cs131, h, ZH, i128⟩ := h.FD 3 26 rfl dN rfl (aX e127).1 (aX e127).2
 obtain rfl := ZH
 refine ae (i128 _ _ _ _ _ _ _ _ _ rfl rfl) (ae (ed (k := 0) h 26 rfl wu rfl rfl) (ae (aj (v := (aP Jb)) rfl) (ah (aa (aI (bI (v := (aP Jb)) Tryz.results103 rfl (⟨_, rfl, ?_⟩)))))))
 refine ae (aj (v := (aP Jb)) rfl) (ah (ay ?_))
 exact bR (Jb, (Dh + 1), EZ) ⟨h.cn _, hs⟩
 refine bT (aH (aH (aT (aa (ai (ag (ae (aj (v := (.slice none 0 0)) rfl) (ah (aa (aI (bI (v := (.slice none 0 0)) Tryz.results109 rfl ?_)))))))))))
 replace h := h.pair 1 2 (by decide)
 obtain rfl := Option.some.inj hs
 subst Ii
 obtain ⟨o1, o2, o3⟩ := h.zV 1 (C := (.two (.blk ba [(.int .i64 (Dh))]) (.blk bo [(.bool (EZ))]) : Chunk)) rfl ⟨trivial, trivial⟩
 exact ⟨o2, .slice none 0 0, rfl, o1, o3, eZ.nil⟩
 refine bU (σ := Bool × Int × Bool) (inl [10, 11, 12, 13, 14, 15, 16]) (fun ⟨zY, Di, Hg⟩ => [(16, (.bool (zY)))]) (fun ⟨zY, Di, Hg⟩ w => SH w0 M K0 w (hset [(1, .blk ba [(.int .i64 (Di))]), (2, .blk bo [(.bool (Hg))]), (3, .rd lY vW W), (4, .sr gQ vF F), (5, .pt bw 0 [vW]), (6, .pt bwd 0 [(.func (.func 103) #[] #[(.pointer (some ⟨ba, 0, none⟩)), (.pointer (some ⟨bw, 0, none⟩)), (.pointer (some ⟨bo, 0, none⟩))])]), (7, .pt bf 0 [vF]), (8, .pt be 0 [(.func (.func 104) #[] #[(.pointer (some ⟨bo, 0, none⟩)), (.pointer (some ⟨bwd, 0, none⟩)), (.pointer (some ⟨bf, 0, none⟩))])]), (9, .pt bb 0 [(.func (.func 109) #[] #[(.pointer (some ⟨bwd, 0, none⟩)), (.pointer (some ⟨bo, 0, none⟩)), (.pointer (some ⟨be, 0, none⟩)), (.pointer (some ⟨bb, 0, none⟩))])])]) ∧ qK N F0 W F a zY Di Hg = some r) ?_ ?_
 rintro ⟨zY, Di, Hg⟩ w dm ⟨h, hs⟩
 refine aJ hs rfl (fun ZI hs => ?_) (fun ZI hs => ?_)
 refine ag (dX h 2 [(.bool (false))] rfl vI rfl rfl rfl rfl rfl fun w h => ah (ay ?_))
 exact bR (Di, false) ⟨h.cn _, hs⟩
 refine aD (ay ?_)
 exact bR (Di, Hg) ⟨h.cn _, hs⟩
 refine ag (ae (ed (k := 0) h 6 rfl xx rfl rfl) (jh (args := [(.pointer (some ⟨ba, 0, none⟩)), (.pointer (some ⟨bw, 0, none⟩)), (.pointer (some ⟨bo, 0, none⟩))]) xu rfl rfl (aK (args := [(.pointer (some ⟨ba, 0, none⟩)), (.pointer (some ⟨bw, 0, none⟩)), (.pointer (some ⟨bo, 0, none⟩))]) Tryz.func103 rfl Tryz.ntmps103 (Nat.le_of_ble_eq_true rfl) (ai (ag (ae (aj (v := (aP [])) rfl) (ah (aa (ai (ai (ag (ae (aF h 1 rfl aV rfl rfl) (ae (ed (k := 0) h 5 rfl ll rfl rfl) (ae (bF dN rfl (h.mU 3 rfl)) (ae (oL rfl rfl) (ah (aa (aJ hs rfl (fun ZJ hs => ?_) (fun ZJ hs => ?_)))))))))))))))))))
 refine ai (ag (dX h 2 [(.bool (false))] rfl vI rfl rfl rfl rfl rfl fun w h => ah (aa (ai (ag (ae (aj (v := (aP [])) rfl) (ah (aa (aI (aB (bI (v := (aP [])) Tryz.results103 rfl (⟨_, rfl, ?_⟩))))))))))))
 refine ae (DR rfl rfl) (ae (ak (v := (.bool (true))) rfl) (bH (b' := true) rfl rfl rfl (bH (b' := true) rfl rfl rfl (ae (fw (b := true) (v := (.bool (true))) rfl rfl) (ah (ay ?_))))))
 exact bR (true, sx.at_, false) ⟨h.cn _, hs⟩
 refine aD (aa (ai (ag (ae (aF h 1 rfl aV rfl rfl) ?_))))
 obtain ⟨a138, hs⟩ := aZ hs
 refine ae (bY rfl rfl a138) (dX h 1 [(.int .i64 ((sx.at_ + 1)))] rfl aV rfl rfl rfl rfl rfl fun w h => ah (aa (ai (ag (ae (ed (k := 0) h 5 rfl ll rfl rfl) (ae (aF h 1 rfl aV rfl rfl) ?_))))))
 obtain ⟨a139, hs⟩ := aZ hs
 refine ae (rT rfl rfl a139) ?_
 obtain ⟨Jc, V7, hs⟩ := aM hs
 obtain ⟨b143, o144, cs145, h, ZK, i142⟩ := h.FD 3 27 rfl dN rfl (aX V7).1 (aX V7).2
 obtain rfl := ZK
 refine ae (i142 _ _ _ _ _ _ _ _ _ rfl rfl) (ae (ed (k := 0) h 27 rfl wu rfl rfl) (ae (aj (v := (aP Jc)) rfl) (ah (aa (aI (bI (v := (aP Jc)) Tryz.results103 rfl (⟨_, rfl, ?_⟩)))))))
 refine ae (DR rfl rfl) (ae (ak (v := (.bool (decide ((Jc : Str) ≠ [123])))) rfl) (aC rfl rfl (fun q => ak (v := (.int .i64 (a))) rfl) (aC rfl rfl (fun q => iR (cO q) rfl) (ae (gM rfl rfl mR) (ah (ay ?_))))))
 exact bR ((decide ((Jc : Str) ≠ [123]) || decide ((6 : Int) < a)), (sx.at_ + 1), sx.ok) ⟨h.cn _, hs⟩
def j3 (Fp : List dQ → Option (List dQ × Int)) (y24 : List dQ) : Option (List dQ × Int) :=
  Fp y24
def j4 (y1 : List Str) (i17 : Int) (uq : List dQ) (Fp : List dQ → Option (List dQ × Int)) (x30 : Bool) : Option (List dQ × Int) :=
  bif x30 then (idx y1 (i17 + 1)).bind fun x32 => (ym x32).bind fun y39 => gG (jb (i17 + 2)) ((idx y1 (i17 + 2)).bind fun ZL => (ym ZL).bind fun qZ => gG (Room 40 uq [(⟨y39.1, qZ.1, []⟩ : dQ)]) (j3 Fp (uq ++ [(⟨y39.1, qZ.1, []⟩ : dQ)]))) else j3 Fp uq
def gm (N : Nat) (y1 : List Str) (oQ : List dQ) (i101 : Int) (jB : (List dQ × Int × Bool) → Option (List dQ × Int)) (Dj : Int) (y112 : Bool) : Option (List dQ × Int) :=
  (sH N (⟨Dj, y112⟩ : dh) y1 oQ 1).bind fun ja => (idx oQ i101).bind fun uF => jB ((oQ.set (i101).toNat { uF with body := ja.1 }), ja.2.at_, ja.2.ok)
def gp (N : Nat) (y1 : List Str) (oQ : List dQ) (i101 : Int) (jB : (List dQ × Int × Bool) → Option (List dQ × Int)) (mY : Int) (Hm : Bool) : Option (List dQ × Int) :=
  bif decide (((y1.length : Int) : Int) ≤ mY) then gm N y1 oQ i101 jB mY false else gG (jb (mY + 1)) (gG (jb ((mY + 1) - 1)) ((idx y1 ((mY + 1) - 1)).bind fun Rh => gm N y1 oQ i101 jB (mY + 1) Hm))
def gq (N : Nat) (y1 : List Str) (oQ : List dQ) (i101 : Int) (jB : (List dQ × Int × Bool) → Option (List dQ × Int)) (mZ : Int) (Ho : Bool) : Option (List dQ × Int) :=
  bif decide (((y1.length : Int) : Int) ≤ mZ) then gp N y1 oQ i101 jB mZ false else gG (jb (mZ + 1)) (gG (jb ((mZ + 1) - 1)) ((idx y1 ((mZ + 1) - 1)).bind fun Ri => gp N y1 oQ i101 jB (mZ + 1) Ho))
def gu (N : Nat) (y1 : List Str) (oQ : List dQ) (i101 : Int) (jB : (List dQ × Int × Bool) → Option (List dQ × Int)) (Je : Bool) (Dk : Int) (Hq : Bool) : Option (List dQ × Int) :=
  bif Je then gq N y1 oQ i101 jB Dk false else gq N y1 oQ i101 jB Dk Hq
def ik (oQ : List dQ) (x159 : Bool) : Option (List dQ × Int) :=
  bif x159 then some ([], 1) else some (oQ, 0)
def gy (N : Nat) (y1 : List Str) (i101 : Int) (s : List dQ × Int × Bool) (jB : List dQ × Int × Bool → Option (List dQ × Int)) : Option (List dQ × Int) :=
  match s with | (oQ, y98, y99) => bif decide (((y1.length : Int) : Int) ≤ y98) then gu N y1 oQ i101 jB true y98 false else gG (jb (y98 + 1)) (gG (jb ((y98 + 1) - 1)) ((idx y1 ((y98 + 1) - 1)).bind fun x152 => gu N y1 oQ i101 jB (decide ((x152 : Str) ≠ [102, 117, 110])) (y98 + 1) y99))
def il (N : Nat) (y1 : List Str) (a : Str) (s : List dQ × Int × Bool) : Option (List dQ × Int) :=
  match s with | (oQ, y98, y99) => bif ((!y99) || decide ((y98 : Int) < (y1.length : Int))) then ik oQ true else (qb N oQ).bind fun O9 => bif decide ((O9 : Int) ≠ 0) then ik oQ true else (qC N oQ).bind fun Rj => ik oQ (decide ((Rj : Str) ≠ a))
def iq (uq : List dQ) (i64 : Int) (s : Unit) (V8 : Unit → Option (List dQ × Int)) : Option (List dQ × Int) :=
  (idx uq i64).bind fun Rk => bif (!(aR Rk.params 0 3)) then some ([], 1) else V8 ()
def gz (N : Nat) (y1 : List Str) (a : Str) (uq : List dQ) (s : Unit) : Option (List dQ × Int) :=
  upto (gy N y1) (il N y1 a) 0 ((uq.length : Int)).toNat (uq, 0, true)
def iw (y1 : List Str) (i17 : Int) (wV : Str) (uq : List dQ) (Fp : List dQ → Option (List dQ × Int)) : Option (List dQ × Int) :=
  bif decide ((wV : Str) = [102, 117, 110]) then gG (jb (i17 + 2)) (j4 y1 i17 uq Fp (decide (((i17 + 2) : Int) < (y1.length : Int)))) else j4 y1 i17 uq Fp false
def gB (N : Nat) (y1 : List Str) (a : Str) (uq : List dQ) : Option (List dQ × Int) :=
  bif (decide (((uq.length : Int) : Int) = 0) || decide ((4 : Int) < (uq.length : Int))) then some ([], 1) else upto (iq uq) (gz N y1 a uq) 0 ((uq.length : Int)).toNat ()
def jq (N : Nat) (a : Str) : Option (List dQ × Int) :=
  (GH a [32]).bind fun y1 => eX (iw y1) (gB N y1 a) 0 y1 []
end
end Go.Proofs.YtfclkapelkhlpaaGreatDoor
