/-
  What the law VmSwept needs of our own library and of the walks, no more.
-/
import Derived.Test.YtfclkapelkhlpaaGreatDoorProg
import Derived.Test.YtfclkapelkhlpaaGreatDoorVmSweptTb
set_option linter.unusedSimpArgs false
set_option linter.unusedVariables false
set_option maxRecDepth 10000
namespace Go.Proofs.YtfclkapelkhlpaaGreatDoor
open Go Go.Proofs Go.LX
noncomputable section
theorem Iy : nM Tryz.prog 111 147 6 112 := ⟨Tryz.underlying111, rU (z := (.agg #[(.int .i64 (0)), (.int .i64 (0)), (.slice none 0 0), (.slice none 0 0), (.slice none 0 0), (.slice none 0 0)])) (by kernel_rfl) rfl⟩
theorem Iz : nM Tryz.prog 145 160 2 16 := ⟨Tryz.underlying145, rU (z := (.agg #[(.int .i64 (0)), (.int .i64 (0))])) (by kernel_rfl) rfl⟩
theorem IA : nM Tryz.prog 153 9 1 16 := ⟨Tryz.underlying153, rU (z := (bz [])) (by kernel_rfl) rfl⟩
theorem O8 : nM Tryz.prog 204 111 1 24 := ⟨Tryz.underlying204, rU (z := (.slice none 0 0)) (by kernel_rfl) rfl⟩
theorem KJ : nM Tryz.prog 22 57 3 40 := ⟨Tryz.underlying22, rU (z := (.agg #[(.int .i64 (0)), (.int .i64 (0)), (.slice none 0 0)])) (by kernel_rfl) rfl⟩
theorem pJ : nM Tryz.prog 23 49 4 48 := ⟨Tryz.underlying23, rU (z := (.agg #[(.int .i64 (0)), (.int .i64 (0)), (.slice none 0 0), (.int .i64 (0))])) (by kernel_rfl) rfl⟩
theorem qK : nM Tryz.prog 24 47 1 24 := ⟨Tryz.underlying24, rU (z := (.slice none 0 0)) (by kernel_rfl) rfl⟩
theorem kK : nM Tryz.prog 27 3 1 8 := ⟨Tryz.underlying27, rU (z := (.int .i64 (0))) (by kernel_rfl) rfl⟩
theorem uk : nM Tryz.prog 47 51 2 16 := ⟨Tryz.underlying47, rU (z := (.agg #[(.int .i64 (0)), (.int .i64 (0))])) (by kernel_rfl) rfl⟩
theorem fu : nM Tryz.prog 55 93 5 56 := ⟨Tryz.underlying55, rU (z := (.agg #[(.int .i64 (0)), (.int .i64 (0)), (.int .i64 (0)), (.int .i64 (0)), (.slice none 0 0)])) (by kernel_rfl) rfl⟩
theorem KL : nM Tryz.prog 67 113 3 40 := ⟨Tryz.underlying67, rU (z := (.agg #[(.int .i64 (0)), (.int .i64 (0)), (.slice none 0 0)])) (by kernel_rfl) rfl⟩
theorem Q9 : fP Tryz.prog 101 0 0 := ⟨_, _, 0, Tryz.underlying101, rfl, rfl, by kernel_rfl⟩
theorem Ra : fP Tryz.prog 101 1 1 := ⟨_, _, 0, Tryz.underlying101, rfl, rfl, by kernel_rfl⟩
theorem FY : fP Tryz.prog 101 2 2 := ⟨_, _, 0, Tryz.underlying101, rfl, rfl, by kernel_rfl⟩
theorem um : fP Tryz.prog 113 0 0 := ⟨_, _, 0, Tryz.underlying113, rfl, rfl, by kernel_rfl⟩
theorem xK : fP Tryz.prog 113 1 1 := ⟨_, _, 0, Tryz.underlying113, rfl, rfl, by kernel_rfl⟩
theorem zN : fP Tryz.prog 113 2 2 := ⟨_, _, 0, Tryz.underlying113, rfl, rfl, by kernel_rfl⟩
theorem jP : fP Tryz.prog 147 0 0 := ⟨_, _, 0, Tryz.underlying147, rfl, rfl, by kernel_rfl⟩
theorem uo : fP Tryz.prog 147 1 1 := ⟨_, _, 0, Tryz.underlying147, rfl, rfl, by kernel_rfl⟩
theorem xL : fP Tryz.prog 147 2 2 := ⟨_, _, 0, Tryz.underlying147, rfl, rfl, by kernel_rfl⟩
theorem zO : fP Tryz.prog 147 3 3 := ⟨_, _, 0, Tryz.underlying147, rfl, rfl, by kernel_rfl⟩
theorem xM : fP Tryz.prog 147 4 4 := ⟨_, _, 0, Tryz.underlying147, rfl, rfl, by kernel_rfl⟩
theorem xN : fP Tryz.prog 147 5 5 := ⟨_, _, 0, Tryz.underlying147, rfl, rfl, by kernel_rfl⟩
theorem CG : fP Tryz.prog 160 0 0 := ⟨_, _, 0, Tryz.underlying160, rfl, rfl, by kernel_rfl⟩
theorem mU : fP Tryz.prog 160 1 1 := ⟨_, _, 0, Tryz.underlying160, rfl, rfl, by kernel_rfl⟩
theorem dY : fP Tryz.prog 26 0 0 := ⟨_, _, 0, Tryz.underlying26, rfl, rfl, by kernel_rfl⟩
theorem iW : fP Tryz.prog 26 1 1 := ⟨_, _, 0, Tryz.underlying26, rfl, rfl, by kernel_rfl⟩
theorem nO : fP Tryz.prog 26 2 2 := ⟨_, _, 0, Tryz.underlying26, rfl, rfl, by kernel_rfl⟩
theorem vG : fP Tryz.prog 26 3 3 := ⟨_, _, 0, Tryz.underlying26, rfl, rfl, by kernel_rfl⟩
theorem tX : fP Tryz.prog 49 0 0 := ⟨_, _, 0, Tryz.underlying49, rfl, rfl, by kernel_rfl⟩
theorem qU : fP Tryz.prog 49 1 1 := ⟨_, _, 0, Tryz.underlying49, rfl, rfl, by kernel_rfl⟩
theorem jW : fP Tryz.prog 49 2 2 := ⟨_, _, 0, Tryz.underlying49, rfl, rfl, by kernel_rfl⟩
theorem wV : fP Tryz.prog 49 3 3 := ⟨_, _, 0, Tryz.underlying49, rfl, rfl, by kernel_rfl⟩
theorem nP : fP Tryz.prog 51 0 0 := ⟨_, _, 0, Tryz.underlying51, rfl, rfl, by kernel_rfl⟩
theorem gM : fP Tryz.prog 51 1 1 := ⟨_, _, 0, Tryz.underlying51, rfl, rfl, by kernel_rfl⟩
theorem CJ : fP Tryz.prog 57 0 0 := ⟨_, _, 0, Tryz.underlying57, rfl, rfl, by kernel_rfl⟩
theorem yM : fP Tryz.prog 57 1 1 := ⟨_, _, 0, Tryz.underlying57, rfl, rfl, by kernel_rfl⟩
theorem qV : fP Tryz.prog 57 2 2 := ⟨_, _, 0, Tryz.underlying57, rfl, rfl, by kernel_rfl⟩
theorem pz : fP Tryz.prog 93 0 0 := ⟨_, _, 0, Tryz.underlying93, rfl, rfl, by kernel_rfl⟩
theorem kv : fP Tryz.prog 93 1 1 := ⟨_, _, 0, Tryz.underlying93, rfl, rfl, by kernel_rfl⟩
theorem iX : fP Tryz.prog 93 2 2 := ⟨_, _, 0, Tryz.underlying93, rfl, rfl, by kernel_rfl⟩
theorem qo : fP Tryz.prog 93 3 3 := ⟨_, _, 0, Tryz.underlying93, rfl, rfl, by kernel_rfl⟩
theorem vH : fP Tryz.prog 93 4 4 := ⟨_, _, 0, Tryz.underlying93, rfl, rfl, by kernel_rfl⟩
theorem JC : gQ Tryz.prog 100 := ⟨_, Tryz.func100, by kernel_rfl, rfl⟩
theorem Uk : gQ Tryz.prog 101 := ⟨_, Tryz.func101, by kernel_rfl, rfl⟩
theorem CK : gQ Tryz.prog 102 := ⟨_, Tryz.func102, by kernel_rfl, rfl⟩
theorem yN : gQ Tryz.prog 103 := ⟨_, Tryz.func103, by kernel_rfl, rfl⟩
theorem Oc : gQ Tryz.prog 104 := ⟨_, Tryz.func104, by kernel_rfl, rfl⟩
theorem Ul : gQ Tryz.prog 105 := ⟨_, Tryz.func105, by kernel_rfl, rfl⟩
theorem JD : gQ Tryz.prog 106 := ⟨_, Tryz.func106, by kernel_rfl, rfl⟩
theorem Od : gQ Tryz.prog 107 := ⟨_, Tryz.func107, by kernel_rfl, rfl⟩
theorem JE : gQ Tryz.prog 108 := ⟨_, Tryz.func108, by kernel_rfl, rfl⟩
theorem JF : gQ Tryz.prog 109 := ⟨_, Tryz.func109, by kernel_rfl, rfl⟩
theorem Um : gQ Tryz.prog 110 := ⟨_, Tryz.func110, by kernel_rfl, rfl⟩
theorem Oe : gQ Tryz.prog 111 := ⟨_, Tryz.func111, by kernel_rfl, rfl⟩
theorem Un : gQ Tryz.prog 112 := ⟨_, Tryz.func112, by kernel_rfl, rfl⟩
theorem Uo : gQ Tryz.prog 113 := ⟨_, Tryz.func113, by kernel_rfl, rfl⟩
theorem Uq : gQ Tryz.prog 114 := ⟨_, Tryz.func114, by kernel_rfl, rfl⟩
theorem Ur : gQ Tryz.prog 115 := ⟨_, Tryz.func115, by kernel_rfl, rfl⟩
theorem Fu : gQ Tryz.prog 116 := ⟨_, Tryz.func116, by kernel_rfl, rfl⟩
theorem Og : gQ Tryz.prog 117 := ⟨_, Tryz.func117, by kernel_rfl, rfl⟩
theorem Us : gQ Tryz.prog 124 := ⟨_, Tryz.func124, by kernel_rfl, rfl⟩
theorem Fv : gQ Tryz.prog 125 := ⟨_, Tryz.func125, by kernel_rfl, rfl⟩
theorem Oh : gQ Tryz.prog 128 := ⟨_, Tryz.func128, by kernel_rfl, rfl⟩
theorem JG : gQ Tryz.prog 129 := ⟨_, Tryz.func129, by kernel_rfl, rfl⟩
theorem JH : gQ Tryz.prog 130 := ⟨_, Tryz.func130, by kernel_rfl, rfl⟩
theorem Ut : gQ Tryz.prog 131 := ⟨_, Tryz.func131, by kernel_rfl, rfl⟩
theorem Uu : gQ Tryz.prog 141 := ⟨_, Tryz.func141, by kernel_rfl, rfl⟩
theorem yO : gQ Tryz.prog 144 := ⟨_, Tryz.func144, by kernel_rfl, rfl⟩
theorem AA : gQ Tryz.prog 145 := ⟨_, Tryz.func145, by kernel_rfl, rfl⟩
theorem Oi : gQ Tryz.prog 146 := ⟨_, Tryz.func146, by kernel_rfl, rfl⟩
theorem Oj : gQ Tryz.prog 147 := ⟨_, Tryz.func147, by kernel_rfl, rfl⟩
theorem Uv : gQ Tryz.prog 164 := ⟨_, Tryz.func164, by kernel_rfl, rfl⟩
theorem Rb : gQ Tryz.prog 18 := ⟨_, Tryz.func18, by kernel_rfl, rfl⟩
theorem Wo : gQ Tryz.prog 19 := ⟨_, Tryz.func19, by kernel_rfl, rfl⟩
theorem Mv : gQ Tryz.prog 20 := ⟨_, Tryz.func20, by kernel_rfl, rfl⟩
theorem Rc : gQ Tryz.prog 26 := ⟨_, Tryz.func26, by kernel_rfl, rfl⟩
theorem FZ : gQ Tryz.prog 27 := ⟨_, Tryz.func27, by kernel_rfl, rfl⟩
theorem Mw : gQ Tryz.prog 28 := ⟨_, Tryz.func28, by kernel_rfl, rfl⟩
theorem Wp : gQ Tryz.prog 29 := ⟨_, Tryz.func29, by kernel_rfl, rfl⟩
theorem Wq : gQ Tryz.prog 30 := ⟨_, Tryz.func30, by kernel_rfl, rfl⟩
theorem Ws : gQ Tryz.prog 39 := ⟨_, Tryz.func39, by kernel_rfl, rfl⟩
theorem Wt : gQ Tryz.prog 40 := ⟨_, Tryz.func40, by kernel_rfl, rfl⟩
theorem Wu : gQ Tryz.prog 44 := ⟨_, Tryz.func44, by kernel_rfl, rfl⟩
theorem Wv : gQ Tryz.prog 45 := ⟨_, Tryz.func45, by kernel_rfl, rfl⟩
theorem Ww : gQ Tryz.prog 46 := ⟨_, Tryz.func46, by kernel_rfl, rfl⟩
theorem Re : gQ Tryz.prog 47 := ⟨_, Tryz.func47, by kernel_rfl, rfl⟩
theorem Wx : gQ Tryz.prog 48 := ⟨_, Tryz.func48, by kernel_rfl, rfl⟩
theorem JI : gQ Tryz.prog 49 := ⟨_, Tryz.func49, by kernel_rfl, rfl⟩
theorem Rf : gQ Tryz.prog 50 := ⟨_, Tryz.func50, by kernel_rfl, rfl⟩
theorem xh : gQ Tryz.prog 51 := ⟨_, Tryz.func51, by kernel_rfl, rfl⟩
theorem Wy : gQ Tryz.prog 53 := ⟨_, Tryz.func53, by kernel_rfl, rfl⟩
theorem Mx : gQ Tryz.prog 55 := ⟨_, Tryz.func55, by kernel_rfl, rfl⟩
theorem Rh : gQ Tryz.prog 63 := ⟨_, Tryz.func63, by kernel_rfl, rfl⟩
theorem Wz : gQ Tryz.prog 64 := ⟨_, Tryz.func64, by kernel_rfl, rfl⟩
theorem WA : gQ Tryz.prog 65 := ⟨_, Tryz.func65, by kernel_rfl, rfl⟩
theorem JJ : gQ Tryz.prog 76 := ⟨_, Tryz.func76, by kernel_rfl, rfl⟩
theorem WB : gQ Tryz.prog 77 := ⟨_, Tryz.func77, by kernel_rfl, rfl⟩
theorem WE : gQ Tryz.prog 78 := ⟨_, Tryz.func78, by kernel_rfl, rfl⟩
theorem WG : gQ Tryz.prog 79 := ⟨_, Tryz.func79, by kernel_rfl, rfl⟩
theorem Ri : gQ Tryz.prog 80 := ⟨_, Tryz.func80, by kernel_rfl, rfl⟩
theorem MB : gQ Tryz.prog 81 := ⟨_, Tryz.func81, by kernel_rfl, rfl⟩
theorem Rj : gQ Tryz.prog 82 := ⟨_, Tryz.func82, by kernel_rfl, rfl⟩
theorem MC : gQ Tryz.prog 83 := ⟨_, Tryz.func83, by kernel_rfl, rfl⟩
theorem ME : gQ Tryz.prog 84 := ⟨_, Tryz.func84, by kernel_rfl, rfl⟩
theorem Rk : gQ Tryz.prog 85 := ⟨_, Tryz.func85, by kernel_rfl, rfl⟩
theorem WI : gQ Tryz.prog 86 := ⟨_, Tryz.func86, by kernel_rfl, rfl⟩
theorem Rl : gQ Tryz.prog 87 := ⟨_, Tryz.func87, by kernel_rfl, rfl⟩
theorem Rm : gQ Tryz.prog 88 := ⟨_, Tryz.func88, by kernel_rfl, rfl⟩
theorem Rn : gQ Tryz.prog 89 := ⟨_, Tryz.func89, by kernel_rfl, rfl⟩
theorem Ro : gQ Tryz.prog 90 := ⟨_, Tryz.func90, by kernel_rfl, rfl⟩
theorem WJ : gQ Tryz.prog 91 := ⟨_, Tryz.func91, by kernel_rfl, rfl⟩
theorem O9 : QN Tryz.prog 156 := ⟨by kernel_rfl⟩
theorem gF : uQ Tryz.prog 101 [(.bool (false)), (.int .i64 (0)), (.bool (false))] := ⟨⟨_, Tryz.underlying101, trivial⟩, by kernel_rfl⟩
theorem lN : uQ Tryz.prog 113 [(.int .i64 (0)), (.int .i64 (0)), (.slice none 0 0)] := ⟨⟨_, Tryz.underlying113, trivial⟩, by kernel_rfl⟩
theorem nQ : uQ Tryz.prog 147 [(.int .i64 (0)), (.int .i64 (0)), (.slice none 0 0), (.slice none 0 0), (.slice none 0 0), (.slice none 0 0)] := ⟨⟨_, Tryz.underlying147, trivial⟩, by kernel_rfl⟩
theorem jX : uQ Tryz.prog 160 [(.int .i64 (0)), (.int .i64 (0))] := ⟨⟨_, Tryz.underlying160, trivial⟩, by kernel_rfl⟩
theorem dw : uQ Tryz.prog 26 [(.slice none 0 0), (.slice none 0 0), (.int .i64 (0)), (.int .i64 (0))] := ⟨⟨_, Tryz.underlying26, trivial⟩, by kernel_rfl⟩
theorem iy : uQ Tryz.prog 49 [(.int .i64 (0)), (.int .i64 (0)), (.slice none 0 0), (.int .i64 (0))] := ⟨⟨_, Tryz.underlying49, trivial⟩, by kernel_rfl⟩
theorem bV : uQ Tryz.prog 51 [(.int .i64 (0)), (.int .i64 (0))] := ⟨⟨_, Tryz.underlying51, trivial⟩, by kernel_rfl⟩
theorem uV : uQ Tryz.prog 57 [(.int .i64 (0)), (.int .i64 (0)), (.slice none 0 0)] := ⟨⟨_, Tryz.underlying57, trivial⟩, by kernel_rfl⟩
theorem pK : uQ Tryz.prog 93 [(.int .i64 (0)), (.int .i64 (0)), (.int .i64 (0)), (.int .i64 (0)), (.slice none 0 0)] := ⟨⟨_, Tryz.underlying93, trivial⟩, by kernel_rfl⟩
theorem CL : MapOf Tryz.prog 125 (.bool (false)) := ⟨_, _, Tryz.underlying125, Tryz.underlying3, by kernel_rfl⟩
theorem kL : MapOf Tryz.prog 131 (bz []) := ⟨_, _, Tryz.underlying131, Tryz.underlying3, by kernel_rfl⟩
theorem Ol : MapOf Tryz.prog 89 (.int .i64 (0)) := ⟨_, _, Tryz.underlying89, Tryz.underlying3, by kernel_rfl⟩
theorem oN : One Tryz.prog 111 (.slice none 0 0) := ⟨⟨_, Tryz.underlying111, trivial⟩, by kernel_rfl, rfl⟩
theorem DF : One Tryz.prog 125 (.map none) := ⟨⟨_, Tryz.underlying125, trivial⟩, by kernel_rfl, rfl⟩
theorem vZ : One Tryz.prog 145 (.slice none 0 0) := ⟨⟨_, Tryz.underlying145, trivial⟩, by kernel_rfl, rfl⟩
theorem mE : One Tryz.prog 153 (.slice none 0 0) := ⟨⟨_, Tryz.underlying153, trivial⟩, by kernel_rfl, rfl⟩
theorem yP : One Tryz.prog 159 .nilFunc := ⟨⟨_, Tryz.underlying159, trivial⟩, by kernel_rfl, rfl⟩
theorem JK : One Tryz.prog 165 .nilFunc := ⟨⟨_, Tryz.underlying165, trivial⟩, by kernel_rfl, rfl⟩
theorem F3 : One Tryz.prog 166 .nilFunc := ⟨⟨_, Tryz.underlying166, trivial⟩, by kernel_rfl, rfl⟩
theorem iR : One Tryz.prog 23 (.slice none 0 0) := ⟨⟨_, Tryz.underlying23, trivial⟩, by kernel_rfl, rfl⟩
theorem mg : One Tryz.prog 24 (.slice none 0 0) := ⟨⟨_, Tryz.underlying24, trivial⟩, by kernel_rfl, rfl⟩
theorem uq : One Tryz.prog 27 (.slice none 0 0) := ⟨⟨_, Tryz.underlying27, trivial⟩, by kernel_rfl, rfl⟩
theorem aZ : One Tryz.prog 3 (.int .i64 (0)) := ⟨⟨_, Tryz.underlying3, trivial⟩, by kernel_rfl, rfl⟩
theorem wL : One Tryz.prog 4 (.bool (false)) := ⟨⟨_, Tryz.underlying4, trivial⟩, by kernel_rfl, rfl⟩
theorem kg : One Tryz.prog 47 (.slice none 0 0) := ⟨⟨_, Tryz.underlying47, trivial⟩, by kernel_rfl, rfl⟩
theorem zl : One Tryz.prog 55 (.slice none 0 0) := ⟨⟨_, Tryz.underlying55, trivial⟩, by kernel_rfl, rfl⟩
theorem xO : One Tryz.prog 67 (.slice none 0 0) := ⟨⟨_, Tryz.underlying67, trivial⟩, by kernel_rfl, rfl⟩
theorem Om : One Tryz.prog 89 (.map none) := ⟨⟨_, Tryz.underlying89, trivial⟩, by kernel_rfl, rfl⟩
theorem xP : One Tryz.prog 9 (bz []) := ⟨⟨_, Tryz.underlying9, trivial⟩, by kernel_rfl, rfl⟩
theorem Oo : NW Tryz.prog 51 := ⟨⟨_, _, Tryz.underlying51, by decide, by decide, rfl, rfl, Tryz.underlying3, Tryz.underlying3, by kernel_rfl, by kernel_rfl⟩, by kernel_rfl, by kernel_rfl⟩
theorem kM : SliceOf Tryz.prog 111 147 6 := ⟨Tryz.underlying111, by kernel_rfl⟩
theorem j5 : SliceOf Tryz.prog 145 160 2 := ⟨Tryz.underlying145, by kernel_rfl⟩
theorem eQ : SliceOf Tryz.prog 153 9 1 := ⟨Tryz.underlying153, by kernel_rfl⟩
theorem F4 : SliceOf Tryz.prog 204 111 1 := ⟨Tryz.underlying204, by kernel_rfl⟩
theorem jI : SliceOf Tryz.prog 22 57 3 := ⟨Tryz.underlying22, by kernel_rfl⟩
theorem dm : SliceOf Tryz.prog 23 49 4 := ⟨Tryz.underlying23, by kernel_rfl⟩
theorem dZ : SliceOf Tryz.prog 24 47 1 := ⟨Tryz.underlying24, by kernel_rfl⟩
theorem dC : SliceOf Tryz.prog 27 3 1 := ⟨Tryz.underlying27, by kernel_rfl⟩
theorem bK : SliceOf Tryz.prog 47 51 2 := ⟨Tryz.underlying47, by kernel_rfl⟩
theorem jA : SliceOf Tryz.prog 55 93 5 := ⟨Tryz.underlying55, by kernel_rfl⟩
theorem iM : SliceOf Tryz.prog 67 113 3 := ⟨Tryz.underlying67, by kernel_rfl⟩
theorem Pb : Struct Tryz.prog 101 [(.bool (false)), (.int .i64 (0)), (.bool (false))] [(0, 1), (1, 1), (2, 1)] := ⟨by kernel_rfl, _, Tryz.underlying101, by kernel_rfl⟩
theorem Pf : Struct Tryz.prog 113 [(.int .i64 (0)), (.int .i64 (0)), (.slice none 0 0)] [(0, 1), (1, 1), (2, 1)] := ⟨by kernel_rfl, _, Tryz.underlying113, by kernel_rfl⟩
theorem Pg : Struct Tryz.prog 147 [(.int .i64 (0)), (.int .i64 (0)), (.slice none 0 0), (.slice none 0 0), (.slice none 0 0), (.slice none 0 0)] [(0, 1), (1, 1), (2, 1), (3, 1), (4, 1), (5, 1)] := ⟨by kernel_rfl, _, Tryz.underlying147, by kernel_rfl⟩
theorem xQ : Struct Tryz.prog 160 [(.int .i64 (0)), (.int .i64 (0))] [(0, 1), (1, 1)] := ⟨by kernel_rfl, _, Tryz.underlying160, by kernel_rfl⟩
theorem wm : Struct Tryz.prog 26 [(.slice none 0 0), (.slice none 0 0), (.int .i64 (0)), (.int .i64 (0))] [(0, 1), (1, 1), (2, 1), (3, 1)] := ⟨by kernel_rfl, _, Tryz.underlying26, by kernel_rfl⟩
theorem F5 : Struct Tryz.prog 49 [(.int .i64 (0)), (.int .i64 (0)), (.slice none 0 0), (.int .i64 (0))] [(0, 1), (1, 1), (2, 1), (3, 1)] := ⟨by kernel_rfl, _, Tryz.underlying49, by kernel_rfl⟩
theorem uu : Struct Tryz.prog 51 [(.int .i64 (0)), (.int .i64 (0))] [(0, 1), (1, 1)] := ⟨by kernel_rfl, _, Tryz.underlying51, by kernel_rfl⟩
theorem Rp : Struct Tryz.prog 57 [(.int .i64 (0)), (.int .i64 (0)), (.slice none 0 0)] [(0, 1), (1, 1), (2, 1)] := ⟨by kernel_rfl, _, Tryz.underlying57, by kernel_rfl⟩
theorem mh : Struct Tryz.prog 93 [(.int .i64 (0)), (.int .i64 (0)), (.int .i64 (0)), (.int .i64 (0)), (.slice none 0 0)] [(0, 1), (1, 1), (2, 1), (3, 1), (4, 1)] := ⟨by kernel_rfl, _, Tryz.underlying93, by kernel_rfl⟩
theorem mixed : Tryz.prog.follows .mixedOrders = true := by kernel_rfl
theorem E9 (w0 : World) (M : BS) (hM : ∀ b, M b → b < w0.heap.size) (hT : uj Tryz.prog 4 w0) (a : Str) (b : Str) (r : List Str) (hs : Jt a b = some r) :
    Calls Tryz.prog 101 #[bz a, bz b] w0 (fun e w' => Grow w0 w' ∧ ∃ u, e = .returned u ∧ fH nJ w' M u r) :=
  TY Tryz.strings_Split hM hT hs
theorem pM (w0 : World) (M : BS) (hM : ∀ b, M b → b < w0.heap.size) (hT : uj Tryz.prog 4 w0) (a : Str) (r : Int × Bool) (hs : zJ a = some r) :
    Calls Tryz.prog 102 #[bz a] w0 (fun e w' => Grow w0 w' ∧ ∃ u, e = .returned (.tuple #[.int .i64 r.1, u]) ∧ Kz u r.2) :=
  V3 Tryz.strconv_Atoi_ok Tryz.strconv_Atoi_syntax_var Tryz.strconv_Atoi_range_var hT hs
def bC (a : Int) (b : Int) (c : Int) : Bool :=
  (decide ((b : Int) ≤ a) && decide ((a : Int) ≤ c))
theorem gT (w0 : World) (M : BS) (hM : ∀ b, M b → b < w0.heap.size) (a : Int) (b : Int) (c : Int) (r : Bool) (hs : bC a b c = r) :
    Calls Tryz.prog 51 #[(.int .i64 (a)), (.int .i64 (b)), (.int .i64 (c))] w0 (fun e w' => Grow w0 w' ∧ e = .returned (.bool r)) := by
 refine aS (args := [(.int .i64 (a)), (.int .i64 (b)), (.int .i64 (c))]) Tryz.func51 rfl Tryz.ntmps51 (Nat.le_of_ble_eq_true rfl) ?_
 have h := SH.init hM
 refine ai (ag (ae (aj (v := (.bool (false))) rfl) (ah (aa (ai (ag (ae (au (v := (.int .i64 (b))) rfl) (ae (au (v := (.int .i64 (a))) rfl) (ae (Cr rfl rfl) (ae (au (v := (.bool (decide ((b : Int) ≤ a)))) rfl) (aF rfl rfl (fun q => au (v := (.int .i64 (a))) rfl) (aF rfl rfl (fun q => au (v := (.int .i64 (c))) rfl) (aF rfl rfl (fun q => Cr (dA q) (dA q)) (ae (fV rfl rfl ma) (ae (aj (v := (.bool ((decide ((b : Int) ≤ a) && decide ((a : Int) ≤ c))))) rfl) (ah (aa (aK (cu (v := (.bool ((decide ((b : Int) ≤ a) && decide ((a : Int) ≤ c))))) Tryz.results51 rfl ?_)))))))))))))))))))
 obtain rfl := hs
 exact ⟨h.grown, rfl⟩
def nR (Ph : Int → Option (Int × Bool)) (x40 : Int) : Option (Int × Bool) :=
  Ph x40
def nS (F0 : List bI → Int → Option (Int × Bool)) (b : Int) (xB : List bI) (x32 : Int) (Ph : Int → Option (Int × Bool)) : Option (Int × Bool) :=
  bif decide ((0 : Int) < (xB.length : Int)) then ib (jO (b - 1)) ((F0 xB (b - 1)).bind fun xR => ib (jO (x32 + xR.1)) (bif ((!xR.2) || decide ((30 : Int) < (x32 + xR.1))) then some (0, false) else nR Ph (x32 + xR.1))) else nR Ph x32
def nT (Pj : Int → Option (Int × Bool)) (x32 : Int) : Option (Int × Bool) :=
  bif decide ((30 : Int) < x32) then some (0, false) else Pj x32
def nU (F0 : List bI → Int → Option (Int × Bool)) (b : Int) (a : List bI) (x8 : bI) (x5 : Int) (Pj : Int → Option (Int × Bool)) : Option (Int × Bool) :=
  ib (jO (x5 + 1)) (each (nS F0 b) (nT Pj) [x8.a, x8.b] (x5 + 1))
def nV (x5 : Int) : Option (Int × Bool) :=
  some (x5, true)
def vz (F0 : List bI → Int → Option (Int × Bool)) (a : List bI) (b : Int) : Option (Int × Bool) :=
  bif decide ((b : Int) < 1) then some (0, false) else each (nU F0 b a) nV a 0
def mi : Nat → List bI → Int → Option (Int × Bool)
  | 0 => fun _ _ => none
  | N + 1 => vz (mi N)
theorem Be : ∀ (N : Nat) (w0 : World) (M : BS) (hM : ∀ b, M b → b < w0.heap.size) (va : Value) (a : List bI) (ha : gL eP w0 BE M va a) (b : Int) (r : Int × Bool) (hs : mi N a b = some r),
    Calls Tryz.prog 128 #[va, (.int .i64 (b))] w0 (fun e w' => Grow w0 w' ∧ e = .returned (.tuple #[.int .i64 r.1, .bool r.2])) := by
 intro N
 induction N with
 | zero => intro w0 M hM va a ha b r hs; cases hs
 | succ N ih =>
 intro w0 M hM va a ha b r hs
 replace hs : vz (mi N) a b = some r := hs
 generalize mi N = F0 at hs ih
 refine aS (args := [va, (.int .i64 (b))]) Tryz.func128 rfl Tryz.ntmps128 (Nat.le_of_ble_eq_true rfl) ?_
 have h := SH.init hM
 replace h := h.fI 1 ha bN
 have uw := ha.cB
 refine ai (ag (ae (aj (v := (.int .i64 (0))) rfl) (ae (aj (v := (.bool (false))) rfl) (ah (aa (ai (ai (ag (ae (au (v := (.int .i64 (b))) rfl) (ae (dS rfl rfl) (ah (aa (aN hs rfl (fun c1 hs => ?_) (fun c1 hs => ?_))))))))))))))
 refine ai (ag (ae (aj (v := (.int .i64 (0))) rfl) (ae (aj (v := (.bool (false))) rfl) (ah (aa (aK (aC (Dq (v1 := (.int .i64 (0))) (v2 := (.bool (false))) Tryz.results128 rfl rfl ?_))))))))
 obtain rfl := Option.some.inj hs
 exact ⟨h.grown, rfl⟩
 refine aG (aa (ai (ag (ae (aj (v := (.int .i64 (0))) rfl) (ah (aa (ai (ai (ag (ae (au (v := va) rfl) (ae (bW kM rfl (h.iI 1 rfl)) (ae (au (v := (.int .i64 (0))) rfl) (ah (aa (aU (gP (σ := Nat × Int × Int) (inl [4, 5, 6, 8, 10, 11, 12, 17, 18, 19, 20, 21, 22, 23, 24, 25, 26, 27, 28, 29, 30, 31, 32, 33, 34, 35, 36, 37, 38, 39, 40, 41, 42, 43, 44, 45, 46, 47, 48, 49, 50, 51, 52, 53, 54, 55]) (fun ⟨k6, i7, x5⟩ => [(6, (.int .i64 (x5))), (17, (.int .i64 (i7)))]) (fun ⟨k6, i7, x5⟩ w => SH w0 M BE w (hset [(1, .sr eP va a)]) ∧ i7 = (k6 : Int) ∧ each (nU F0 b a) nV (a.drop k6) x5 = some r) (fun ⟨k6, i7, x5⟩ => a.length - k6) ⟨0, 0, 0⟩ ⟨rfl, rfl, trivial⟩ ?_ ?_))))))))))))))))
 exact ⟨h.cn _, rfl, hs⟩
 rintro ⟨k6, i7, x5⟩ w dD ⟨h, hik, hs⟩
 refine ai (ag ?_)
 refine ae (dS rfl rfl) (ah (aa ?_))
 refine ai (iJ rfl (fun e11 => ?_) (fun e11 => ?_))
 refine aG (aa ?_)
 obtain ⟨x8, e12a, e12b⟩ := gy (hik ▸ e11)
 rw [e12b, dW] at hs
 generalize YX : each (nU F0 b a) nV (a.drop (k6 + 1)) = Pj at hs
 have e12r := gD ((h.iI 1 rfl)).cB hik e11
 refine ai (aU (ai (ag ?_)))
 obtain ⟨b14, o15, cs16, h, r17, i13⟩ := h.xD 1 2 rfl kM rfl (iU hik) (gB hik e12a)
 obtain ⟨Qs, u20, u22, u24, rfl, g19, g21, g23, g25⟩ := yI r17
 replace h := h.di 3 g19.up
 replace h := h.di 4 g21.up.up
 replace h := h.di 5 g23.up.up.up
 replace h := h.di 6 g25.up.up.up.up
 refine ae (i13 _ _ _ _ _ _ _ _ _ rfl rfl) (ae (jg (k := 0) (vs := [(.int .i64 (x8.kind)), (.int .i64 (x8.n)), Qs, u20, u22, u24]) h 2 rfl nQ rfl rfl rfl (Nat.le_of_ble_eq_true rfl)) (bY h 7 nQ fun w WM h => dB (vs := [(.int .i64 (x8.kind)), (.int .i64 (x8.n)), Qs, u20, u22, u24]) h 7 [(.int .i64 (x8.kind)), (.int .i64 (x8.n)), Qs, u20, u22, u24] rfl nQ rfl rfl rfl rfl rfl (ay rfl (ay rfl (ay (h.iq 3 rfl).one (ay (h.iq 4 rfl).one (ay (h.iq 5 rfl).one (ay (h.iq 6 rfl).one bg)))))) fun w h => ah (aa (ai (ag (ae (au (v := (.int .i64 (x5))) rfl) ?_))))))
 obtain ⟨a27, hs⟩ := bM hs
 refine ae (dH rfl rfl a27) (ae (aj (v := (.int .i64 ((x5 + 1)))) rfl) (ah (aa (ai (ai (ag (ae (ak xM rfl) (ae (aD h 7 rfl oN rfl rfl) (ae (ak xN rfl) (ae (aD h 7 rfl oN rfl rfl) (tJ (R := (qj eP)) (vs := [u22, u24]) (xs := [x8.a, x8.b]) h 8 O8 rfl rfl rfl ⟨(h.iq 5 rfl).rdc, ⟨(h.iq 6 rfl).rdc, trivial⟩⟩ rfl fun w u28 h => ae (bW F4 rfl (h.eF 8 rfl)) (ae (au (v := (.int .i64 (0))) rfl) (ah (aa (aU ?_)))))))))))))))
 replace h := h.freeze 8 rfl
 refine gP (σ := Nat × Int × Int) (inl [4, 5, 6, 10, 11, 12, 29, 30, 31, 32, 33, 34, 35, 36, 37, 38, 39, 40, 41, 42, 43, 44, 45, 46, 47, 48, 49, 50, 51, 52]) (fun ⟨TJ, i34, x32⟩ => [(6, (.int .i64 (x32))), (29, (.int .i64 (i34)))]) (fun ⟨TJ, i34, x32⟩ w => SH w0 M BE w (hset [(1, .sr eP va a), (8, .rd (qj eP) u28 [x8.a, x8.b])]) ∧ i34 = (TJ : Int) ∧ each (nS F0 b) (nT Pj) ([x8.a, x8.b].drop TJ) x32 = some r) (fun ⟨TJ, i34, x32⟩ => [x8.a, x8.b].length - TJ) ⟨0, 0, (x5 + 1)⟩ ⟨rfl, rfl, trivial⟩ ?_ ?_
 exact ⟨h.cn _, rfl, hs⟩
 rintro ⟨TJ, i34, x32⟩ w dD ⟨h, hik, hs⟩
 refine ai (ag ?_)
 refine ae (dS rfl rfl) (ah (aa ?_))
 refine ai (iJ rfl (fun e38 => ?_) (fun e38 => ?_))
 refine aG (aa ?_)
 obtain ⟨xB, e39a, e39b⟩ := gy (hik ▸ e38)
 rw [e39b, dW] at hs
 generalize YY : each (nS F0 b) (nT Pj) ([x8.a, x8.b].drop (TJ + 1)) = Ph at hs
 have e39r := gD ((h.mH 8 rfl)).cB hik e38
 refine cz (σ := Int) (inl [4, 5, 6, 10, 11, 12, 31, 32, 33, 34, 35, 36, 37, 38, 39, 40, 41, 42, 43, 44, 45, 46, 47, 48, 49, 50, 51]) (fun x40 => [(6, (.int .i64 (x40)))]) (fun x40 w => SH w0 M BE w (hset [(1, .sr eP va a), (8, .rd (qj eP) u28 [x8.a, x8.b])]) ∧ nR Ph x40 = some r) ?_ ?_
 rintro x40 w dD ⟨h, hs⟩
 refine ag (ae (dH rfl rfl e39r) (ae (au (v := (.int .i64 ((i34 + 1)))) rfl) (ah (az ?_))))
 subst YY
 exact jN ⟨TJ + 1, i34 + 1, x40⟩ ⟨h.cn _, by omega, hs⟩ (by have := of_decide_eq_true e38; dsimp only; omega)
 refine aU (ai (ag ?_))
 obtain ⟨b42, o43, cs44, h, r45, i41⟩ := h.Dm 8 9 rfl F4 rfl (iU hik) (gB hik e39a)
 obtain ⟨u46, rfl, g47⟩ := r45
 replace h := h.di 10 g47.up
 refine ae (i41 _ _ _ _ _ _ _ _ _ rfl rfl) (ae (eO (k := 0) h 9 rfl oN rfl rfl) (ae (aj (v := u46) rfl) (ah (aa (ai (ag (ae (au (v := u46) rfl) (ae (bW kM rfl (h.mH 10 rfl)) (ae (j6 rfl rfl) (ah (aa (aN hs rfl (fun c48 hs => ?_) (fun c48 hs => ?_)))))))))))))
 refine ai (ag (ae (au (v := u46) rfl) (ae (au (v := (.int .i64 (b))) rfl) ?_)))
 obtain ⟨a49, hs⟩ := bM hs
 refine ae (oz rfl rfl a49) ?_
 obtain ⟨xR, e51, hs⟩ := aQ hs
 refine bA Oh rfl rfl (ih _ _ h.lt u46 xB (h.mH 10 rfl) (b - 1) _ e51) ?_
 rintro _ w ⟨k52, rfl⟩
 refine ⟨_, rfl, ?_⟩
 replace h := h.grow k52
 refine ae (au (v := (.tuple #[(.int .i64 (xR.1)), (.bool (xR.2))])) rfl) (ae (bF rfl rfl) (ae (bF rfl rfl) (ae (aj (v := (.int .i64 (xR.1))) rfl) (ae (aj (v := (.bool (xR.2))) rfl) (ah (aa (ai (ag (ae (au (v := (.int .i64 (x32))) rfl) (ae (au (v := (.int .i64 (xR.1))) rfl) ?_))))))))))
 obtain ⟨a53, hs⟩ := bM hs
 refine ae (dH rfl rfl a53) (ae (aj (v := (.int .i64 ((x32 + xR.1)))) rfl) (ah (aa (ai (ag (ae (au (v := (.bool (xR.2))) rfl) (ae (gZ rfl) (ae (au (v := (.bool ((!xR.2)))) rfl) (aF rfl rfl (fun q => au (v := (.int .i64 ((x32 + xR.1)))) rfl) (aF rfl rfl (fun q => j6 (dA q) rfl) (ae (ic rfl rfl ma) (ah (aa (aN hs rfl (fun c54 hs => ?_) (fun c54 hs => ?_)))))))))))))))
 refine ai (ag (ae (aj (v := (.int .i64 (0))) rfl) (ae (aj (v := (.bool (false))) rfl) (ah (aa (aK (aH (aC (aC (aH (aC (aH (aC (aC (aH (aC (Dq (v1 := (.int .i64 (0))) (v2 := (.bool (false))) Tryz.results128 rfl rfl ?_)))))))))))))))))
 obtain rfl := Option.some.inj hs
 exact ⟨h.grown, rfl⟩
 refine aG (aA (az ?_))
 exact bU (x32 + xR.1) ⟨h.cn _, hs⟩
 refine aG (aA (az ?_))
 exact bU x32 ⟨h.cn _, hs⟩
 rw [gz (hik ▸ e38), iw] at hs
 refine dh (aO (aO (bE (aa (ai (ag (ae (au (v := (.int .i64 (x32))) rfl) (ae (j6 rfl rfl) (ah (aa (aN hs rfl (fun c55 hs => ?_) (fun c55 hs => ?_))))))))))))
 refine ai (ag (ae (aj (v := (.int .i64 (0))) rfl) (ae (aj (v := (.bool (false))) rfl) (ah (aa (aK (aH (aC (aC (aH (aC (Dq (v1 := (.int .i64 (0))) (v2 := (.bool (false))) Tryz.results128 rfl rfl ?_))))))))))))
 obtain rfl := Option.some.inj hs
 exact ⟨h.grown, rfl⟩
 refine aG (aA (aa (ag (ae (dH rfl rfl e12r) (ae (au (v := (.int .i64 ((i7 + 1)))) rfl) (ah (az ?_)))))))
 subst YX
 exact jN ⟨k6 + 1, i7 + 1, x32⟩ ⟨h.cn _, by omega, hs⟩ (by have := of_decide_eq_true e11; dsimp only; omega)
 rw [gz (hik ▸ e11), iw] at hs
 refine dh (aO (aO (bE (aa (ai (ag (ae (au (v := (.int .i64 (x5))) rfl) (ae (aj (v := (.int .i64 (x5))) rfl) (ae (aj (v := (.bool (true))) rfl) (ah (aa (aK (Dq (v1 := (.int .i64 (x5))) (v2 := (.bool (true))) Tryz.results128 rfl rfl ?_)))))))))))))
 obtain rfl := Option.some.inj hs
 exact ⟨h.grown, rfl⟩
theorem jJ (w0 : World) (M : BS) (hM : ∀ b, M b → b < w0.heap.size) (a : Str) (b : UInt8) (r : Bool) (hs : hasB a b = r) :
    Calls Tryz.prog 145 #[(bz a), (bz [b])] w0 (fun e w' => Grow w0 w' ∧ e = .returned (.bool r)) := by
  refine (Tryz.strings_Contains_one ⟨a.toArray⟩ b w0).mono ?_
  rintro e w' ⟨rfl, rfl⟩
  subst hs
  exact ⟨aL.refl _ _, by simp [hasB]⟩
def aY (a : Int) (b : Int) : Bool :=
  (decide ((0 : Int) ≤ a) && decide ((a : Int) < b))
theorem qE (w0 : World) (M : BS) (hM : ∀ b, M b → b < w0.heap.size) (a : Int) (b : Int) (r : Bool) (hs : aY a b = r) :
    Calls Tryz.prog 55 #[(.int .i64 (a)), (.int .i64 (b))] w0 (fun e w' => Grow w0 w' ∧ e = .returned (.bool r)) := by
 refine aS (args := [(.int .i64 (a)), (.int .i64 (b))]) Tryz.func55 rfl Tryz.ntmps55 (Nat.le_of_ble_eq_true rfl) ?_
 have h := SH.init hM
 refine ai (ag (ae (aj (v := (.bool (false))) rfl) (ah (aa (ai (ag (ae (au (v := (.int .i64 (a))) rfl) (ae (oZ rfl rfl) (ae (au (v := (.bool (decide ((0 : Int) ≤ a)))) rfl) (aF rfl rfl (fun q => au (v := (.int .i64 (a))) rfl) (aF rfl rfl (fun q => au (v := (.int .i64 (b))) rfl) (aF rfl rfl (fun q => dS (dA q) (dA q)) (ae (fV rfl rfl ma) (ae (aj (v := (.bool ((decide ((0 : Int) ≤ a) && decide ((a : Int) < b))))) rfl) (ah (aa (aK (cu (v := (.bool ((decide ((0 : Int) ≤ a) && decide ((a : Int) < b))))) Tryz.results55 rfl ?_))))))))))))))))))
 obtain rfl := hs
 exact ⟨h.grown, rfl⟩
def fC (a : Int) : Bool :=
  (bC a (-1000000000) 1000000000)
theorem Bz (w0 : World) (M : BS) (hM : ∀ b, M b → b < w0.heap.size) (a : Int) (r : Bool) (hs : fC a = r) :
    Calls Tryz.prog 53 #[(.int .i64 (a))] w0 (fun e w' => Grow w0 w' ∧ e = .returned (.bool r)) := by
 refine aS (args := [(.int .i64 (a))]) Tryz.func53 rfl Tryz.ntmps53 (Nat.le_of_ble_eq_true rfl) ?_
 have h := SH.init hM
 refine ai (ag (ae (aj (v := (.bool (false))) rfl) (ah (aa (ai (ag (ae (au (v := (.int .i64 (a))) rfl) (bA xh rfl rfl (gT _ _ h.lt a (-1000000000) 1000000000 _ rfl) ?_))))))))
 rintro _ w ⟨k1, rfl⟩
 refine ⟨_, rfl, ?_⟩
 replace h := h.grow k1
 refine ae (aj (v := (.bool ((bC a (-1000000000) 1000000000)))) rfl) (ah (aa (aK (cu (v := (.bool ((bC a (-1000000000) 1000000000)))) Tryz.results53 rfl ?_))))
 obtain rfl := hs
 exact ⟨h.grown, rfl⟩
def fZ (x2 : Bool) : Int :=
  bif (!x2) then 3 else 0
def eG (a : Tok) (b : List fB) (c : Int) : Int :=
  bif decide ((a.kind : Int) = 1) then fZ (fC a.n) else bif decide ((a.kind : Int) = 2) then fZ (aY a.n c) else bif decide ((a.kind : Int) = 3) then fZ (bC a.n 1 5) else bif decide ((a.kind : Int) = 4) then fZ (bC a.n 0 3) else bif decide ((a.kind : Int) = 5) then fZ (bC a.n 1 4) else bif decide ((a.kind : Int) = 6) then bif (!(aY a.n (b.length : Int))) then 5 else fZ true else 4
theorem rY (w0 : World) (M : BS) (hM : ∀ b, M b → b < w0.heap.size) (a : Tok) (vb : Value) (b : List fB) (hb : gL iY w0 BE M vb b) (c : Int) (r : Int) (hs : eG a b c = r) :
    Calls Tryz.prog 107 #[(.agg #[(.int .i64 (a.kind)), (.int .i64 (a.n))]), vb, (.int .i64 (c))] w0 (fun e w' => Grow w0 w' ∧ e = .returned (.int .i64 r)) := by
 refine aS (args := [(.agg #[(.int .i64 (a.kind)), (.int .i64 (a.n))]), vb, (.int .i64 (c))]) Tryz.func107 rfl Tryz.ntmps107 (Nat.le_of_ble_eq_true rfl) ?_
 have h := SH.init hM
 replace h := h.fI 1 hb bN
 have JM := hb.cB
 refine ai (ag (oD (cs := [(.int .i64 (a.kind)), (.int .i64 (a.n))]) h 2 rfl rfl fun w b1 h => ae (aj (v := (.int .i64 (0))) rfl) (ah (aa (ai (ag (ae (aj (v := (.bool (false))) rfl) (ah (aa (cz (σ := Bool) (inl [6, 7, 8, 9, 10, 11, 12, 13, 14, 15, 16, 17, 18, 19, 20, 21, 22, 23, 24, 25, 26, 27, 28, 29, 30, 31, 32, 33, 34, 35, 36, 37, 38, 39, 40, 41, 42, 43]) (fun x2 => [(7, (.bool (x2)))]) (fun x2 w => SH w0 M BE w (hset []) ∧ fZ x2 = r) ?_ ?_))))))))))
 rintro x2 w dD ⟨h, hs⟩
 refine ai (ai (ag (ae (au (v := (.bool (x2))) rfl) (ae (gZ rfl) (ah (aa (aN hs rfl (fun c3 hs => ?_) (fun c3 hs => ?_))))))))
 refine ai (ag (ae (aj (v := (.int .i64 (3))) rfl) (ah (aa (aK (aC (cu (v := (.int .i64 (3))) Tryz.results107 rfl ?_)))))))
 obtain rfl := hs
 exact ⟨h.grown, rfl⟩
 refine aG (aa (ai (ag (ae (aj (v := (.int .i64 (0))) rfl) (ah (aa (aK (cu (v := (.int .i64 (0))) Tryz.results107 rfl ?_))))))))
 obtain rfl := hs
 exact ⟨h.grown, rfl⟩
 refine ai (ag (ae (ak CG rfl) (ae (aD h 2 rfl aZ rfl rfl) (ah (aa (aU (ai (ag (ae (bJ rfl rfl) (ae (aj (v := (.bool (decide ((a.kind : Int) = 1)))) rfl) (ah (aa (aN hs rfl (fun c4 hs => ?_) (fun c4 hs => ?_))))))))))))))
 refine ag (ae (ak mU rfl) (ae (aD h 2 rfl aZ rfl rfl) (bA Wy rfl rfl (Bz _ _ h.lt a.n _ rfl) ?_)))
 rintro _ w ⟨k5, rfl⟩
 refine ⟨_, rfl, ?_⟩
 replace h := h.grow k5
 refine ae (aj (v := (.bool ((fC a.n)))) rfl) (ah (aA (az ?_)))
 exact bU (fC a.n) ⟨h.cn _, hs⟩
 refine ai (ag (ae (bJ rfl rfl) (ae (aj (v := (.bool (decide ((a.kind : Int) = 2)))) rfl) (ah (aa (aN hs rfl (fun c6 hs => ?_) (fun c6 hs => ?_)))))))
 refine ag (ae (ak mU rfl) (ae (aD h 2 rfl aZ rfl rfl) (ae (au (v := (.int .i64 (c))) rfl) (bA Mx rfl rfl (qE _ _ h.lt a.n c _ rfl) ?_))))
 rintro _ w ⟨k7, rfl⟩
 refine ⟨_, rfl, ?_⟩
 replace h := h.grow k7
 refine ae (aj (v := (.bool ((aY a.n c)))) rfl) (ah (aA (az ?_)))
 exact bU (aY a.n c) ⟨h.cn _, hs⟩
 refine ai (ag (ae (bJ rfl rfl) (ae (aj (v := (.bool (decide ((a.kind : Int) = 3)))) rfl) (ah (aa (aN hs rfl (fun c8 hs => ?_) (fun c8 hs => ?_)))))))
 refine ag (ae (ak mU rfl) (ae (aD h 2 rfl aZ rfl rfl) (bA xh rfl rfl (gT _ _ h.lt a.n 1 5 _ rfl) ?_)))
 rintro _ w ⟨k9, rfl⟩
 refine ⟨_, rfl, ?_⟩
 replace h := h.grow k9
 refine ae (aj (v := (.bool ((bC a.n 1 5)))) rfl) (ah (aA (az ?_)))
 exact bU (bC a.n 1 5) ⟨h.cn _, hs⟩
 refine ai (ag (ae (bJ rfl rfl) (ae (aj (v := (.bool (decide ((a.kind : Int) = 4)))) rfl) (ah (aa (aN hs rfl (fun c10 hs => ?_) (fun c10 hs => ?_)))))))
 refine ag (ae (ak mU rfl) (ae (aD h 2 rfl aZ rfl rfl) (bA xh rfl rfl (gT _ _ h.lt a.n 0 3 _ rfl) ?_)))
 rintro _ w ⟨k11, rfl⟩
 refine ⟨_, rfl, ?_⟩
 replace h := h.grow k11
 refine ae (aj (v := (.bool ((bC a.n 0 3)))) rfl) (ah (aA (az ?_)))
 exact bU (bC a.n 0 3) ⟨h.cn _, hs⟩
 refine ai (ag (ae (bJ rfl rfl) (ae (aj (v := (.bool (decide ((a.kind : Int) = 5)))) rfl) (ah (aa (aN hs rfl (fun c12 hs => ?_) (fun c12 hs => ?_)))))))
 refine ag (ae (ak mU rfl) (ae (aD h 2 rfl aZ rfl rfl) (bA xh rfl rfl (gT _ _ h.lt a.n 1 4 _ rfl) ?_)))
 rintro _ w ⟨k13, rfl⟩
 refine ⟨_, rfl, ?_⟩
 replace h := h.grow k13
 refine ae (aj (v := (.bool ((bC a.n 1 4)))) rfl) (ah (aA (az ?_)))
 exact bU (bC a.n 1 4) ⟨h.cn _, hs⟩
 refine ai (ag (ae (bJ rfl rfl) (ae (aj (v := (.bool (decide ((a.kind : Int) = 6)))) rfl) (ah (aa (aN hs rfl (fun c14 hs => ?_) (fun c14 hs => ?_)))))))
 refine ai (ai (ag (ae (ak mU rfl) (ae (aD h 2 rfl aZ rfl rfl) (ae (au (v := vb) rfl) (ae (bW iM rfl (h.iI 1 rfl)) (bA Mx rfl rfl (qE _ _ h.lt a.n (b.length : Int) _ rfl) ?_)))))))
 rintro _ w ⟨k15, rfl⟩
 refine ⟨_, rfl, ?_⟩
 replace h := h.grow k15
 refine ae (gZ rfl) (ah (aa (aN hs rfl (fun c16 hs => ?_) (fun c16 hs => ?_))))
 refine ai (ag (ae (aj (v := (.int .i64 (5))) rfl) (ah (aa (aK (aC (aH (aC (cu (v := (.int .i64 (5))) Tryz.results107 rfl ?_)))))))))
 obtain rfl := hs
 exact ⟨h.grown, rfl⟩
 refine aG (aa (ag (ae (aj (v := (.bool (true))) rfl) (ah (aA (az ?_))))))
 exact bU true ⟨h.cn _, hs⟩
 refine ai (ag (ae (aj (v := (.int .i64 (4))) rfl) (ah (aa (aK (aH (aC (cu (v := (.int .i64 (4))) Tryz.results107 rfl ?_))))))))
 obtain rfl := hs
 exact ⟨h.grown, rfl⟩
def qp (a : Tok) (b : List fB) : Option Int :=
  bif decide ((a.kind : Int) = 3) then some 2 else bif decide ((a.kind : Int) = 4) then some 1 else bif decide ((a.kind : Int) = 6) then (idx b a.n).bind fun x5 => some x5.params else some 0
theorem qY (w0 : World) (M : BS) (hM : ∀ b, M b → b < w0.heap.size) (a : Tok) (vb : Value) (b : List fB) (hb : gL iY w0 BE M vb b) (r : Int) (hs : qp a b = some r) :
    Calls Tryz.prog 108 #[(.agg #[(.int .i64 (a.kind)), (.int .i64 (a.n))]), vb] w0 (fun e w' => Grow w0 w' ∧ e = .returned (.int .i64 r)) := by
 refine aS (args := [(.agg #[(.int .i64 (a.kind)), (.int .i64 (a.n))]), vb]) Tryz.func108 rfl Tryz.ntmps108 (Nat.le_of_ble_eq_true rfl) ?_
 have h := SH.init hM
 replace h := h.fI 1 hb bN
 have JM := hb.cB
 refine ai (ag (oD (cs := [(.int .i64 (a.kind)), (.int .i64 (a.n))]) h 2 rfl rfl fun w b1 h => ae (aj (v := (.int .i64 (0))) rfl) (ah (aa (ai (ai (ag (ae (ak CG rfl) (ae (aD h 2 rfl aZ rfl rfl) (ah (aa (aU (ai (ag (ae (bJ rfl rfl) (ae (aj (v := (.bool (decide ((a.kind : Int) = 3)))) rfl) (ah (aa (aN hs rfl (fun c2 hs => ?_) (fun c2 hs => ?_))))))))))))))))))))
 refine ai (ag (ae (aj (v := (.int .i64 (2))) rfl) (ah (aa (aK (aH (aC (cu (v := (.int .i64 (2))) Tryz.results108 rfl ?_))))))))
 obtain rfl := Option.some.inj hs
 exact ⟨h.grown, rfl⟩
 refine ai (ag (ae (bJ rfl rfl) (ae (aj (v := (.bool (decide ((a.kind : Int) = 4)))) rfl) (ah (aa (aN hs rfl (fun c3 hs => ?_) (fun c3 hs => ?_)))))))
 refine ai (ag (ae (aj (v := (.int .i64 (1))) rfl) (ah (aa (aK (aH (aC (cu (v := (.int .i64 (1))) Tryz.results108 rfl ?_))))))))
 obtain rfl := Option.some.inj hs
 exact ⟨h.grown, rfl⟩
 refine ai (ag (ae (bJ rfl rfl) (ae (aj (v := (.bool (decide ((a.kind : Int) = 6)))) rfl) (ah (aa (aN hs rfl (fun c4 hs => ?_) (fun c4 hs => ?_)))))))
 refine ai (ag (ae (au (v := vb) rfl) (ae (ak mU rfl) (ae (aD h 2 rfl aZ rfl rfl) ?_))))
 obtain ⟨x5, e6, hs⟩ := aQ hs
 obtain ⟨b8, o9, cs10, h, r11, i7⟩ := h.xD 1 3 rfl iM rfl (aI e6).1 (aI e6).2
 obtain ⟨TK, rfl, g13⟩ := ru r11
 replace h := h.di 4 g13.up
 refine ae (i7 _ _ _ _ _ _ _ _ _ rfl rfl) (ae (ak um rfl) (ae (eO (k := 0) h 3 rfl aZ rfl rfl) (ae (aj (v := (.int .i64 (x5.params))) rfl) (ah (aa (aK (aH (aC (cu (v := (.int .i64 (x5.params))) Tryz.results108 rfl ?_)))))))))
 obtain rfl := Option.some.inj hs
 exact ⟨h.grown, rfl⟩
 refine aG (aA (aa (ai (ag (ae (aj (v := (.int .i64 (0))) rfl) (ah (aa (aK (cu (v := (.int .i64 (0))) Tryz.results108 rfl ?_)))))))))
 obtain rfl := Option.some.inj hs
 exact ⟨h.grown, rfl⟩
def rZ (a : List Int) (s : Int × Int) (Rq : Int × Int → Option Int) : Option Int :=
  match s with | (Dn, mK) => bif decide ((mK : Int) < (a.length : Int)) then (idx a mK).bind fun x25 => ib (jO (mK + 1)) (Rq ((max Dn x25), (mK + 1))) else some Dn
def slices_Max_int (N : Nat) (a : List Int) : Option Int :=
  bif decide (((a.length : Int) : Int) < 1) then none else (idx a 0).bind fun x2 => again (rZ a) N (x2, 1)
theorem DI (N : Nat) (w0 : World) (M : BS) (hM : ∀ b, M b → b < w0.heap.size) (va : Value) (a : List Int) (ha : gL fT w0 BE M va a) (r : Int) (hs : slices_Max_int N a = some r) :
    Calls Tryz.prog 164 #[va] w0 (fun e w' => Grow w0 w' ∧ e = .returned (.int .i64 r)) := by
 refine aS (args := [va]) Tryz.func164 rfl Tryz.ntmps164 (Nat.le_of_ble_eq_true rfl) ?_
 have h := SH.init hM
 replace h := h.fI 1 ha bN
 have uw := ha.cB
 refine ai (ag (ae (aj (v := (.int .i64 (0))) rfl) (ah (aa (ai (ai (ag (ae (au (v := va) rfl) (ae (bW dC rfl (h.iI 1 rfl)) (ae (dS rfl rfl) (ah (aa (aN hs rfl (fun c1 hs => ?_) (fun c1 hs => ?_))))))))))))))
 cases hs
 refine aG (aa (ai (ag (ae (au (v := va) rfl) ?_))))
 obtain ⟨x2, e3, hs⟩ := aQ hs
 obtain ⟨b5, o6, cs7, h, r8, i4⟩ := h.xD 1 2 rfl dC rfl (aI e3).1 (aI e3).2
 obtain rfl := r8
 refine ae (i4 _ _ _ _ _ _ _ _ _ rfl rfl) (ae (eO (k := 0) h 2 rfl aZ rfl rfl) (ae (aj (v := (.int .i64 (x2))) rfl) (ah (aa (ai (ai (ag (ae (aj (v := (.int .i64 (1))) rfl) (ah (aa (aU (gP (σ := Nat × Int × Int) (inl [3, 4, 12, 13, 14, 15, 16, 17, 18, 19, 20, 21, 22, 23]) (fun ⟨m20, Dn, mK⟩ => [(3, (.int .i64 (Dn))), (4, (.int .i64 (mK)))]) (fun ⟨m20, Dn, mK⟩ w => SH w0 M BE w (hset [(1, .sr fT va a)]) ∧ again (rZ a) m20 (Dn, mK) = some r) (fun ⟨m20, Dn, mK⟩ => m20) ⟨N, x2, 1⟩ ⟨rfl, rfl, trivial⟩ ?_ ?_))))))))))))
 exact ⟨h.cn _, hs⟩
 rintro ⟨m20, Dn, mK⟩ w dD ⟨h, hs⟩
 obtain ⟨YZ, m20e, m20h⟩ := rf hs
 subst m20e
 replace hs := m20h
 generalize Rs : again (rZ a) YZ = Rq at hs
 refine ai (ai (ag (ae (au (v := (.int .i64 (mK))) rfl) (ae (au (v := va) rfl) (ae (bW dC rfl (h.iI 1 rfl)) (ae (dS rfl rfl) (ah (aa (aN hs rfl (fun c24 hs => ?_) (fun c24 hs => ?_))))))))))
 refine aG (aa (ai (aU (ag (ae (au (v := (.int .i64 (Dn))) rfl) (ae (au (v := va) rfl) (ae (au (v := (.int .i64 (mK))) rfl) ?_)))))))
 obtain ⟨x25, e26, hs⟩ := aQ hs
 obtain ⟨b28, o29, cs30, h, r31, i27⟩ := h.xD 1 3 rfl dC rfl (aI e26).1 (aI e26).2
 obtain rfl := r31
 refine ae (i27 _ _ _ _ _ _ _ _ _ rfl rfl) (ae (eO (k := 0) h 3 rfl aZ rfl rfl) (ae (YK rfl rfl) (ae (aj (v := (.int .i64 ((max Dn x25)))) rfl) (ah (aA (aa (ag (ae (au (v := (.int .i64 (mK))) rfl) ?_))))))))
 obtain ⟨a32, hs⟩ := bM hs
 refine ae (dH rfl rfl a32) (ae (aj (v := (.int .i64 ((mK + 1)))) rfl) (ah (az ?_)))
 subst Rs
 exact jN ⟨YZ, (max Dn x25), (mK + 1)⟩ ⟨h.cn _, hs⟩
 refine dh (aO (aO (bE (aa (ai (ag (ae (au (v := (.int .i64 (Dn))) rfl) (ae (aj (v := (.int .i64 (Dn))) rfl) (ah (aa (aK (cu (v := (.int .i64 (Dn))) Tryz.results164 rfl ?_))))))))))))
 obtain rfl := Option.some.inj hs
 exact ⟨h.grown, rfl⟩
def kN (x29 : Tok) (b : List fB) (CO : List Int → Option Int) (x66 : List Int) : Option Int :=
  (qp x29 b).bind fun tY => ib (Room 8 x66 [tY]) (CO (x66 ++ [tY]))
def kP (AB : List Int) (Pk : List Int → Option Int) (i28 : Int) (x29 : Tok) (b : List fB) (CO : List Int → Option Int) (X5 : Bool) : Option Int :=
  bif X5 then ib (jO ((AB.length : Int) - 1)) ((sub? AB 0 ((AB.length : Int) - 1)).bind fun x60 => Pk (AB.take (((AB.length : Int) - 1)).toNat)) else bif (decide ((0 : Int) < i28) && decide (((AB.length : Int) : Int) = 0)) then some 4 else bif decide ((0 : Int) < i28) then ib (jO ((AB.length : Int) - 1)) ((idx AB ((AB.length : Int) - 1)).bind fun Y0 => ib (jO (Y0 - 1)) (kN x29 b CO (AB.set (((AB.length : Int) - 1)).toNat (Y0 - 1)))) else kN x29 b CO AB
def kQ (i28 : Int) (x29 : Tok) (b : List fB) (CO : List Int → Option Int) (AB : List Int) (Pk : List Int → Option Int) : Option Int :=
  bif decide ((0 : Int) < (AB.length : Int)) then ib (jO ((AB.length : Int) - 1)) ((idx AB ((AB.length : Int) - 1)).bind fun x89 => kP AB Pk i28 x29 b CO (decide ((x89 : Int) = 0))) else kP AB Pk i28 x29 b CO false
def kR (DJ : Bool) : Option Int :=
  bif DJ then some 4 else some 0
def kS (N : Nat) (b : List fB) (c : Int) (i28 : Int) (x29 : Tok) (Pm : List Int) (CO : List Int → Option Int) : Option Int :=
  bif decide (((eG x29 b c) : Int) ≠ 0) then some (eG x29 b c) else again (kQ i28 x29 b CO) N Pm
def kT (N : Nat) (a : List Tok) (Pm : List Int) : Option Int :=
  bif decide (((a.length : Int) : Int) = 0) then kR true else ib (Room 8 [0] Pm) ((slices_Max_int N ([0] ++ Pm)).bind fun Uw => kR (decide ((0 : Int) < Uw)))
def kU (x4 : fB) (s : Unit) (Fa : Unit → Option Int) : Option Int :=
  bif (!(bC x4.params 0 3)) then some 3 else Fa ()
def kV (N : Nat) (b : List fB) (c : Int) (a : List Tok) (s : Unit) : Option Int :=
  dU (kS N b c) (kT N a) 0 a []
def oO (N : Nat) (a : List Tok) (b : List fB) (c : Int) : Option Int :=
  bif decide ((24 : Int) < (a.length : Int)) then some 2 else each kU (kV N b c a) b ()
theorem rA (N : Nat) (w0 : World) (M : BS) (hM : ∀ b, M b → b < w0.heap.size) (va : Value) (a : List Tok) (ha : gL ku w0 BE M va a) (vb : Value) (b : List fB) (hb : gL iY w0 BE M vb b) (c : Int) (r : Int) (hs : oO N a b c = some r) :
    Calls Tryz.prog 146 #[va, vb, (.int .i64 (c))] w0 (fun e w' => Grow w0 w' ∧ e = .returned (.int .i64 r)) := by
 refine aS (args := [va, vb, (.int .i64 (c))]) Tryz.func146 rfl Tryz.ntmps146 (Nat.le_of_ble_eq_true rfl) ?_
 have h := SH.init hM
 replace h := h.fI 1 ha bN
 replace h := h.fI 2 hb (dn bN)
 have uw := ha.cB
 have JM := hb.cB
 refine ai (ag (ae (aj (v := (.int .i64 (0))) rfl) (ah (aa (ai (ai (ag (ae (au (v := va) rfl) (ae (bW j5 rfl (h.iI 1 rfl)) (ae (j6 rfl rfl) (ah (aa (aN hs rfl (fun c1 hs => ?_) (fun c1 hs => ?_))))))))))))))
 refine ai (ag (ae (aj (v := (.int .i64 (2))) rfl) (ah (aa (aK (aC (cu (v := (.int .i64 (2))) Tryz.results146 rfl ?_)))))))
 obtain rfl := Option.some.inj hs
 exact ⟨h.grown, rfl⟩
 refine aG (aa (ai (ai (ag (ae (au (v := vb) rfl) (ae (bW iM rfl (h.iI 2 rfl)) (ae (au (v := (.int .i64 (0))) rfl) (ah (aa (aU (gP (σ := Nat × Int) (inl [6, 8, 18, 19, 20, 21, 22, 23, 24, 25, 26]) (fun ⟨k2, i3⟩ => [(18, (.int .i64 (i3)))]) (fun ⟨k2, i3⟩ w => SH w0 M BE w (hset [(1, .sr ku va a), (2, .sr iY vb b)]) ∧ i3 = (k2 : Int) ∧ each kU (kV N b c a) (b.drop k2) () = some r) (fun ⟨k2, i3⟩ => b.length - k2) ⟨0, 0⟩ ⟨rfl, trivial⟩ ?_ ?_)))))))))))
 exact ⟨h.cn _, rfl, hs⟩
 rintro ⟨k2, i3⟩ w dD ⟨h, hik, hs⟩
 refine ai (ag ?_)
 refine ae (dS rfl rfl) (ah (aa ?_))
 refine ai (iJ rfl (fun e7 => ?_) (fun e7 => ?_))
 refine aG (aa ?_)
 obtain ⟨x4, WN, WO⟩ := gy (hik ▸ e7)
 rw [WO, dW] at hs
 generalize F6 : each kU (kV N b c a) (b.drop (k2 + 1)) = Fa at hs
 have Rt := gD ((h.iI 2 rfl)).cB hik e7
 refine ai (aU (ai (ag ?_)))
 obtain ⟨b10, o11, WQ, h, WR, i9⟩ := h.xD 2 3 rfl iM rfl (iU hik) (gB hik WN)
 obtain ⟨IB, rfl, g15⟩ := ru WR
 replace h := h.di 4 g15.up
 refine ae (i9 _ _ _ _ _ _ _ _ _ rfl rfl) (ae (jg (k := 0) (vs := [(.int .i64 (x4.params)), (.int .i64 (x4.locals)), IB]) h 3 rfl lN rfl rfl rfl (Nat.le_of_ble_eq_true rfl)) (bY h 5 lN fun w b16 h => dB (vs := [(.int .i64 (x4.params)), (.int .i64 (x4.locals)), IB]) h 5 [(.int .i64 (x4.params)), (.int .i64 (x4.locals)), IB] rfl lN rfl rfl rfl rfl rfl (ay rfl (ay rfl (ay (h.iq 4 rfl).one bg))) fun w h => ah (aa (ai (ag (ae (ak um rfl) (ae (aD h 5 rfl aZ rfl rfl) (bA xh rfl rfl (gT _ _ h.lt x4.params 0 3 _ rfl) ?_))))))))
 rintro _ w ⟨k17, rfl⟩
 refine ⟨_, rfl, ?_⟩
 replace h := h.grow k17
 refine ae (gZ rfl) (ah (aa (aN hs rfl (fun c18 hs => ?_) (fun c18 hs => ?_))))
 refine ai (ag (ae (aj (v := (.int .i64 (3))) rfl) (ah (aa (aK (aH (aC (aC (aH (aC (cu (v := (.int .i64 (3))) Tryz.results146 rfl ?_)))))))))))
 obtain rfl := Option.some.inj hs
 exact ⟨h.grown, rfl⟩
 refine aG (aA (aa (ag (ae (dH rfl rfl Rt) (ae (au (v := (.int .i64 ((i3 + 1)))) rfl) (ah (az ?_)))))))
 subst F6
 exact jN ⟨k2 + 1, i3 + 1⟩ ⟨h.cn _, by omega, hs⟩ (by have := of_decide_eq_true e7; dsimp only; omega)
 rw [gz (hik ▸ e7), iw] at hs
 refine dh (aO (aO (bE (aa (ai (ag (ae (aj (v := (.slice none 0 0)) rfl) (ah (aa (ai (ai (ag (ae (au (v := va) rfl) (ae (bW j5 rfl (h.iI 1 rfl)) (ae (au (v := (.int .i64 (0))) rfl) (ah (aa (aU ?_))))))))))))))))))
 replace h := h.yF (R := fT) (E := 3) 9
 refine gP (σ := Nat × Int × Value × List Int) (inl [6, 9, 10, 11, 12, 29, 30, 31, 32, 33, 34, 35, 36, 37, 38, 39, 40, 41, 42, 43, 44, 45, 46, 47, 48, 49, 50, 51, 52, 53, 54, 55, 56, 57, 58, 59, 60, 61, 62, 63, 64, 65, 66, 67, 68, 69, 70, 71, 72, 73, 74, 75, 76, 77, 78, 79, 80, 81]) (fun ⟨k27, i28, v25, Pm⟩ => [(9, v25), (29, (.int .i64 (i28)))]) (fun ⟨k27, i28, v25, Pm⟩ w => SH w0 M BE w (hset [(1, .sr ku va a), (2, .sr iY vb b), (9, .own fT 3 v25 Pm)]) ∧ i28 = (k27 : Int) ∧ dU (kS N b c) (kT N a) i28 (a.drop k27) Pm = some r) (fun ⟨k27, i28, v25, Pm⟩ => a.length - k27) ⟨0, 0, (.slice none 0 0), []⟩ ⟨rfl, rfl, trivial⟩ ?_ ?_
 exact ⟨h.cn _, rfl, hs⟩
 rintro ⟨k27, i28, v25, Pm⟩ w dD ⟨h, hik, hs⟩
 refine ai (ag ?_)
 refine ae (dS rfl rfl) (ah (aa ?_))
 refine ai (iJ rfl (fun e32 => ?_) (fun e32 => ?_))
 refine aG (aa ?_)
 obtain ⟨x29, e33a, e33b⟩ := gy (hik ▸ e32)
 rw [e33b, gU] at hs
 generalize Y1 : dU (kS N b c) (kT N a) (i28 + 1) (a.drop (k27 + 1)) = CO at hs
 have e33r := gD ((h.iI 1 rfl)).cB hik e32
 refine ai (aU (ai (ag (ae (au (v := (.int .i64 (i28))) rfl) ?_))))
 obtain ⟨b35, o36, cs37, h, r38, i34⟩ := h.xD 1 10 rfl j5 rfl (iU hik) (gB hik e33a)
 obtain rfl := r38
 refine ae (i34 _ _ _ _ _ _ _ _ _ rfl rfl) (ae (jg (k := 0) (vs := [(.int .i64 (x29.kind)), (.int .i64 (x29.n))]) h 10 rfl jX rfl rfl rfl (Nat.le_of_ble_eq_true rfl)) (bY h 11 jX fun w b39 h => ae (aj (v := (.int .i64 (i28))) rfl) (dB (vs := [(.int .i64 (x29.kind)), (.int .i64 (x29.n))]) h 11 [(.int .i64 (x29.kind)), (.int .i64 (x29.n))] rfl jX rfl rfl rfl rfl rfl (ay rfl (ay rfl bg)) fun w h => ah (aa (ai (ai (ag (ae (dE (vs := [(.int .i64 (x29.kind)), (.int .i64 (x29.n))]) h 11 rfl jX rfl rfl rfl) (ae (au (v := vb) rfl) (ae (au (v := (.int .i64 (c))) rfl) (bA Od rfl rfl (rY _ _ h.lt x29 vb b (h.iI 2 rfl) c _ rfl) ?_)))))))))))
 rintro _ w ⟨k40, rfl⟩
 refine ⟨_, rfl, ?_⟩
 replace h := h.grow k40
 refine ae (aj (v := (.int .i64 ((eG x29 b c)))) rfl) (ah (aa (ai (ag (ae (au (v := (.int .i64 ((eG x29 b c)))) rfl) (ae (gu rfl rfl) (ah (aa (aN hs rfl (fun WS hs => ?_) (fun WS hs => ?_))))))))))
 refine ai (ag (ae (au (v := (.int .i64 ((eG x29 b c)))) rfl) (ae (aj (v := (.int .i64 ((eG x29 b c)))) rfl) (ah (aa (aK (aC (aH (aC (aC (aH (aC (cu (v := (.int .i64 ((eG x29 b c)))) Tryz.results146 rfl ?_)))))))))))))
 obtain rfl := Option.some.inj hs
 exact ⟨h.grown, rfl⟩
 refine aG (aa (ai (aU (gP (σ := Nat × Value × List Int) (inl [9, 41, 42, 43, 44, 45, 46, 47, 48, 49, 50, 51, 52, 53, 54, 55, 56, 57]) (fun ⟨Y2, v48, AB⟩ => [(9, v48)]) (fun ⟨Y2, v48, AB⟩ w => SH w0 M BE w (hset [(1, .sr ku va a), (2, .sr iY vb b), (9, .own fT 3 v48 AB), (11, .blk b39 [(.int .i64 (x29.kind)), (.int .i64 (x29.n))])]) ∧ again (kQ i28 x29 b CO) Y2 AB = some r) (fun ⟨Y2, v48, AB⟩ => Y2) ⟨N, v25, Pm⟩ ⟨rfl, trivial⟩ ?_ ?_))))
 exact ⟨h.cn _, hs⟩
 rintro ⟨Y2, v48, AB⟩ w dD ⟨h, hs⟩
 obtain ⟨Y3, m53e, m53h⟩ := rf hs
 subst m53e
 replace hs := m53h
 generalize Y4 : again (kQ i28 x29 b CO) Y3 = Pk at hs
 refine ai (cz (σ := Bool) (inl [41, 42, 43, 44, 45, 46, 47, 48, 49, 50, 51, 52]) (fun X5 => [(52, (.bool (X5)))]) (fun X5 w => SH w0 M BE w (hset [(1, .sr ku va a), (2, .sr iY vb b), (9, .own fT 3 v48 AB), (11, .blk b39 [(.int .i64 (x29.kind)), (.int .i64 (x29.n))])]) ∧ kP AB Pk i28 x29 b CO X5 = some r) ?_ ?_)
 rintro X5 w dD ⟨h, hs⟩
 refine aN hs rfl (fun c58 hs => ?_) (fun c58 hs => ?_)
 refine aG (aa (aU (ag (ae (au (v := v48) rfl) (ae (au (v := v48) rfl) (ae (bW dC rfl (h.eF 9 rfl)) ?_))))))
 obtain ⟨a59, hs⟩ := bM hs
 refine ae (oz rfl rfl a59) ?_
 obtain ⟨x60, e61, hs⟩ := aQ hs
 obtain ⟨e64, e64a, e64b, e64c⟩ := QC e61
 obtain ⟨X6, h, i63⟩ := h.YJ 9 rfl dC rfl e64b e64c
 refine ae (i63 _ _ _ _ _ _ _ _ _ _ rfl (.inl ⟨rfl, rfl⟩) (.inr (congrArg some rfl))) (ae (aj (v := X6) rfl) (ah (aA (az ?_))))
 subst Y4
 exact jN ⟨Y3, X6, (AB.take (((AB.length : Int) - 1)).toNat)⟩ ⟨h.cn _, hs⟩
 refine dh (aO (aO (bE (aa (ai (ai (ag (ae (au (v := (.int .i64 (i28))) rfl) (ae (j6 rfl rfl) (ae (au (v := (.bool (decide ((0 : Int) < i28)))) rfl) (aF rfl rfl (fun q => au (v := v48) rfl) (aF rfl rfl (fun q => bW dC (dA q) (h.eF 9 rfl)) (aF rfl rfl (fun q => bJ (dA q) rfl) (ae (fV rfl rfl ma) (ah (aa (aN hs rfl (fun Bf hs => ?_) (fun Bf hs => ?_))))))))))))))))))
 refine ai (ag (ae (aj (v := (.int .i64 (4))) rfl) (ah (aa (aK (aC (aH (aC (aC (aH (aC (cu (v := (.int .i64 (4))) Tryz.results146 rfl ?_))))))))))))
 obtain rfl := Option.some.inj hs
 exact ⟨h.grown, rfl⟩
 refine aG (aa (cz (σ := List Int) (inl [65, 66, 67, 68, 69, 70, 71, 72, 73, 74]) (fun x66 => []) (fun x66 w => SH w0 M BE w (hset [(1, .sr ku va a), (2, .sr iY vb b), (9, .own fT 3 v48 x66), (11, .blk b39 [(.int .i64 (x29.kind)), (.int .i64 (x29.n))])]) ∧ kN x29 b CO x66 = some r) ?_ ?_))
 rintro x66 w dD ⟨h, hs⟩
 refine ag (ae (au (v := v48) rfl) (ae (dE (vs := [(.int .i64 (x29.kind)), (.int .i64 (x29.n))]) h 11 rfl jX rfl rfl rfl) (ae (au (v := vb) rfl) ?_)))
 obtain ⟨tY, Ux, hs⟩ := aQ hs
 refine bA JE rfl rfl (qY _ _ h.lt x29 vb b (h.iI 2 rfl) _ Ux) ?_
 rintro _ w ⟨k69, rfl⟩
 refine ⟨_, rfl, ?_⟩
 replace h := h.grow k69
 refine tJ (R := fT) (vs := [(.int .i64 (tY))]) (xs := [tY]) h 13 kK rfl rfl rfl ⟨rfl, trivial⟩ rfl fun w u70 h => ?_
 obtain ⟨a71, hs⟩ := bM hs
 refine mO (R := fT) (m := [tY]) h 9 rfl (h.eF 13 rfl) kK rfl rfl rfl a71.1 a71.2 fun w u72 h => ae (aj (v := u72) rfl) (ah (aA (aa (ag (ae (dH rfl rfl e33r) (ae (au (v := (.int .i64 ((i28 + 1)))) rfl) (ah (az ?_))))))))
 subst Y1
 exact jN ⟨k27 + 1, i28 + 1, u72, (x66 ++ [tY])⟩ ⟨h.cn _, by omega, hs⟩ (by have := of_decide_eq_true e32; dsimp only; omega)
 refine ai (ag (ae (au (v := (.int .i64 (i28))) rfl) (ae (j6 rfl rfl) (ah (aa (aN hs rfl (fun c73 hs => ?_) (fun c73 hs => ?_)))))))
 refine ag (ae (au (v := v48) rfl) (ae (au (v := v48) rfl) (ae (bW dC rfl (h.eF 9 rfl)) ?_)))
 obtain ⟨a74, hs⟩ := bM hs
 refine ae (oz rfl rfl a74) ?_
 obtain ⟨Y0, X7, hs⟩ := aQ hs
 obtain ⟨b78, q79, i77⟩ := h.uR 9 rfl dC rfl (aI X7).1 (aI X7).2
 refine ae (i77 _ _ _ _ _ _ _ _ _ rfl rfl) ?_
 obtain ⟨cs80, m81, r82⟩ := h.xc 9 rfl q79 (aI X7).2
 obtain rfl := r82
 refine ae (oC (k := 0) m81 aZ rfl rfl) ?_
 obtain ⟨a83, hs⟩ := bM hs
 refine ae (oz rfl rfl a83) ?_
 obtain ⟨F7, q86, i84⟩ := h.uR 9 rfl dC rfl (aI X7).1 (aI X7).2
 refine ae (i84 _ _ _ _ _ _ _ _ _ rfl rfl) (Ij (off := 0) (a' := (Y0 - 1)) h 9 rfl q86 rfl (aI X7).2 aZ rfl rfl rfl rfl (fun cs hq => set1 rfl hq rfl rfl) fun w h => ah (az ?_))
 exact bU (AB.set (((AB.length : Int) - 1)).toNat (Y0 - 1)) ⟨h.cn _, hs⟩
 refine aG (az ?_)
 exact bU AB ⟨h.cn _, hs⟩
 refine ag (ae (au (v := v48) rfl) (ae (bW dC rfl (h.eF 9 rfl)) (ae (j6 rfl rfl) (ae (au (v := (.bool (decide ((0 : Int) < (AB.length : Int))))) rfl) (iQ (b := decide ((0 : Int) < (AB.length : Int))) hs (fun c87 hs => ?_) (fun c87 hs => ?_))))))
 refine dK rfl (congrArg Value.bool c87) (ae (au (v := v48) rfl) (dK rfl (congrArg Value.bool c87) (ae (au (v := v48) rfl) (dK rfl (congrArg Value.bool c87) (ae (bW dC rfl (h.eF 9 rfl)) (dK rfl (congrArg Value.bool c87) ?_))))))
 obtain ⟨a88, hs⟩ := bM hs
 refine ae (oz rfl rfl a88) (dK rfl (congrArg Value.bool c87) ?_)
 obtain ⟨x89, Y5, hs⟩ := aQ hs
 obtain ⟨b92, q93, i91⟩ := h.uR 9 rfl dC rfl (aI Y5).1 (aI Y5).2
 refine ae (i91 _ _ _ _ _ _ _ _ _ rfl rfl) (dK rfl (congrArg Value.bool c87) ?_)
 obtain ⟨cs94, m95, r96⟩ := h.xc 9 rfl q93 (aI Y5).2
 obtain rfl := r96
 refine ae (oC (k := 0) m95 aZ rfl rfl) (dK rfl (congrArg Value.bool c87) (ae (bJ rfl rfl) (ae (cK (b := true) (v := (.bool (decide ((x89 : Int) = 0)))) (congrArg Value.bool c87) rfl) (ah (az ?_)))))
 exact bU (decide ((x89 : Int) = 0)) ⟨h.cn _, hs⟩
 refine bH (b' := false) rfl (congrArg Value.bool c87) rfl (bH (b' := false) rfl (congrArg Value.bool c87) rfl (bH (b' := false) rfl (congrArg Value.bool c87) rfl (bH (b' := false) rfl (congrArg Value.bool c87) rfl (bH (b' := false) rfl (congrArg Value.bool c87) rfl (bH (b' := false) rfl (congrArg Value.bool c87) rfl (bH (b' := false) rfl (congrArg Value.bool c87) rfl (ae (cK (b := false) (v := (.bool (false))) (congrArg Value.bool c87) rfl) (ah (az ?_)))))))))
 exact bU false ⟨h.cn _, hs⟩
 rw [gz (hik ▸ e32), kI] at hs
 refine dh (aO (aO (bE (aa (ai (cz (σ := Bool) (inl [82, 83, 84, 85, 86, 87, 88, 89, 90, 91]) (fun DJ => [(91, (.bool (DJ)))]) (fun DJ w => SH w0 M BE w (hset []) ∧ kR DJ = some r) ?_ ?_))))))
 rintro DJ w dD ⟨h, hs⟩
 refine aN hs rfl (fun JN hs => ?_) (fun JN hs => ?_)
 refine ai (ag (ae (aj (v := (.int .i64 (4))) rfl) (ah (aa (aK (aC (cu (v := (.int .i64 (4))) Tryz.results146 rfl ?_)))))))
 obtain rfl := Option.some.inj hs
 exact ⟨h.grown, rfl⟩
 refine aG (aa (ai (ag (ae (aj (v := (.int .i64 (0))) rfl) (ah (aa (aK (cu (v := (.int .i64 (0))) Tryz.results146 rfl ?_))))))))
 obtain rfl := Option.some.inj hs
 exact ⟨h.grown, rfl⟩
 refine ag (ae (au (v := va) rfl) (ae (bW j5 rfl (h.iI 1 rfl)) (ae (bJ rfl rfl) (ae (au (v := (.bool (decide (((a.length : Int) : Int) = 0)))) rfl) (iQ (b := decide (((a.length : Int) : Int) = 0)) hs (fun DK hs => ?_) (fun DK hs => ?_))))))
 refine bH (b' := true) rfl (congrArg Value.bool DK) rfl (bH (b' := true) rfl (congrArg Value.bool DK) rfl (bH (b' := true) rfl (congrArg Value.bool DK) rfl (bH (b' := true) rfl (congrArg Value.bool DK) rfl (bH (b' := true) rfl (congrArg Value.bool DK) rfl (ae (cK (b := true) (v := (.bool (true))) (congrArg Value.bool DK) rfl) (ah (az ?_)))))))
 exact bU true ⟨h.cn _, hs⟩
 refine dK rfl (congrArg Value.bool DK) (tJ (R := fT) (vs := [(.int .i64 (0))]) (xs := [0]) h 14 kK rfl rfl rfl ⟨rfl, trivial⟩ rfl fun w WT h => dK rfl (congrArg Value.bool DK) (ae (au (v := v25) rfl) (dK rfl (congrArg Value.bool DK) ?_)))
 obtain ⟨Uy, hs⟩ := bM hs
 refine mO (R := fT) (m := Pm) h 14 rfl (h.eF 9 rfl) kK rfl rfl rfl Uy.1 Uy.2 fun w u102 h => dK rfl (congrArg Value.bool DK) ?_
 obtain ⟨Uw, Uz, hs⟩ := aQ hs
 refine bA Uv rfl rfl (DI N _ _ h.lt u102 ([0] ++ Pm) (h.eF 14 rfl) _ Uz) ?_
 rintro _ w ⟨k105, rfl⟩
 refine ⟨_, rfl, ?_⟩
 replace h := h.grow k105
 refine dK rfl (congrArg Value.bool DK) (ae (j6 rfl rfl) (ae (cK (b := false) (v := (.bool (decide ((0 : Int) < Uw)))) (congrArg Value.bool DK) rfl) (ah (az ?_))))
 exact bU (decide ((0 : Int) < Uw)) ⟨h.cn _, hs⟩
def bD (jV : Str) : Bool :=
  (hasB jV 78)
theorem uy (w0 : World) (M : BS) (hM : ∀ b, M b → b < w0.heap.size) (jV : Str) (q0 : Nat) (hq0 : ∃ E, w0.heap[q0]? = some (.cells #[(bz jV)] E (0, 0))) (r : Bool) (hs : bD jV = r) :
    Calls Tryz.prog 144 #[(bz [78]), (.pointer (some ⟨q0, 0, none⟩))] w0 (fun e w' => Grow w0 w' ∧ e = .returned (.bool r)) := by
 refine aS (args := [(bz [78]), (.pointer (some ⟨q0, 0, none⟩))]) Tryz.func144 rfl Tryz.ntmps144 (Nat.le_of_ble_eq_true rfl) ?_
 have h := SH.init hM
 replace h := h.Im 1 (cs := [(bz jV)]) hq0 bN
 refine ai (ag (ae (aj (v := (.bool (false))) rfl) (ah (aa (ai (ag (ae (eO (k := 0) h 1 rfl xP rfl rfl) (ae (au (v := (bz [78])) rfl) (bA AA rfl rfl (jJ _ _ h.lt jV 78 _ rfl) ?_)))))))))
 rintro _ w ⟨k1, rfl⟩
 refine ⟨_, rfl, ?_⟩
 replace h := h.grow k1
 refine ae (aj (v := (.bool ((hasB jV 78)))) rfl) (ah (aa (aK (cu (v := (.bool ((hasB jV 78)))) Tryz.results144 rfl ?_))))
 obtain rfl := hs
 exact ⟨h.grown, rfl⟩
def bQ (jV : Str) : Bool :=
  (hasB jV 69)
theorem uz (w0 : World) (M : BS) (hM : ∀ b, M b → b < w0.heap.size) (jV : Str) (q0 : Nat) (hq0 : ∃ E, w0.heap[q0]? = some (.cells #[(bz jV)] E (0, 0))) (r : Bool) (hs : bQ jV = r) :
    Calls Tryz.prog 144 #[(bz [69]), (.pointer (some ⟨q0, 0, none⟩))] w0 (fun e w' => Grow w0 w' ∧ e = .returned (.bool r)) := by
 refine aS (args := [(bz [69]), (.pointer (some ⟨q0, 0, none⟩))]) Tryz.func144 rfl Tryz.ntmps144 (Nat.le_of_ble_eq_true rfl) ?_
 have h := SH.init hM
 replace h := h.Im 1 (cs := [(bz jV)]) hq0 bN
 refine ai (ag (ae (aj (v := (.bool (false))) rfl) (ah (aa (ai (ag (ae (eO (k := 0) h 1 rfl xP rfl rfl) (ae (au (v := (bz [69])) rfl) (bA AA rfl rfl (jJ _ _ h.lt jV 69 _ rfl) ?_)))))))))
 rintro _ w ⟨k1, rfl⟩
 refine ⟨_, rfl, ?_⟩
 replace h := h.grow k1
 refine ae (aj (v := (.bool ((hasB jV 69)))) rfl) (ah (aa (aK (cu (v := (.bool ((hasB jV 69)))) Tryz.results144 rfl ?_))))
 obtain rfl := hs
 exact ⟨h.grown, rfl⟩
def cZ (jV : Str) : Bool :=
  (hasB jV 70)
theorem nL (w0 : World) (M : BS) (hM : ∀ b, M b → b < w0.heap.size) (jV : Str) (q0 : Nat) (hq0 : ∃ E, w0.heap[q0]? = some (.cells #[(bz jV)] E (0, 0))) (r : Bool) (hs : cZ jV = r) :
    Calls Tryz.prog 144 #[(bz [70]), (.pointer (some ⟨q0, 0, none⟩))] w0 (fun e w' => Grow w0 w' ∧ e = .returned (.bool r)) := by
 refine aS (args := [(bz [70]), (.pointer (some ⟨q0, 0, none⟩))]) Tryz.func144 rfl Tryz.ntmps144 (Nat.le_of_ble_eq_true rfl) ?_
 have h := SH.init hM
 replace h := h.Im 1 (cs := [(bz jV)]) hq0 bN
 refine ai (ag (ae (aj (v := (.bool (false))) rfl) (ah (aa (ai (ag (ae (eO (k := 0) h 1 rfl xP rfl rfl) (ae (au (v := (bz [70])) rfl) (bA AA rfl rfl (jJ _ _ h.lt jV 70 _ rfl) ?_)))))))))
 rintro _ w ⟨k1, rfl⟩
 refine ⟨_, rfl, ?_⟩
 replace h := h.grow k1
 refine ae (aj (v := (.bool ((hasB jV 70)))) rfl) (ah (aa (aK (cu (v := (.bool ((hasB jV 70)))) Tryz.results144 rfl ?_))))
 obtain rfl := hs
 exact ⟨h.grown, rfl⟩
def fG (jV : Str) : Bool :=
  (hasB jV 65)
theorem uA (w0 : World) (M : BS) (hM : ∀ b, M b → b < w0.heap.size) (jV : Str) (q0 : Nat) (hq0 : ∃ E, w0.heap[q0]? = some (.cells #[(bz jV)] E (0, 0))) (r : Bool) (hs : fG jV = r) :
    Calls Tryz.prog 144 #[(bz [65]), (.pointer (some ⟨q0, 0, none⟩))] w0 (fun e w' => Grow w0 w' ∧ e = .returned (.bool r)) := by
 refine aS (args := [(bz [65]), (.pointer (some ⟨q0, 0, none⟩))]) Tryz.func144 rfl Tryz.ntmps144 (Nat.le_of_ble_eq_true rfl) ?_
 have h := SH.init hM
 replace h := h.Im 1 (cs := [(bz jV)]) hq0 bN
 refine ai (ag (ae (aj (v := (.bool (false))) rfl) (ah (aa (ai (ag (ae (eO (k := 0) h 1 rfl xP rfl rfl) (ae (au (v := (bz [65])) rfl) (bA AA rfl rfl (jJ _ _ h.lt jV 65 _ rfl) ?_)))))))))
 rintro _ w ⟨k1, rfl⟩
 refine ⟨_, rfl, ?_⟩
 replace h := h.grow k1
 refine ae (aj (v := (.bool ((hasB jV 65)))) rfl) (ah (aa (aK (cu (v := (.bool ((hasB jV 65)))) Tryz.results144 rfl ?_))))
 obtain rfl := hs
 exact ⟨h.grown, rfl⟩
def pE (jV : Str) : Bool :=
  (hasB jV 66)
theorem uB (w0 : World) (M : BS) (hM : ∀ b, M b → b < w0.heap.size) (jV : Str) (q0 : Nat) (hq0 : ∃ E, w0.heap[q0]? = some (.cells #[(bz jV)] E (0, 0))) (r : Bool) (hs : pE jV = r) :
    Calls Tryz.prog 144 #[(bz [66]), (.pointer (some ⟨q0, 0, none⟩))] w0 (fun e w' => Grow w0 w' ∧ e = .returned (.bool r)) := by
 refine aS (args := [(bz [66]), (.pointer (some ⟨q0, 0, none⟩))]) Tryz.func144 rfl Tryz.ntmps144 (Nat.le_of_ble_eq_true rfl) ?_
 have h := SH.init hM
 replace h := h.Im 1 (cs := [(bz jV)]) hq0 bN
 refine ai (ag (ae (aj (v := (.bool (false))) rfl) (ah (aa (ai (ag (ae (eO (k := 0) h 1 rfl xP rfl rfl) (ae (au (v := (bz [66])) rfl) (bA AA rfl rfl (jJ _ _ h.lt jV 66 _ rfl) ?_)))))))))
 rintro _ w ⟨k1, rfl⟩
 refine ⟨_, rfl, ?_⟩
 replace h := h.grow k1
 refine ae (aj (v := (.bool ((hasB jV 66)))) rfl) (ah (aa (aK (cu (v := (.bool ((hasB jV 66)))) Tryz.results144 rfl ?_))))
 obtain rfl := hs
 exact ⟨h.grown, rfl⟩
def kW (Hy : Unit → Option Int) (r9 : Int) : Option Int :=
  bif decide ((r9 : Int) ≠ 0) then some r9 else Hy ()
def kX (F0 : List bI → List fB → Int → Option Int) (x3 : bI) (b : List fB) (c : Int) (Hy : Unit → Option Int) (xB : Int) : Option Int :=
  bif decide ((xB : Int) = 0) then (F0 x3.b b c).bind fun y39 => kW Hy y39 else kW Hy xB
def kY (F0 : List bI → List fB → Int → Option Int) (x3 : bI) (a : List bI) (b : List fB) (c : Int) (Hy : Unit → Option Int) (x34 : Int) : Option Int :=
  bif decide ((x34 : Int) = 0) then (F0 x3.a b c).bind fun yQ => kX F0 x3 b c Hy yQ else kX F0 x3 b c Hy x34
def kZ (N : Nat) (F0 : List bI → List fB → Int → Option Int) (x3 : bI) (b : List fB) (c : Int) (a : List bI) (Hy : Unit → Option Int) (yR : Int) : Option Int :=
  bif (decide ((yR : Int) = 0) && (cZ ((lk x3.kind ([(1, [78, 69]), (2, [78, 69, 70]), (3, [69]), (4, []), (5, [69]), (6, [69, 65, 66]), (7, [69, 65]), (8, [69])] : List (Int × Str))).getD []))) then (oO N x3.f b c).bind fun sW => kY F0 x3 a b c Hy sW else kY F0 x3 a b c Hy yR
def lg (N : Nat) (F0 : List bI → List fB → Int → Option Int) (a : List bI) (b : List fB) (c : Int) (x3 : bI) (s : Unit) (Hy : Unit → Option Int) : Option Int :=
  bif ((((((!(lk x3.kind ([(1, [78, 69]), (2, [78, 69, 70]), (3, [69]), (4, []), (5, [69]), (6, [69, 65, 66]), (7, [69, 65]), (8, [69])] : List (Int × Str))).isSome) || (decide ((x3.n : Int) ≠ 0) && (!(bD ((lk x3.kind ([(1, [78, 69]), (2, [78, 69, 70]), (3, [69]), (4, []), (5, [69]), (6, [69, 65, 66]), (7, [69, 65]), (8, [69])] : List (Int × Str))).getD []))))) || (decide ((0 : Int) < (x3.e.length : Int)) && (!(bQ ((lk x3.kind ([(1, [78, 69]), (2, [78, 69, 70]), (3, [69]), (4, []), (5, [69]), (6, [69, 65, 66]), (7, [69, 65]), (8, [69])] : List (Int × Str))).getD []))))) || (decide ((0 : Int) < (x3.f.length : Int)) && (!(cZ ((lk x3.kind ([(1, [78, 69]), (2, [78, 69, 70]), (3, [69]), (4, []), (5, [69]), (6, [69, 65, 66]), (7, [69, 65]), (8, [69])] : List (Int × Str))).getD []))))) || (decide ((0 : Int) < (x3.a.length : Int)) && (!(fG ((lk x3.kind ([(1, [78, 69]), (2, [78, 69, 70]), (3, [69]), (4, []), (5, [69]), (6, [69, 65, 66]), (7, [69, 65]), (8, [69])] : List (Int × Str))).getD []))))) || (decide ((0 : Int) < (x3.b.length : Int)) && (!(pE ((lk x3.kind ([(1, [78, 69]), (2, [78, 69, 70]), (3, [69]), (4, []), (5, [69]), (6, [69, 65, 66]), (7, [69, 65]), (8, [69])] : List (Int × Str))).getD []))))) then some 4 else bif ((decide ((x3.kind : Int) = 1) && (!(aY x3.n c))) || (decide ((x3.kind : Int) = 2) && (!(bC x3.n 0 3)))) then some 3 else bif (hasB ((lk x3.kind ([(1, [78, 69]), (2, [78, 69, 70]), (3, [69]), (4, []), (5, [69]), (6, [69, 65, 66]), (7, [69, 65]), (8, [69])] : List (Int × Str))).getD []) 69) then (oO N x3.e b c).bind fun KM => kZ N F0 x3 b c a Hy KM else kZ N F0 x3 b c a Hy 0
def lh (s : Unit) : Option Int :=
  some 0
def qL (N : Nat) (F0 : List bI → List fB → Int → Option Int) (a : List bI) (b : List fB) (c : Int) : Option Int :=
  each (lg N F0 a b c) lh a ()
def ji : Nat → List bI → List fB → Int → Option Int
  | 0 => fun _ _ _ => none
  | N + 1 => qL N (ji N)
theorem xk : ∀ (N : Nat) (w0 : World) (M : BS) (hM : ∀ b, M b → b < w0.heap.size) (va : Value) (a : List bI) (ha : gL eP w0 BE M va a) (vb : Value) (b : List fB) (hb : gL iY w0 BE M vb b) (c : Int) (r : Int) (hs : ji N a b c = some r),
    Calls Tryz.prog 129 #[va, vb, (.int .i64 (c))] w0 (fun e w' => Grow w0 w' ∧ e = .returned (.int .i64 r)) := by
 intro N
 induction N with
 | zero => intro w0 M hM va a ha vb b hb c r hs; cases hs
 | succ N ih =>
 intro w0 M hM va a ha vb b hb c r hs
 replace hs : qL N (ji N) a b c = some r := hs
 generalize ji N = F0 at hs ih
 refine aS (args := [va, vb, (.int .i64 (c))]) Tryz.func129 rfl Tryz.ntmps129 (Nat.le_of_ble_eq_true rfl) ?_
 have h := SH.init hM
 replace h := h.fI 1 ha bN
 replace h := h.fI 2 hb (dn bN)
 have uw := ha.cB
 have JM := hb.cB
 refine ai (ag (ae (aj (v := (.int .i64 (0))) rfl) (ah (aa (ai (ai (ag (ae (au (v := va) rfl) (ae (bW kM rfl (h.iI 1 rfl)) (ae (au (v := (.int .i64 (0))) rfl) (ah (aa (aU (gP (σ := Nat × Int) (inl [6, 8, 9, 10, 11, 12, 15, 16, 17, 18, 19, 20, 21, 22, 23, 24, 25, 26, 27, 28, 29, 30, 31, 32, 33, 34, 35, 36, 37, 38, 39, 40, 41, 42, 43, 44, 45, 46, 47, 48, 49, 50, 51, 52, 53, 54, 55, 56, 57, 58, 59, 60, 61, 62, 63, 64, 65, 66, 67, 68, 69, 70, 71, 72, 73, 74, 75, 76, 77, 78, 79, 80, 81, 82, 83, 84, 85, 86, 87, 88, 89, 90, 91, 92, 93, 94, 95, 96, 97, 98, 99, 100, 101, 102, 103, 104, 105, 106, 107, 108, 109, 110, 111, 112, 113, 114, 115, 116, 117, 118, 119, 120, 121, 122, 123, 124, 125, 126, 127, 128, 129, 130, 131, 132, 133, 134, 135, 136, 137, 138, 139, 140]) (fun ⟨k1, i2⟩ => [(15, (.int .i64 (i2)))]) (fun ⟨k1, i2⟩ w => SH w0 M BE w (hset [(1, .sr eP va a), (2, .sr iY vb b)]) ∧ i2 = (k1 : Int) ∧ each (lg N F0 a b c) lh (a.drop k1) () = some r) (fun ⟨k1, i2⟩ => a.length - k1) ⟨0, 0⟩ ⟨rfl, trivial⟩ ?_ ?_))))))))))))))
 exact ⟨h.cn _, rfl, hs⟩
 rintro ⟨k1, i2⟩ w dD ⟨h, hik, hs⟩
 refine ai (ag ?_)
 refine ae (dS rfl rfl) (ah (aa ?_))
 refine ai (iJ rfl (fun e6 => ?_) (fun e6 => ?_))
 refine aG (aa ?_)
 obtain ⟨x3, e7a, Y6⟩ := gy (hik ▸ e6)
 rw [Y6, dW] at hs
 generalize WU : each (lg N F0 a b c) lh (a.drop (k1 + 1)) = Hy at hs
 have e7r := gD ((h.iI 1 rfl)).cB hik e6
 refine ai (aU (ai (ag ?_)))
 obtain ⟨b9, o10, cs11, h, Y7, i8⟩ := h.xD 1 3 rfl kM rfl (iU hik) (gB hik e7a)
 obtain ⟨Ma, Fb, Fw, KN, rfl, g14, g16, g18, g20⟩ := yI Y7
 replace h := h.di 4 g14.up
 replace h := h.di 5 g16.up.up
 replace h := h.di 6 g18.up.up.up
 replace h := h.di 7 g20.up.up.up.up
 refine ae (i8 _ _ _ _ _ _ _ _ _ rfl rfl) (ae (jg (k := 0) (vs := [(.int .i64 (x3.kind)), (.int .i64 (x3.n)), Ma, Fb, Fw, KN]) h 3 rfl nQ rfl rfl rfl (Nat.le_of_ble_eq_true rfl)) (bY h 8 nQ fun w Hz h => dB (vs := [(.int .i64 (x3.kind)), (.int .i64 (x3.n)), Ma, Fb, Fw, KN]) h 8 [(.int .i64 (x3.kind)), (.int .i64 (x3.n)), Ma, Fb, Fw, KN] rfl nQ rfl rfl rfl rfl rfl (ay rfl (ay rfl (ay (h.iq 4 rfl).one (ay (h.iq 5 rfl).one (ay (h.iq 6 rfl).one (ay (h.iq 7 rfl).one bg)))))) fun w h => ah (aa (ai (ag (Au h 9 fun w b22 h => mQ (o8 := [(1, (bz [78, 69]))]) h 9 rfl kL rfl rfl rfl rfl fun w h => mQ (o8 := [(1, (bz [78, 69])), (2, (bz [78, 69, 70]))]) h 9 rfl kL rfl rfl rfl rfl fun w h => mQ (o8 := [(1, (bz [78, 69])), (2, (bz [78, 69, 70])), (3, (bz [69]))]) h 9 rfl kL rfl rfl rfl rfl fun w h => mQ (o8 := [(1, (bz [78, 69])), (2, (bz [78, 69, 70])), (3, (bz [69])), (4, (bz []))]) h 9 rfl kL rfl rfl rfl rfl fun w h => mQ (o8 := [(1, (bz [78, 69])), (2, (bz [78, 69, 70])), (3, (bz [69])), (4, (bz [])), (5, (bz [69]))]) h 9 rfl kL rfl rfl rfl rfl fun w h => mQ (o8 := [(1, (bz [78, 69])), (2, (bz [78, 69, 70])), (3, (bz [69])), (4, (bz [])), (5, (bz [69])), (6, (bz [69, 65, 66]))]) h 9 rfl kL rfl rfl rfl rfl fun w h => mQ (o8 := [(1, (bz [78, 69])), (2, (bz [78, 69, 70])), (3, (bz [69])), (4, (bz [])), (5, (bz [69])), (6, (bz [69, 65, 66])), (7, (bz [69, 65]))]) h 9 rfl kL rfl rfl rfl rfl fun w h => mQ (o8 := [(1, (bz [78, 69])), (2, (bz [78, 69, 70])), (3, (bz [69])), (4, (bz [])), (5, (bz [69])), (6, (bz [69, 65, 66])), (7, (bz [69, 65])), (8, (bz [69]))]) h 9 rfl kL rfl rfl rfl rfl fun w h => ae (au (v := (.map (some b22))) rfl) (ae (ak jP rfl) (ae (aD h 8 rfl aZ rfl rfl) (ae (YN (f := bz) (zz := []) ([(1, [78, 69]), (2, [78, 69, 70]), (3, [69]), (4, []), (5, [69]), (6, [69, 65, 66]), (7, [69, 65]), (8, [69])] : List (Int × Str)) h 9 rfl kL rfl rfl rfl rfl) (ae (au (v := (.tuple #[(bz ((lk x3.kind ([(1, [78, 69]), (2, [78, 69, 70]), (3, [69]), (4, []), (5, [69]), (6, [69, 65, 66]), (7, [69, 65]), (8, [69])] : List (Int × Str))).getD [])), (.bool ((lk x3.kind ([(1, [78, 69]), (2, [78, 69, 70]), (3, [69]), (4, []), (5, [69]), (6, [69, 65, 66]), (7, [69, 65]), (8, [69])] : List (Int × Str))).isSome))])) rfl) (ae (bF rfl rfl) (ae (bF rfl rfl) ?_))))))))))))
 refine pG h 10 xP fun w Br h => fJ h 10 [(bz ((lk x3.kind ([(1, [78, 69]), (2, [78, 69, 70]), (3, [69]), (4, []), (5, [69]), (6, [69, 65, 66]), (7, [69, 65]), (8, [69])] : List (Int × Str))).getD []))] rfl xP rfl rfl rfl rfl rfl fun w h => ae (aj (v := (.bool ((lk x3.kind ([(1, [78, 69]), (2, [78, 69, 70]), (3, [69]), (4, []), (5, [69]), (6, [69, 65, 66]), (7, [69, 65]), (8, [69])] : List (Int × Str))).isSome))) rfl) (ah (aa (ai (ag (ae (qW (c1 := []) (c2 := [(.pointer (some ⟨Br, 0, none⟩))]) rfl rfl) (ae (aj (v := (.func (.func 144) #[] #[(.pointer (some ⟨Br, 0, none⟩))])) rfl) (ah (aa (ai (ai (ag (ae (au (v := (.bool ((lk x3.kind ([(1, [78, 69]), (2, [78, 69, 70]), (3, [69]), (4, []), (5, [69]), (6, [69, 65, 66]), (7, [69, 65]), (8, [69])] : List (Int × Str))).isSome))) rfl) (ae (gZ rfl) (ae (au (v := (.bool ((!(lk x3.kind ([(1, [78, 69]), (2, [78, 69, 70]), (3, [69]), (4, []), (5, [69]), (6, [69, 65, 66]), (7, [69, 65]), (8, [69])] : List (Int × Str))).isSome)))) rfl) (aF rfl rfl (fun q => ak uo rfl) (aF rfl rfl (fun q => aD h 8 rfl aZ (dA q) rfl) (aF rfl rfl (fun q => gu (dA q) rfl) (aF rfl rfl (fun q => au (v := (.bool (decide ((x3.n : Int) ≠ 0)))) (dA q)) (l9 ((!(lk x3.kind ([(1, [78, 69]), (2, [78, 69, 70]), (3, [69]), (4, []), (5, [69]), (6, [69, 65, 66]), (7, [69, 65]), (8, [69])] : List (Int × Str))).isSome) == false) rfl rfl (fun q => au (v := (.func (.func 144) #[] #[(.pointer (some ⟨Br, 0, none⟩))])) rfl) (Av [(.pointer (some ⟨Br, 0, none⟩))] ((!(lk x3.kind ([(1, [78, 69]), (2, [78, 69, 70]), (3, [69]), (4, []), (5, [69]), (6, [69, 65, 66]), (7, [69, 65]), (8, [69])] : List (Int × Str))).isSome) == false) rfl rfl yO (fun q => (dA q)) (fun q => lM rfl rfl) (uy _ _ h.lt ((lk x3.kind ([(1, [78, 69]), (2, [78, 69, 70]), (3, [69]), (4, []), (5, [69]), (6, [69, 65, 66]), (7, [69, 65]), (8, [69])] : List (Int × Str))).getD []) Br (h.qB 10 rfl) _ rfl) fun w k24 => ?_))))))))))))))))))))
 replace h := h.grow k24
 refine l9 ((!(lk x3.kind ([(1, [78, 69]), (2, [78, 69, 70]), (3, [69]), (4, []), (5, [69]), (6, [69, 65, 66]), (7, [69, 65]), (8, [69])] : List (Int × Str))).isSome) == false) rfl rfl (fun q => gZ (dA q)) (aF rfl rfl (fun q => fV (dA q) (OU q) ma) (ae (ic rfl rfl ma) (ae (au (v := (.bool (((!(lk x3.kind ([(1, [78, 69]), (2, [78, 69, 70]), (3, [69]), (4, []), (5, [69]), (6, [69, 65, 66]), (7, [69, 65]), (8, [69])] : List (Int × Str))).isSome) || (decide ((x3.n : Int) ≠ 0) && (!(bD ((lk x3.kind ([(1, [78, 69]), (2, [78, 69, 70]), (3, [69]), (4, []), (5, [69]), (6, [69, 65, 66]), (7, [69, 65]), (8, [69])] : List (Int × Str))).getD [])))))))) rfl) (aF rfl rfl (fun q => ak xL rfl) (aF rfl rfl (fun q => aD h 8 rfl vZ (dA q) rfl) (aF rfl rfl (fun q => bW j5 (dA q) (h.mH 4 rfl)) (aF rfl rfl (fun q => j6 (dA q) rfl) (aF rfl rfl (fun q => au (v := (.bool (decide ((0 : Int) < (x3.e.length : Int))))) (dA q)) (l9 (((!(lk x3.kind ([(1, [78, 69]), (2, [78, 69, 70]), (3, [69]), (4, []), (5, [69]), (6, [69, 65, 66]), (7, [69, 65]), (8, [69])] : List (Int × Str))).isSome) || (decide ((x3.n : Int) ≠ 0) && (!(bD ((lk x3.kind ([(1, [78, 69]), (2, [78, 69, 70]), (3, [69]), (4, []), (5, [69]), (6, [69, 65, 66]), (7, [69, 65]), (8, [69])] : List (Int × Str))).getD []))))) == false) rfl rfl (fun q => au (v := (.func (.func 144) #[] #[(.pointer (some ⟨Br, 0, none⟩))])) rfl) (Av [(.pointer (some ⟨Br, 0, none⟩))] (((!(lk x3.kind ([(1, [78, 69]), (2, [78, 69, 70]), (3, [69]), (4, []), (5, [69]), (6, [69, 65, 66]), (7, [69, 65]), (8, [69])] : List (Int × Str))).isSome) || (decide ((x3.n : Int) ≠ 0) && (!(bD ((lk x3.kind ([(1, [78, 69]), (2, [78, 69, 70]), (3, [69]), (4, []), (5, [69]), (6, [69, 65, 66]), (7, [69, 65]), (8, [69])] : List (Int × Str))).getD []))))) == false) rfl rfl yO (fun q => (dA q)) (fun q => lM rfl rfl) (uz _ _ h.lt ((lk x3.kind ([(1, [78, 69]), (2, [78, 69, 70]), (3, [69]), (4, []), (5, [69]), (6, [69, 65, 66]), (7, [69, 65]), (8, [69])] : List (Int × Str))).getD []) Br (h.qB 10 rfl) _ rfl) fun w k25 => ?_))))))))))
 replace h := h.grow k25
 refine l9 (((!(lk x3.kind ([(1, [78, 69]), (2, [78, 69, 70]), (3, [69]), (4, []), (5, [69]), (6, [69, 65, 66]), (7, [69, 65]), (8, [69])] : List (Int × Str))).isSome) || (decide ((x3.n : Int) ≠ 0) && (!(bD ((lk x3.kind ([(1, [78, 69]), (2, [78, 69, 70]), (3, [69]), (4, []), (5, [69]), (6, [69, 65, 66]), (7, [69, 65]), (8, [69])] : List (Int × Str))).getD []))))) == false) rfl rfl (fun q => gZ (dA q)) (aF rfl rfl (fun q => fV (dA q) (OU q) ma) (ae (ic rfl rfl ma) (ae (au (v := (.bool ((((!(lk x3.kind ([(1, [78, 69]), (2, [78, 69, 70]), (3, [69]), (4, []), (5, [69]), (6, [69, 65, 66]), (7, [69, 65]), (8, [69])] : List (Int × Str))).isSome) || (decide ((x3.n : Int) ≠ 0) && (!(bD ((lk x3.kind ([(1, [78, 69]), (2, [78, 69, 70]), (3, [69]), (4, []), (5, [69]), (6, [69, 65, 66]), (7, [69, 65]), (8, [69])] : List (Int × Str))).getD []))))) || (decide ((0 : Int) < (x3.e.length : Int)) && (!(bQ ((lk x3.kind ([(1, [78, 69]), (2, [78, 69, 70]), (3, [69]), (4, []), (5, [69]), (6, [69, 65, 66]), (7, [69, 65]), (8, [69])] : List (Int × Str))).getD [])))))))) rfl) (aF rfl rfl (fun q => ak zO rfl) (aF rfl rfl (fun q => aD h 8 rfl vZ (dA q) rfl) (aF rfl rfl (fun q => bW j5 (dA q) (h.mH 5 rfl)) (aF rfl rfl (fun q => j6 (dA q) rfl) (aF rfl rfl (fun q => au (v := (.bool (decide ((0 : Int) < (x3.f.length : Int))))) (dA q)) (l9 ((((!(lk x3.kind ([(1, [78, 69]), (2, [78, 69, 70]), (3, [69]), (4, []), (5, [69]), (6, [69, 65, 66]), (7, [69, 65]), (8, [69])] : List (Int × Str))).isSome) || (decide ((x3.n : Int) ≠ 0) && (!(bD ((lk x3.kind ([(1, [78, 69]), (2, [78, 69, 70]), (3, [69]), (4, []), (5, [69]), (6, [69, 65, 66]), (7, [69, 65]), (8, [69])] : List (Int × Str))).getD []))))) || (decide ((0 : Int) < (x3.e.length : Int)) && (!(bQ ((lk x3.kind ([(1, [78, 69]), (2, [78, 69, 70]), (3, [69]), (4, []), (5, [69]), (6, [69, 65, 66]), (7, [69, 65]), (8, [69])] : List (Int × Str))).getD []))))) == false) rfl rfl (fun q => au (v := (.func (.func 144) #[] #[(.pointer (some ⟨Br, 0, none⟩))])) rfl) (Av [(.pointer (some ⟨Br, 0, none⟩))] ((((!(lk x3.kind ([(1, [78, 69]), (2, [78, 69, 70]), (3, [69]), (4, []), (5, [69]), (6, [69, 65, 66]), (7, [69, 65]), (8, [69])] : List (Int × Str))).isSome) || (decide ((x3.n : Int) ≠ 0) && (!(bD ((lk x3.kind ([(1, [78, 69]), (2, [78, 69, 70]), (3, [69]), (4, []), (5, [69]), (6, [69, 65, 66]), (7, [69, 65]), (8, [69])] : List (Int × Str))).getD []))))) || (decide ((0 : Int) < (x3.e.length : Int)) && (!(bQ ((lk x3.kind ([(1, [78, 69]), (2, [78, 69, 70]), (3, [69]), (4, []), (5, [69]), (6, [69, 65, 66]), (7, [69, 65]), (8, [69])] : List (Int × Str))).getD []))))) == false) rfl rfl yO (fun q => (dA q)) (fun q => lM rfl rfl) (nL _ _ h.lt ((lk x3.kind ([(1, [78, 69]), (2, [78, 69, 70]), (3, [69]), (4, []), (5, [69]), (6, [69, 65, 66]), (7, [69, 65]), (8, [69])] : List (Int × Str))).getD []) Br (h.qB 10 rfl) _ rfl) fun w k26 => ?_))))))))))
 replace h := h.grow k26
 refine l9 ((((!(lk x3.kind ([(1, [78, 69]), (2, [78, 69, 70]), (3, [69]), (4, []), (5, [69]), (6, [69, 65, 66]), (7, [69, 65]), (8, [69])] : List (Int × Str))).isSome) || (decide ((x3.n : Int) ≠ 0) && (!(bD ((lk x3.kind ([(1, [78, 69]), (2, [78, 69, 70]), (3, [69]), (4, []), (5, [69]), (6, [69, 65, 66]), (7, [69, 65]), (8, [69])] : List (Int × Str))).getD []))))) || (decide ((0 : Int) < (x3.e.length : Int)) && (!(bQ ((lk x3.kind ([(1, [78, 69]), (2, [78, 69, 70]), (3, [69]), (4, []), (5, [69]), (6, [69, 65, 66]), (7, [69, 65]), (8, [69])] : List (Int × Str))).getD []))))) == false) rfl rfl (fun q => gZ (dA q)) (aF rfl rfl (fun q => fV (dA q) (OU q) ma) (ae (ic rfl rfl ma) (ae (au (v := (.bool (((((!(lk x3.kind ([(1, [78, 69]), (2, [78, 69, 70]), (3, [69]), (4, []), (5, [69]), (6, [69, 65, 66]), (7, [69, 65]), (8, [69])] : List (Int × Str))).isSome) || (decide ((x3.n : Int) ≠ 0) && (!(bD ((lk x3.kind ([(1, [78, 69]), (2, [78, 69, 70]), (3, [69]), (4, []), (5, [69]), (6, [69, 65, 66]), (7, [69, 65]), (8, [69])] : List (Int × Str))).getD []))))) || (decide ((0 : Int) < (x3.e.length : Int)) && (!(bQ ((lk x3.kind ([(1, [78, 69]), (2, [78, 69, 70]), (3, [69]), (4, []), (5, [69]), (6, [69, 65, 66]), (7, [69, 65]), (8, [69])] : List (Int × Str))).getD []))))) || (decide ((0 : Int) < (x3.f.length : Int)) && (!(cZ ((lk x3.kind ([(1, [78, 69]), (2, [78, 69, 70]), (3, [69]), (4, []), (5, [69]), (6, [69, 65, 66]), (7, [69, 65]), (8, [69])] : List (Int × Str))).getD [])))))))) rfl) (aF rfl rfl (fun q => ak xM rfl) (aF rfl rfl (fun q => aD h 8 rfl oN (dA q) rfl) (aF rfl rfl (fun q => bW kM (dA q) (h.mH 6 rfl)) (aF rfl rfl (fun q => j6 (dA q) rfl) (aF rfl rfl (fun q => au (v := (.bool (decide ((0 : Int) < (x3.a.length : Int))))) (dA q)) (l9 (((((!(lk x3.kind ([(1, [78, 69]), (2, [78, 69, 70]), (3, [69]), (4, []), (5, [69]), (6, [69, 65, 66]), (7, [69, 65]), (8, [69])] : List (Int × Str))).isSome) || (decide ((x3.n : Int) ≠ 0) && (!(bD ((lk x3.kind ([(1, [78, 69]), (2, [78, 69, 70]), (3, [69]), (4, []), (5, [69]), (6, [69, 65, 66]), (7, [69, 65]), (8, [69])] : List (Int × Str))).getD []))))) || (decide ((0 : Int) < (x3.e.length : Int)) && (!(bQ ((lk x3.kind ([(1, [78, 69]), (2, [78, 69, 70]), (3, [69]), (4, []), (5, [69]), (6, [69, 65, 66]), (7, [69, 65]), (8, [69])] : List (Int × Str))).getD []))))) || (decide ((0 : Int) < (x3.f.length : Int)) && (!(cZ ((lk x3.kind ([(1, [78, 69]), (2, [78, 69, 70]), (3, [69]), (4, []), (5, [69]), (6, [69, 65, 66]), (7, [69, 65]), (8, [69])] : List (Int × Str))).getD []))))) == false) rfl rfl (fun q => au (v := (.func (.func 144) #[] #[(.pointer (some ⟨Br, 0, none⟩))])) rfl) (Av [(.pointer (some ⟨Br, 0, none⟩))] (((((!(lk x3.kind ([(1, [78, 69]), (2, [78, 69, 70]), (3, [69]), (4, []), (5, [69]), (6, [69, 65, 66]), (7, [69, 65]), (8, [69])] : List (Int × Str))).isSome) || (decide ((x3.n : Int) ≠ 0) && (!(bD ((lk x3.kind ([(1, [78, 69]), (2, [78, 69, 70]), (3, [69]), (4, []), (5, [69]), (6, [69, 65, 66]), (7, [69, 65]), (8, [69])] : List (Int × Str))).getD []))))) || (decide ((0 : Int) < (x3.e.length : Int)) && (!(bQ ((lk x3.kind ([(1, [78, 69]), (2, [78, 69, 70]), (3, [69]), (4, []), (5, [69]), (6, [69, 65, 66]), (7, [69, 65]), (8, [69])] : List (Int × Str))).getD []))))) || (decide ((0 : Int) < (x3.f.length : Int)) && (!(cZ ((lk x3.kind ([(1, [78, 69]), (2, [78, 69, 70]), (3, [69]), (4, []), (5, [69]), (6, [69, 65, 66]), (7, [69, 65]), (8, [69])] : List (Int × Str))).getD []))))) == false) rfl rfl yO (fun q => (dA q)) (fun q => lM rfl rfl) (uA _ _ h.lt ((lk x3.kind ([(1, [78, 69]), (2, [78, 69, 70]), (3, [69]), (4, []), (5, [69]), (6, [69, 65, 66]), (7, [69, 65]), (8, [69])] : List (Int × Str))).getD []) Br (h.qB 10 rfl) _ rfl) fun w k27 => ?_))))))))))
 replace h := h.grow k27
 refine l9 (((((!(lk x3.kind ([(1, [78, 69]), (2, [78, 69, 70]), (3, [69]), (4, []), (5, [69]), (6, [69, 65, 66]), (7, [69, 65]), (8, [69])] : List (Int × Str))).isSome) || (decide ((x3.n : Int) ≠ 0) && (!(bD ((lk x3.kind ([(1, [78, 69]), (2, [78, 69, 70]), (3, [69]), (4, []), (5, [69]), (6, [69, 65, 66]), (7, [69, 65]), (8, [69])] : List (Int × Str))).getD []))))) || (decide ((0 : Int) < (x3.e.length : Int)) && (!(bQ ((lk x3.kind ([(1, [78, 69]), (2, [78, 69, 70]), (3, [69]), (4, []), (5, [69]), (6, [69, 65, 66]), (7, [69, 65]), (8, [69])] : List (Int × Str))).getD []))))) || (decide ((0 : Int) < (x3.f.length : Int)) && (!(cZ ((lk x3.kind ([(1, [78, 69]), (2, [78, 69, 70]), (3, [69]), (4, []), (5, [69]), (6, [69, 65, 66]), (7, [69, 65]), (8, [69])] : List (Int × Str))).getD []))))) == false) rfl rfl (fun q => gZ (dA q)) (aF rfl rfl (fun q => fV (dA q) (OU q) ma) (ae (ic rfl rfl ma) (ae (au (v := (.bool ((((((!(lk x3.kind ([(1, [78, 69]), (2, [78, 69, 70]), (3, [69]), (4, []), (5, [69]), (6, [69, 65, 66]), (7, [69, 65]), (8, [69])] : List (Int × Str))).isSome) || (decide ((x3.n : Int) ≠ 0) && (!(bD ((lk x3.kind ([(1, [78, 69]), (2, [78, 69, 70]), (3, [69]), (4, []), (5, [69]), (6, [69, 65, 66]), (7, [69, 65]), (8, [69])] : List (Int × Str))).getD []))))) || (decide ((0 : Int) < (x3.e.length : Int)) && (!(bQ ((lk x3.kind ([(1, [78, 69]), (2, [78, 69, 70]), (3, [69]), (4, []), (5, [69]), (6, [69, 65, 66]), (7, [69, 65]), (8, [69])] : List (Int × Str))).getD []))))) || (decide ((0 : Int) < (x3.f.length : Int)) && (!(cZ ((lk x3.kind ([(1, [78, 69]), (2, [78, 69, 70]), (3, [69]), (4, []), (5, [69]), (6, [69, 65, 66]), (7, [69, 65]), (8, [69])] : List (Int × Str))).getD []))))) || (decide ((0 : Int) < (x3.a.length : Int)) && (!(fG ((lk x3.kind ([(1, [78, 69]), (2, [78, 69, 70]), (3, [69]), (4, []), (5, [69]), (6, [69, 65, 66]), (7, [69, 65]), (8, [69])] : List (Int × Str))).getD [])))))))) rfl) (aF rfl rfl (fun q => ak xN rfl) (aF rfl rfl (fun q => aD h 8 rfl oN (dA q) rfl) (aF rfl rfl (fun q => bW kM (dA q) (h.mH 7 rfl)) (aF rfl rfl (fun q => j6 (dA q) rfl) (aF rfl rfl (fun q => au (v := (.bool (decide ((0 : Int) < (x3.b.length : Int))))) (dA q)) (l9 ((((((!(lk x3.kind ([(1, [78, 69]), (2, [78, 69, 70]), (3, [69]), (4, []), (5, [69]), (6, [69, 65, 66]), (7, [69, 65]), (8, [69])] : List (Int × Str))).isSome) || (decide ((x3.n : Int) ≠ 0) && (!(bD ((lk x3.kind ([(1, [78, 69]), (2, [78, 69, 70]), (3, [69]), (4, []), (5, [69]), (6, [69, 65, 66]), (7, [69, 65]), (8, [69])] : List (Int × Str))).getD []))))) || (decide ((0 : Int) < (x3.e.length : Int)) && (!(bQ ((lk x3.kind ([(1, [78, 69]), (2, [78, 69, 70]), (3, [69]), (4, []), (5, [69]), (6, [69, 65, 66]), (7, [69, 65]), (8, [69])] : List (Int × Str))).getD []))))) || (decide ((0 : Int) < (x3.f.length : Int)) && (!(cZ ((lk x3.kind ([(1, [78, 69]), (2, [78, 69, 70]), (3, [69]), (4, []), (5, [69]), (6, [69, 65, 66]), (7, [69, 65]), (8, [69])] : List (Int × Str))).getD []))))) || (decide ((0 : Int) < (x3.a.length : Int)) && (!(fG ((lk x3.kind ([(1, [78, 69]), (2, [78, 69, 70]), (3, [69]), (4, []), (5, [69]), (6, [69, 65, 66]), (7, [69, 65]), (8, [69])] : List (Int × Str))).getD []))))) == false) rfl rfl (fun q => au (v := (.func (.func 144) #[] #[(.pointer (some ⟨Br, 0, none⟩))])) rfl) (Av [(.pointer (some ⟨Br, 0, none⟩))] ((((((!(lk x3.kind ([(1, [78, 69]), (2, [78, 69, 70]), (3, [69]), (4, []), (5, [69]), (6, [69, 65, 66]), (7, [69, 65]), (8, [69])] : List (Int × Str))).isSome) || (decide ((x3.n : Int) ≠ 0) && (!(bD ((lk x3.kind ([(1, [78, 69]), (2, [78, 69, 70]), (3, [69]), (4, []), (5, [69]), (6, [69, 65, 66]), (7, [69, 65]), (8, [69])] : List (Int × Str))).getD []))))) || (decide ((0 : Int) < (x3.e.length : Int)) && (!(bQ ((lk x3.kind ([(1, [78, 69]), (2, [78, 69, 70]), (3, [69]), (4, []), (5, [69]), (6, [69, 65, 66]), (7, [69, 65]), (8, [69])] : List (Int × Str))).getD []))))) || (decide ((0 : Int) < (x3.f.length : Int)) && (!(cZ ((lk x3.kind ([(1, [78, 69]), (2, [78, 69, 70]), (3, [69]), (4, []), (5, [69]), (6, [69, 65, 66]), (7, [69, 65]), (8, [69])] : List (Int × Str))).getD []))))) || (decide ((0 : Int) < (x3.a.length : Int)) && (!(fG ((lk x3.kind ([(1, [78, 69]), (2, [78, 69, 70]), (3, [69]), (4, []), (5, [69]), (6, [69, 65, 66]), (7, [69, 65]), (8, [69])] : List (Int × Str))).getD []))))) == false) rfl rfl yO (fun q => (dA q)) (fun q => lM rfl rfl) (uB _ _ h.lt ((lk x3.kind ([(1, [78, 69]), (2, [78, 69, 70]), (3, [69]), (4, []), (5, [69]), (6, [69, 65, 66]), (7, [69, 65]), (8, [69])] : List (Int × Str))).getD []) Br (h.qB 10 rfl) _ rfl) fun w k28 => ?_))))))))))
 replace h := h.grow k28
 refine l9 ((((((!(lk x3.kind ([(1, [78, 69]), (2, [78, 69, 70]), (3, [69]), (4, []), (5, [69]), (6, [69, 65, 66]), (7, [69, 65]), (8, [69])] : List (Int × Str))).isSome) || (decide ((x3.n : Int) ≠ 0) && (!(bD ((lk x3.kind ([(1, [78, 69]), (2, [78, 69, 70]), (3, [69]), (4, []), (5, [69]), (6, [69, 65, 66]), (7, [69, 65]), (8, [69])] : List (Int × Str))).getD []))))) || (decide ((0 : Int) < (x3.e.length : Int)) && (!(bQ ((lk x3.kind ([(1, [78, 69]), (2, [78, 69, 70]), (3, [69]), (4, []), (5, [69]), (6, [69, 65, 66]), (7, [69, 65]), (8, [69])] : List (Int × Str))).getD []))))) || (decide ((0 : Int) < (x3.f.length : Int)) && (!(cZ ((lk x3.kind ([(1, [78, 69]), (2, [78, 69, 70]), (3, [69]), (4, []), (5, [69]), (6, [69, 65, 66]), (7, [69, 65]), (8, [69])] : List (Int × Str))).getD []))))) || (decide ((0 : Int) < (x3.a.length : Int)) && (!(fG ((lk x3.kind ([(1, [78, 69]), (2, [78, 69, 70]), (3, [69]), (4, []), (5, [69]), (6, [69, 65, 66]), (7, [69, 65]), (8, [69])] : List (Int × Str))).getD []))))) == false) rfl rfl (fun q => gZ (dA q)) (aF rfl rfl (fun q => fV (dA q) (OU q) ma) (ae (ic rfl rfl ma) (ah (aa (aN hs rfl (fun c29 hs => ?_) (fun c29 hs => ?_))))))
 refine ai (ag (ae (aj (v := (.int .i64 (4))) rfl) (ah (aa (aK (aC (aH (aC (aC (aH (aC (cu (v := (.int .i64 (4))) Tryz.results129 rfl ?_))))))))))))
 obtain rfl := Option.some.inj hs
 exact ⟨h.grown, rfl⟩
 refine aG (aa (ai (ai (ag (ae (ak jP rfl) (ae (aD h 8 rfl aZ rfl rfl) (ae (bJ rfl rfl) (ae (au (v := (.bool (decide ((x3.kind : Int) = 1)))) rfl) (aF rfl rfl (fun q => ak uo rfl) (aF rfl rfl (fun q => aD h 8 rfl aZ (dA q) rfl) (aF rfl rfl (fun q => au (v := (.int .i64 (c))) rfl) (Kt rfl rfl Mx rfl (fun q => lM (dA q) (lM (dA q) rfl)) (qE _ _ h.lt x3.n c _ rfl) fun w Y8 => ?_))))))))))))
 replace h := h.grow Y8
 refine aF rfl rfl (fun q => gZ (dA q)) (ae (fV rfl rfl ma) (ae (au (v := (.bool ((decide ((x3.kind : Int) = 1) && (!(aY x3.n c)))))) rfl) (aF rfl rfl (fun q => ak jP rfl) (aF rfl rfl (fun q => aD h 8 rfl aZ (dA q) rfl) (aF rfl rfl (fun q => bJ (dA q) rfl) (aF rfl rfl (fun q => au (v := (.bool (decide ((x3.kind : Int) = 2)))) (dA q)) (l9 ((decide ((x3.kind : Int) = 1) && (!(aY x3.n c))) == false) rfl rfl (fun q => ak uo rfl) (l9 ((decide ((x3.kind : Int) = 1) && (!(aY x3.n c))) == false) rfl rfl (fun q => aD h 8 rfl aZ (dA q) rfl) (NU ((decide ((x3.kind : Int) = 1) && (!(aY x3.n c))) == false) rfl rfl xh rfl (fun q => lM (dA q) (lM rfl (lM rfl rfl))) (gT _ _ h.lt x3.n 0 3 _ rfl) fun w k31 => ?_)))))))))
 replace h := h.grow k31
 refine l9 ((decide ((x3.kind : Int) = 1) && (!(aY x3.n c))) == false) rfl rfl (fun q => gZ (dA q)) (aF rfl rfl (fun q => fV (dA q) (OU q) ma) (ae (ic rfl rfl ma) (ah (aa (aN hs rfl (fun c32 hs => ?_) (fun c32 hs => ?_))))))
 refine ai (ag (ae (aj (v := (.int .i64 (3))) rfl) (ah (aa (aK (aC (aH (aC (aC (aH (aC (cu (v := (.int .i64 (3))) Tryz.results129 rfl ?_))))))))))))
 obtain rfl := Option.some.inj hs
 exact ⟨h.grown, rfl⟩
 refine aG (aa (ai (ag (ae (aj (v := (.int .i64 (0))) rfl) (ah (aa (cz (σ := Int) (inl [12, 105, 106, 107, 108, 109, 110, 111]) (fun yR => [(12, (.int .i64 (yR)))]) (fun yR w => SH w0 M BE w (hset [(1, .sr eP va a), (2, .sr iY vb b), (4, .rd ku Ma x3.e), (5, .rd ku Fb x3.f), (6, .rd eP Fw x3.a), (7, .rd eP KN x3.b), (8, .blk Hz [(.int .i64 (x3.kind)), (.int .i64 (x3.n)), Ma, Fb, Fw, KN]), (10, .blk Br [(bz ((lk x3.kind ([(1, [78, 69]), (2, [78, 69, 70]), (3, [69]), (4, []), (5, [69]), (6, [69, 65, 66]), (7, [69, 65]), (8, [69])] : List (Int × Str))).getD []))])]) ∧ kZ N F0 x3 b c a Hy yR = some r) ?_ ?_)))))))
 rintro yR w dD ⟨h, hs⟩
 refine cz (σ := Int) (inl [12, 112, 113, 114, 115, 116, 117, 118, 119, 120, 121, 122]) (fun x34 => [(12, (.int .i64 (x34))), (115, (gv (decide ((yR : Int) = 0) == true) (.func (.func 144) #[] #[(.pointer (some ⟨Br, 0, none⟩))])))]) (fun x34 w => SH w0 M BE w (hset [(1, .sr eP va a), (2, .sr iY vb b), (4, .rd ku Ma x3.e), (5, .rd ku Fb x3.f), (6, .rd eP Fw x3.a), (7, .rd eP KN x3.b), (8, .blk Hz [(.int .i64 (x3.kind)), (.int .i64 (x3.n)), Ma, Fb, Fw, KN]), (10, .blk Br [(bz ((lk x3.kind ([(1, [78, 69]), (2, [78, 69, 70]), (3, [69]), (4, []), (5, [69]), (6, [69, 65, 66]), (7, [69, 65]), (8, [69])] : List (Int × Str))).getD []))])]) ∧ kY F0 x3 a b c Hy x34 = some r) ?_ ?_
 rintro x34 w dD ⟨h, hs⟩
 refine cz (σ := Int) (inl [12, 123, 124, 125, 126, 127, 128, 129]) (fun xB => [(12, (.int .i64 (xB)))]) (fun xB w => SH w0 M BE w (hset [(1, .sr eP va a), (2, .sr iY vb b), (4, .rd ku Ma x3.e), (5, .rd ku Fb x3.f), (6, .rd eP Fw x3.a), (7, .rd eP KN x3.b), (8, .blk Hz [(.int .i64 (x3.kind)), (.int .i64 (x3.n)), Ma, Fb, Fw, KN]), (10, .blk Br [(bz ((lk x3.kind ([(1, [78, 69]), (2, [78, 69, 70]), (3, [69]), (4, []), (5, [69]), (6, [69, 65, 66]), (7, [69, 65]), (8, [69])] : List (Int × Str))).getD []))])]) ∧ kX F0 x3 b c Hy xB = some r) ?_ ?_
 rintro xB w dD ⟨h, hs⟩
 refine cz (σ := Int) (inl [12, 130, 131, 132, 133, 134, 135, 136]) (fun r9 => [(12, (.int .i64 (r9)))]) (fun r9 w => SH w0 M BE w (hset [(1, .sr eP va a), (2, .sr iY vb b), (10, .blk Br [(bz ((lk x3.kind ([(1, [78, 69]), (2, [78, 69, 70]), (3, [69]), (4, []), (5, [69]), (6, [69, 65, 66]), (7, [69, 65]), (8, [69])] : List (Int × Str))).getD []))])]) ∧ kW Hy r9 = some r) ?_ ?_
 rintro r9 w dD ⟨h, hs⟩
 refine ai (ag (ae (au (v := (.int .i64 (r9))) rfl) (ae (gu rfl rfl) (ah (aa (aN hs rfl (fun c37 hs => ?_) (fun c37 hs => ?_)))))))
 refine ai (ag (ae (au (v := (.int .i64 (r9))) rfl) (ae (aj (v := (.int .i64 (r9))) rfl) (ah (aa (aK (aH (aC (aC (aH (aC (cu (v := (.int .i64 (r9))) Tryz.results129 rfl ?_))))))))))))
 obtain rfl := Option.some.inj hs
 exact ⟨h.grown, rfl⟩
 refine aG (aA (aa (ag (ae (dH rfl rfl e7r) (ae (au (v := (.int .i64 ((i2 + 1)))) rfl) (ah (az ?_)))))))
 subst WU
 exact jN ⟨k1 + 1, i2 + 1⟩ ⟨h.cn _, by omega, hs⟩ (by have := of_decide_eq_true e6; dsimp only; omega)
 refine ai (ag (ae (au (v := (.int .i64 (xB))) rfl) (ae (bJ rfl rfl) (ah (aa (aN hs rfl (fun KO hs => ?_) (fun KO hs => ?_)))))))
 refine ag (ae (ak xN rfl) (ae (aD h 8 rfl oN rfl rfl) (ae (au (v := vb) rfl) (ae (au (v := (.int .i64 (c))) rfl) ?_))))
 obtain ⟨y39, e40, hs⟩ := aQ hs
 refine bA JG rfl rfl (ih _ _ h.lt KN x3.b (h.mH 7 rfl) vb b (h.iI 2 rfl) c _ e40) ?_
 rintro _ w ⟨k41, rfl⟩
 refine ⟨_, rfl, ?_⟩
 replace h := h.grow k41
 refine ae (aj (v := (.int .i64 (y39))) rfl) (ah (az ?_))
 exact bU y39 ⟨h.cn _, hs⟩
 refine aG (az ?_)
 exact bU xB ⟨h.cn _, hs⟩
 refine ai (ag (ae (au (v := (.int .i64 (x34))) rfl) (ae (bJ rfl rfl) (ah (aa (aN hs rfl (fun c42 hs => ?_) (fun c42 hs => ?_)))))))
 refine ag (ae (ak xM rfl) (ae (aD h 8 rfl oN rfl rfl) (ae (au (v := vb) rfl) (ae (au (v := (.int .i64 (c))) rfl) ?_))))
 obtain ⟨yQ, e44, hs⟩ := aQ hs
 refine bA JG rfl rfl (ih _ _ h.lt Fw x3.a (h.mH 6 rfl) vb b (h.iI 2 rfl) c _ e44) ?_
 rintro _ w ⟨k45, rfl⟩
 refine ⟨_, rfl, ?_⟩
 replace h := h.grow k45
 refine ae (aj (v := (.int .i64 (yQ))) rfl) (ah (az ?_))
 exact bU yQ ⟨h.cn _, hs⟩
 refine aG (az ?_)
 exact bU x34 ⟨h.cn _, hs⟩
 refine ai (ag (ae (au (v := (.int .i64 (yR))) rfl) (ae (bJ rfl rfl) (ae (au (v := (.bool (decide ((yR : Int) = 0)))) rfl) (aF rfl rfl (fun q => au (v := (.func (.func 144) #[] #[(.pointer (some ⟨Br, 0, none⟩))])) rfl) (FK [(.pointer (some ⟨Br, 0, none⟩))] rfl rfl yO (fun q => (dA q)) (fun q => lM rfl rfl) (nL _ _ h.lt ((lk x3.kind ([(1, [78, 69]), (2, [78, 69, 70]), (3, [69]), (4, []), (5, [69]), (6, [69, 65, 66]), (7, [69, 65]), (8, [69])] : List (Int × Str))).getD []) Br (h.qB 10 rfl) _ rfl) fun w Qt => ?_))))))
 replace h := h.grow Qt
 refine ae (fV rfl rfl ma) (ah (aa (aN hs rfl (fun Y9 hs => ?_) (fun Y9 hs => ?_))))
 refine ag (ae (ak zO rfl) (ae (aD h 8 rfl vZ rfl rfl) (ae (au (v := vb) rfl) (ae (au (v := (.int .i64 (c))) rfl) ?_))))
 obtain ⟨sW, e49, hs⟩ := aQ hs
 refine bA Oi rfl rfl (rA N _ _ h.lt Fb x3.f (h.mH 5 rfl) vb b (h.iI 2 rfl) c _ e49) ?_
 rintro _ w ⟨k50, rfl⟩
 refine ⟨_, rfl, ?_⟩
 replace h := h.grow k50
 refine ae (aj (v := (.int .i64 (sW))) rfl) (ah (az ?_))
 exact bU sW ⟨h.cn _, hs⟩
 refine aG (az ?_)
 exact bU yR ⟨h.cn _, hs⟩
 refine ai (ag (ae (au (v := (.func (.func 144) #[] #[(.pointer (some ⟨Br, 0, none⟩))])) rfl) (jE (args := [(bz [69]), (.pointer (some ⟨Br, 0, none⟩))]) yO rfl rfl (aS (args := [(bz [69]), (.pointer (some ⟨Br, 0, none⟩))]) Tryz.func144 rfl Tryz.ntmps144 (Nat.le_of_ble_eq_true rfl) (ai (ag (ae (aj (v := (.bool (false))) rfl) (ah (aa (ai (ag (ae (aD h 10 rfl xP rfl rfl) (ae (au (v := (bz [69])) rfl) (bA AA rfl rfl (jJ _ _ h.lt ((lk x3.kind ([(1, [78, 69]), (2, [78, 69, 70]), (3, [69]), (4, []), (5, [69]), (6, [69, 65, 66]), (7, [69, 65]), (8, [69])] : List (Int × Str))).getD []) 69 _ rfl) ?_))))))))))))))
 rintro _ w ⟨k51, rfl⟩
 refine ⟨_, rfl, ?_⟩
 replace h := h.grow k51
 refine ae (aj (v := (.bool ((hasB ((lk x3.kind ([(1, [78, 69]), (2, [78, 69, 70]), (3, [69]), (4, []), (5, [69]), (6, [69, 65, 66]), (7, [69, 65]), (8, [69])] : List (Int × Str))).getD []) 69)))) rfl) (ah (aa (aK (cu (v := (.bool ((hasB ((lk x3.kind ([(1, [78, 69]), (2, [78, 69, 70]), (3, [69]), (4, []), (5, [69]), (6, [69, 65, 66]), (7, [69, 65]), (8, [69])] : List (Int × Str))).getD []) 69)))) Tryz.results144 rfl (⟨_, rfl, ?_⟩)))))
 refine ah (aa (aN hs rfl (fun BA hs => ?_) (fun BA hs => ?_)))
 refine ag (ae (ak xL rfl) (ae (aD h 8 rfl vZ rfl rfl) (ae (au (v := vb) rfl) (ae (au (v := (.int .i64 (c))) rfl) ?_))))
 obtain ⟨KM, e54, hs⟩ := aQ hs
 refine bA Oi rfl rfl (rA N _ _ h.lt Ma x3.e (h.mH 4 rfl) vb b (h.iI 2 rfl) c _ e54) ?_
 rintro _ w ⟨k55, rfl⟩
 refine ⟨_, rfl, ?_⟩
 replace h := h.grow k55
 refine ae (aj (v := (.int .i64 (KM))) rfl) (ah (az ?_))
 exact bU KM ⟨h.cn _, hs⟩
 refine aG (az ?_)
 exact bU 0 ⟨h.cn _, hs⟩
 rw [gz (hik ▸ e6), iw] at hs
 refine dh (aO (aO (bE (aa (ai (ag (ae (aj (v := (.int .i64 (0))) rfl) (ah (aa (aK (cu (v := (.int .i64 (0))) Tryz.results129 rfl ?_)))))))))))
 obtain rfl := Option.some.inj hs
 exact ⟨h.grown, rfl⟩
def ll (N : Nat) (a : List fB) (wW : fB) (s : Unit) (xS : Unit → Option Int) : Option Int :=
  (mi N wW.body 4).bind fun lQ => bif (!lQ.2) then some 2 else (ji N wW.body a wW.locals).bind fun Vs => bif decide ((Vs : Int) ≠ 0) then some Vs else xS ()
def lq (s : Unit) : Option Int :=
  some 0
def lu (i4 : Int) (x5 : fB) (s : Unit) (nx7 : Unit → Option Int) : Option Int :=
  bif (((!(bC x5.params 0 3)) || (!(bC x5.locals x5.params 6))) || (decide ((i4 : Int) = 0) && decide ((x5.params : Int) ≠ 0))) then some 3 else nx7 ()
def lv (N : Nat) (a : List fB) (s : Unit) : Option Int :=
  each (ll N a) lq a ()
def rC (N : Nat) (a : List fB) : Option Int :=
  bif (!(bC (a.length : Int) 1 4)) then some 2 else dU lu (lv N a) 0 a ()
theorem wM (N : Nat) (w0 : World) (M : BS) (hM : ∀ b, M b → b < w0.heap.size) (va : Value) (a : List fB) (ha : gL iY w0 BE M va a) (r : Int) (hs : rC N a = some r) :
    Calls Tryz.prog 112 #[va] w0 (fun e w' => Grow w0 w' ∧ e = .returned (.int .i64 r)) := by
 refine aS (args := [va]) Tryz.func112 rfl Tryz.ntmps112 (Nat.le_of_ble_eq_true rfl) ?_
 have h := SH.init hM
 replace h := h.fI 1 ha bN
 have uw := ha.cB
 refine ai (ag (ae (aj (v := (.int .i64 (0))) rfl) (ah (aa (ai (ai (ag (ae (au (v := va) rfl) (ae (bW iM rfl (h.iI 1 rfl)) (bA xh rfl rfl (gT _ _ h.lt (a.length : Int) 1 4 _ rfl) ?_))))))))))
 rintro _ w ⟨k1, rfl⟩
 refine ⟨_, rfl, ?_⟩
 replace h := h.grow k1
 refine ae (gZ rfl) (ah (aa (aN hs rfl (fun c2 hs => ?_) (fun c2 hs => ?_))))
 refine ai (ag (ae (aj (v := (.int .i64 (2))) rfl) (ah (aa (aK (aC (cu (v := (.int .i64 (2))) Tryz.results112 rfl ?_)))))))
 obtain rfl := Option.some.inj hs
 exact ⟨h.grown, rfl⟩
 refine aG (aa (ai (ai (ag (ae (au (v := va) rfl) (ae (bW iM rfl (h.iI 1 rfl)) (ae (au (v := (.int .i64 (0))) rfl) (ah (aa (aU (gP (σ := Nat × Int) (inl [2, 3, 4, 16, 17, 18, 19, 20, 21, 22, 23, 24, 25, 26, 27, 28, 29, 30, 31, 32, 33, 34, 35, 36, 37, 38, 39, 40, 41, 42]) (fun ⟨k3, i4⟩ => [(16, (.int .i64 (i4)))]) (fun ⟨k3, i4⟩ w => SH w0 M BE w (hset [(1, .sr iY va a)]) ∧ i4 = (k3 : Int) ∧ dU lu (lv N a) i4 (a.drop k3) () = some r) (fun ⟨k3, i4⟩ => a.length - k3) ⟨0, 0⟩ ⟨rfl, trivial⟩ ?_ ?_)))))))))))
 exact ⟨h.cn _, rfl, hs⟩
 rintro ⟨k3, i4⟩ w dD ⟨h, hik, hs⟩
 refine ai (ag ?_)
 refine ae (dS rfl rfl) (ah (aa ?_))
 refine ai (iJ rfl (fun e8 => ?_) (fun e8 => ?_))
 refine aG (aa ?_)
 obtain ⟨x5, e9a, e9b⟩ := gy (hik ▸ e8)
 rw [e9b, gU] at hs
 generalize hnx7 : dU lu (lv N a) (i4 + 1) (a.drop (k3 + 1)) = nx7 at hs
 have e9r := gD ((h.iI 1 rfl)).cB hik e8
 refine ai (aU (ai (ag (ae (au (v := (.int .i64 (i4))) rfl) ?_))))
 obtain ⟨b11, o12, Za, h, r14, i10⟩ := h.xD 1 2 rfl iM rfl (iU hik) (gB hik e9a)
 obtain ⟨Fb, rfl, g16⟩ := ru r14
 replace h := h.di 3 g16.up
 refine ae (i10 _ _ _ _ _ _ _ _ _ rfl rfl) (ae (jg (k := 0) (vs := [(.int .i64 (x5.params)), (.int .i64 (x5.locals)), Fb]) h 2 rfl lN rfl rfl rfl (Nat.le_of_ble_eq_true rfl)) (bY h 4 lN fun w b17 h => ae (aj (v := (.int .i64 (i4))) rfl) (dB (vs := [(.int .i64 (x5.params)), (.int .i64 (x5.locals)), Fb]) h 4 [(.int .i64 (x5.params)), (.int .i64 (x5.locals)), Fb] rfl lN rfl rfl rfl rfl rfl (ay rfl (ay rfl (ay (h.iq 3 rfl).one bg))) fun w h => ah (aa (ai (ag (ae (ak um rfl) (ae (aD h 4 rfl aZ rfl rfl) (bA xh rfl rfl (gT _ _ h.lt x5.params 0 3 _ rfl) ?_)))))))))
 rintro _ w ⟨k18, rfl⟩
 refine ⟨_, rfl, ?_⟩
 replace h := h.grow k18
 refine ae (gZ rfl) (ae (au (v := (.bool ((!(bC x5.params 0 3))))) rfl) (aF rfl rfl (fun q => ak xK rfl) (aF rfl rfl (fun q => aD h 4 rfl aZ (dA q) rfl) (aF rfl rfl (fun q => ak um rfl) (aF rfl rfl (fun q => aD h 4 rfl aZ (dA q) rfl) (Kt rfl rfl xh rfl (fun q => lM (dA q) (lM (dA q) (lM rfl rfl))) (gT _ _ h.lt x5.locals x5.params 6 _ rfl) fun w k19 => ?_))))))
 replace h := h.grow k19
 refine aF rfl rfl (fun q => gZ (dA q)) (ae (ic rfl rfl ma) (ae (au (v := (.bool (((!(bC x5.params 0 3)) || (!(bC x5.locals x5.params 6)))))) rfl) (aF rfl rfl (fun q => au (v := (.int .i64 (i4))) rfl) (aF rfl rfl (fun q => bJ (dA q) rfl) (aF rfl rfl (fun q => au (v := (.bool (decide ((i4 : Int) = 0)))) (dA q)) (l9 (((!(bC x5.params 0 3)) || (!(bC x5.locals x5.params 6))) == false) rfl rfl (fun q => ak um rfl) (l9 (((!(bC x5.params 0 3)) || (!(bC x5.locals x5.params 6))) == false) rfl rfl (fun q => aD h 4 rfl aZ (dA q) rfl) (l9 (((!(bC x5.params 0 3)) || (!(bC x5.locals x5.params 6))) == false) rfl rfl (fun q => gu (dA q) rfl) (aF rfl rfl (fun q => fV (dA q) (OU q) ma) (ae (ic rfl rfl ma) (ah (aa (aN hs rfl (fun c20 hs => ?_) (fun c20 hs => ?_))))))))))))))
 refine ai (ag (ae (aj (v := (.int .i64 (3))) rfl) (ah (aa (aK (aH (aC (aC (aH (aC (cu (v := (.int .i64 (3))) Tryz.results112 rfl ?_)))))))))))
 obtain rfl := Option.some.inj hs
 exact ⟨h.grown, rfl⟩
 refine aG (aA (aa (ag (ae (dH rfl rfl e9r) (ae (au (v := (.int .i64 ((i4 + 1)))) rfl) (ah (az ?_)))))))
 subst hnx7
 exact jN ⟨k3 + 1, i4 + 1⟩ ⟨h.cn _, by omega, hs⟩ (by have := of_decide_eq_true e8; dsimp only; omega)
 rw [gz (hik ▸ e8), kI] at hs
 refine dh (aO (aO (bE (aa (ai (ai (ag (ae (au (v := va) rfl) (ae (bW iM rfl (h.iI 1 rfl)) (ae (au (v := (.int .i64 (0))) rfl) (ah (aa (aU (gP (σ := Nat × Int) (inl [2, 6, 7, 8, 9, 45, 46, 47, 48, 49, 50, 51, 52, 53, 54, 55, 56, 57, 58, 59, 60, 61, 62, 63, 64, 65, 66]) (fun ⟨k21, i22⟩ => [(45, (.int .i64 (i22)))]) (fun ⟨k21, i22⟩ w => SH w0 M BE w (hset [(1, .sr iY va a)]) ∧ i22 = (k21 : Int) ∧ each (ll N a) lq (a.drop k21) () = some r) (fun ⟨k21, i22⟩ => a.length - k21) ⟨0, 0⟩ ⟨rfl, trivial⟩ ?_ ?_))))))))))))))
 exact ⟨h.cn _, rfl, hs⟩
 rintro ⟨k21, i22⟩ w dD ⟨h, hik, hs⟩
 refine ai (ag ?_)
 refine ae (dS rfl rfl) (ah (aa ?_))
 refine ai (iJ rfl (fun e26 => ?_) (fun e26 => ?_))
 refine aG (aa ?_)
 obtain ⟨wW, e27a, e27b⟩ := gy (hik ▸ e26)
 rw [e27b, dW] at hs
 generalize Ru : each (ll N a) lq (a.drop (k21 + 1)) = xS at hs
 have e27r := gD ((h.iI 1 rfl)).cB hik e26
 refine ai (aU (ai (ag ?_)))
 obtain ⟨b29, o30, cs31, h, r32, i28⟩ := h.xD 1 5 rfl iM rfl (iU hik) (gB hik e27a)
 obtain ⟨u33, rfl, Zb⟩ := ru r32
 replace h := h.di 6 Zb.up
 refine ae (i28 _ _ _ _ _ _ _ _ _ rfl rfl) (ae (jg (k := 0) (vs := [(.int .i64 (wW.params)), (.int .i64 (wW.locals)), u33]) h 5 rfl lN rfl rfl rfl (Nat.le_of_ble_eq_true rfl)) (bY h 7 lN fun w b35 h => dB (vs := [(.int .i64 (wW.params)), (.int .i64 (wW.locals)), u33]) h 7 [(.int .i64 (wW.params)), (.int .i64 (wW.locals)), u33] rfl lN rfl rfl rfl rfl rfl (ay rfl (ay rfl (ay (h.iq 6 rfl).one bg))) fun w h => ah (aa (ai (ai (ag (ae (ak zN rfl) (ae (aD h 7 rfl oN rfl rfl) ?_))))))))
 obtain ⟨lQ, e37, hs⟩ := aQ hs
 refine bA Oh rfl rfl (Be N _ _ h.lt u33 wW.body (h.mH 6 rfl) 4 _ e37) ?_
 rintro _ w ⟨Zc, rfl⟩
 refine ⟨_, rfl, ?_⟩
 replace h := h.grow Zc
 refine ae (au (v := (.tuple #[(.int .i64 (lQ.1)), (.bool (lQ.2))])) rfl) (ae (bF rfl rfl) (ae (bF rfl rfl) (ae (aj (v := (.int .i64 (lQ.1))) rfl) (ae (aj (v := (.bool (lQ.2))) rfl) (ah (aa (ai (ag (ae (au (v := (.bool (lQ.2))) rfl) (ae (gZ rfl) (ah (aa (aN hs rfl (fun c39 hs => ?_) (fun c39 hs => ?_))))))))))))))
 refine ai (ag (ae (aj (v := (.int .i64 (2))) rfl) (ah (aa (aK (aC (aH (aC (aC (aH (aC (cu (v := (.int .i64 (2))) Tryz.results112 rfl ?_))))))))))))
 obtain rfl := Option.some.inj hs
 exact ⟨h.grown, rfl⟩
 refine aG (aa (ai (ag (ae (ak zN rfl) (ae (aD h 7 rfl oN rfl rfl) (ae (au (v := va) rfl) (ae (ak xK rfl) (ae (aD h 7 rfl aZ rfl rfl) ?_))))))))
 obtain ⟨Vs, e41, hs⟩ := aQ hs
 refine bA JG rfl rfl (xk N _ _ h.lt u33 wW.body (h.mH 6 rfl) va a (h.iI 1 rfl) wW.locals _ e41) ?_
 rintro _ w ⟨k42, rfl⟩
 refine ⟨_, rfl, ?_⟩
 replace h := h.grow k42
 refine ae (aj (v := (.int .i64 (Vs))) rfl) (ah (aa (ai (ag (ae (au (v := (.int .i64 (Vs))) rfl) (ae (gu rfl rfl) (ah (aa (aN hs rfl (fun c43 hs => ?_) (fun c43 hs => ?_))))))))))
 refine ai (ag (ae (au (v := (.int .i64 (Vs))) rfl) (ae (aj (v := (.int .i64 (Vs))) rfl) (ah (aa (aK (aH (aC (aC (aH (aC (cu (v := (.int .i64 (Vs))) Tryz.results112 rfl ?_))))))))))))
 obtain rfl := Option.some.inj hs
 exact ⟨h.grown, rfl⟩
 refine aG (aA (aa (ag (ae (dH rfl rfl e27r) (ae (au (v := (.int .i64 ((i22 + 1)))) rfl) (ah (az ?_)))))))
 subst Ru
 exact jN ⟨k21 + 1, i22 + 1⟩ ⟨h.cn _, by omega, hs⟩ (by have := of_decide_eq_true e26; dsimp only; omega)
 rw [gz (hik ▸ e26), iw] at hs
 refine dh (aO (aO (bE (aa (ai (ag (ae (aj (v := (.int .i64 (0))) rfl) (ah (aa (aK (cu (v := (.int .i64 (0))) Tryz.results112 rfl ?_)))))))))))
 obtain rfl := Option.some.inj hs
 exact ⟨h.grown, rfl⟩
theorem si (w0 : World) (M : BS) (hM : ∀ b, M b → b < w0.heap.size) (hT : uj Tryz.prog 4 w0) (a : Int) (r : Str) (hs : Ip a = some r) :
    Calls Tryz.prog 125 #[.int .i64 a] w0 (fun e w' => Grow w0 w' ∧ e = .returned (bz r)) :=
  VZ Tryz.strconv_Itoa hT hs
theorem xU (w0 : World) (M : BS) (hM : ∀ b, M b → b < w0.heap.size) (hT : uj Tryz.prog 4 w0) (a : Str) (r : List Str) (hs : Cz a = some r) :
    Calls Tryz.prog 111 #[bz a] w0 (fun e w' => Grow w0 w' ∧ ∃ u, e = .returned u ∧ fH nJ w' M u r) :=
  QZ Tryz.strings_Fields (q := 0) (by kernel_rfl) hM hT hs
def jB (a : Tok) : Option Str :=
  (Ip a.n).bind fun y2 => bif decide ((a.kind : Int) = 2) then ib ([118].length + y2.length ≤ 9223372036854775807) (some ([118] ++ y2)) else bif decide ((a.kind : Int) = 3) then ib (jO (a.n + 1)) ((subs? [63, 43, 45, 42, 60, 61] a.n (a.n + 1)).bind fun x9 => some x9) else bif decide ((a.kind : Int) = 4) then ib ([46].length + y2.length ≤ 9223372036854775807) (some ([46] ++ y2)) else bif decide ((a.kind : Int) = 5) then ib ([110, 101, 119].length + y2.length ≤ 9223372036854775807) (some ([110, 101, 119] ++ y2)) else bif decide ((a.kind : Int) = 6) then ib ([102].length + y2.length ≤ 9223372036854775807) (some ([102] ++ y2)) else some y2
theorem oP (w0 : World) (M : BS) (hM : ∀ b, M b → b < w0.heap.size) (hT : uj Tryz.prog 4 w0) (a : Tok) (r : Str) (hs : jB a = some r) :
    Calls Tryz.prog 106 #[(.agg #[(.int .i64 (a.kind)), (.int .i64 (a.n))])] w0 (fun e w' => Grow w0 w' ∧ e = .returned (bz r)) := by
 refine aS (args := [(.agg #[(.int .i64 (a.kind)), (.int .i64 (a.n))])]) Tryz.func106 rfl Tryz.ntmps106 (Nat.le_of_ble_eq_true rfl) ?_
 have h := SH.init hM
 refine ai (ag (oD (cs := [(.int .i64 (a.kind)), (.int .i64 (a.n))]) h 1 rfl rfl fun w b1 h => ae (aj (v := (bz [])) rfl) (ah (aa (ai (ag (ae (ak mU rfl) (ae (aD h 1 rfl aZ rfl rfl) ?_))))))))
 obtain ⟨y2, e3, hs⟩ := aQ hs
 refine bA Fv rfl rfl (si _ _ h.lt (hT.go h.keep) a.n _ e3) ?_
 rintro _ w ⟨k4, rfl⟩
 refine ⟨_, rfl, ?_⟩
 replace h := h.grow k4
 refine ae (aj (v := (bz y2)) rfl) (ah (aa (ai (ai (ag (ae (ak CG rfl) (ae (aD h 1 rfl aZ rfl rfl) (ah (aa (aU (ai (ag (ae (bJ rfl rfl) (ae (aj (v := (.bool (decide ((a.kind : Int) = 2)))) rfl) (ah (aa (aN hs rfl (fun c5 hs => ?_) (fun c5 hs => ?_))))))))))))))))))
 refine ai (ag (ae (au (v := (bz y2)) rfl) ?_))
 obtain ⟨a6, hs⟩ := bM hs
 refine ae (lU rfl rfl a6) (ae (aj (v := (bz ([118] ++ y2))) rfl) (ah (aa (aK (aH (aC (cu (v := (bz ([118] ++ y2))) Tryz.results106 rfl ?_)))))))
 obtain rfl := Option.some.inj hs
 exact ⟨h.grown, rfl⟩
 refine ai (ag (ae (bJ rfl rfl) (ae (aj (v := (.bool (decide ((a.kind : Int) = 3)))) rfl) (ah (aa (aN hs rfl (fun c7 hs => ?_) (fun c7 hs => ?_)))))))
 refine ai (ag (ae (ak mU rfl) (ae (aD h 1 rfl aZ rfl rfl) (ae (ak mU rfl) (ae (aD h 1 rfl aZ rfl rfl) ?_)))))
 obtain ⟨a8, hs⟩ := bM hs
 refine ae (dH rfl rfl a8) ?_
 obtain ⟨x9, e10, hs⟩ := aQ hs
 obtain ⟨Rv, Rw, e11c, e11⟩ := Ml e10
 refine ae (Mk e11 Tryz.underlying9 rfl (.inr (congrArg some rfl)) (.inr (congrArg some rfl)) Rv Rw e11c) (ae (aj (v := (bz x9)) rfl) (ah (aa (aK (aH (aC (cu (v := (bz x9)) Tryz.results106 rfl ?_)))))))
 obtain rfl := Option.some.inj hs
 exact ⟨h.grown, rfl⟩
 refine ai (ag (ae (bJ rfl rfl) (ae (aj (v := (.bool (decide ((a.kind : Int) = 4)))) rfl) (ah (aa (aN hs rfl (fun c12 hs => ?_) (fun c12 hs => ?_)))))))
 refine ai (ag (ae (au (v := (bz y2)) rfl) ?_))
 obtain ⟨a13, hs⟩ := bM hs
 refine ae (lU rfl rfl a13) (ae (aj (v := (bz ([46] ++ y2))) rfl) (ah (aa (aK (aH (aC (cu (v := (bz ([46] ++ y2))) Tryz.results106 rfl ?_)))))))
 obtain rfl := Option.some.inj hs
 exact ⟨h.grown, rfl⟩
 refine ai (ag (ae (bJ rfl rfl) (ae (aj (v := (.bool (decide ((a.kind : Int) = 5)))) rfl) (ah (aa (aN hs rfl (fun c14 hs => ?_) (fun c14 hs => ?_)))))))
 refine ai (ag (ae (au (v := (bz y2)) rfl) ?_))
 obtain ⟨a15, hs⟩ := bM hs
 refine ae (lU rfl rfl a15) (ae (aj (v := (bz ([110, 101, 119] ++ y2))) rfl) (ah (aa (aK (aH (aC (cu (v := (bz ([110, 101, 119] ++ y2))) Tryz.results106 rfl ?_)))))))
 obtain rfl := Option.some.inj hs
 exact ⟨h.grown, rfl⟩
 refine ai (ag (ae (bJ rfl rfl) (ae (aj (v := (.bool (decide ((a.kind : Int) = 6)))) rfl) (ah (aa (aN hs rfl (fun c16 hs => ?_) (fun c16 hs => ?_)))))))
 refine ai (ag (ae (au (v := (bz y2)) rfl) ?_))
 obtain ⟨a17, hs⟩ := bM hs
 refine ae (lU rfl rfl a17) (ae (aj (v := (bz ([102] ++ y2))) rfl) (ah (aa (aK (aH (aC (cu (v := (bz ([102] ++ y2))) Tryz.results106 rfl ?_)))))))
 obtain rfl := Option.some.inj hs
 exact ⟨h.grown, rfl⟩
 refine aG (aA (aa (ai (ag (ae (au (v := (bz y2)) rfl) (ae (aj (v := (bz y2)) rfl) (ah (aa (aK (cu (v := (bz y2)) Tryz.results106 rfl ?_))))))))))
 obtain rfl := Option.some.inj hs
 exact ⟨h.grown, rfl⟩
def mV (x7 : Tok) (x4 : Str) (Fx : Str → Option Str) : Option Str :=
  (jB x7).bind fun Ho => ib ([32].length + Ho.length ≤ 9223372036854775807) (ib (x4.length + ([32] ++ Ho).length ≤ 9223372036854775807) (Fx (x4 ++ ([32] ++ Ho))))
def mW (x4 : Str) : Option Str :=
  some x4
def pO (a : List Tok) : Option Str :=
  each mV mW a []
theorem sj (w0 : World) (M : BS) (hM : ∀ b, M b → b < w0.heap.size) (hT : uj Tryz.prog 4 w0) (va : Value) (a : List Tok) (ha : gL ku w0 BE M va a) (r : Str) (hs : pO a = some r) :
    Calls Tryz.prog 147 #[va] w0 (fun e w' => Grow w0 w' ∧ e = .returned (bz r)) := by
 refine aS (args := [va]) Tryz.func147 rfl Tryz.ntmps147 (Nat.le_of_ble_eq_true rfl) ?_
 have h := SH.init hM
 replace h := h.fI 1 ha bN
 have uw := ha.cB
 refine ai (ag (ae (aj (v := (bz [])) rfl) (ah (aa (ai (ag (ae (aj (v := (bz [])) rfl) (ah (aa (ai (ai (ag (ae (au (v := va) rfl) (ae (bW j5 rfl (h.iI 1 rfl)) (ae (au (v := (.int .i64 (0))) rfl) (ah (aa (aU (gP (σ := Nat × Int × Str) (inl [3, 5, 8, 9, 10, 11, 12, 13, 14, 15, 16, 17]) (fun ⟨k5, i6, x4⟩ => [(3, (bz x4)), (8, (.int .i64 (i6)))]) (fun ⟨k5, i6, x4⟩ w => SH w0 M BE w (hset [(1, .sr ku va a)]) ∧ i6 = (k5 : Int) ∧ each mV mW (a.drop k5) x4 = some r) (fun ⟨k5, i6, x4⟩ => a.length - k5) ⟨0, 0, []⟩ ⟨rfl, rfl, trivial⟩ ?_ ?_)))))))))))))))))))
 exact ⟨h.cn _, rfl, hs⟩
 rintro ⟨k5, i6, x4⟩ w dD ⟨h, hik, hs⟩
 refine ai (ag ?_)
 refine ae (dS rfl rfl) (ah (aa ?_))
 refine ai (iJ rfl (fun e10 => ?_) (fun e10 => ?_))
 refine aG (aa ?_)
 obtain ⟨x7, Rv, Rw⟩ := gy (hik ▸ e10)
 rw [Rw, dW] at hs
 generalize Rx : each mV mW (a.drop (k5 + 1)) = Fx at hs
 have Ry := gD ((h.iI 1 rfl)).cB hik e10
 refine ai (aU (ai (ag ?_)))
 obtain ⟨b13, o14, cs15, h, r16, i12⟩ := h.xD 1 2 rfl j5 rfl (iU hik) (gB hik Rv)
 obtain rfl := r16
 refine ae (i12 _ _ _ _ _ _ _ _ _ rfl rfl) (ae (jg (k := 0) (vs := [(.int .i64 (x7.kind)), (.int .i64 (x7.n))]) h 2 rfl jX rfl rfl rfl (Nat.le_of_ble_eq_true rfl)) (bY h 3 jX fun w b17 h => dB (vs := [(.int .i64 (x7.kind)), (.int .i64 (x7.n))]) h 3 [(.int .i64 (x7.kind)), (.int .i64 (x7.n))] rfl jX rfl rfl rfl rfl rfl (ay rfl (ay rfl bg)) fun w h => ah (aa (ag (ae (au (v := (bz x4)) rfl) (ae (dE (vs := [(.int .i64 (x7.kind)), (.int .i64 (x7.n))]) h 3 rfl jX rfl rfl rfl) ?_))))))
 obtain ⟨Ho, e19, hs⟩ := aQ hs
 refine bA JD rfl rfl (oP _ _ h.lt (hT.go h.keep) x7 _ e19) ?_
 rintro _ w ⟨k20, rfl⟩
 refine ⟨_, rfl, ?_⟩
 replace h := h.grow k20
 obtain ⟨a21, hs⟩ := bM hs
 refine ae (lU rfl rfl a21) ?_
 obtain ⟨a22, hs⟩ := bM hs
 refine ae (lU rfl rfl a22) (ae (aj (v := (bz (x4 ++ ([32] ++ Ho)))) rfl) (ah (aA (aa (ag (ae (dH rfl rfl Ry) (ae (au (v := (.int .i64 ((i6 + 1)))) rfl) (ah (az ?_)))))))))
 subst Rx
 exact jN ⟨k5 + 1, i6 + 1, (x4 ++ ([32] ++ Ho))⟩ ⟨h.cn _, by omega, hs⟩ (by have := of_decide_eq_true e10; dsimp only; omega)
 rw [gz (hik ▸ e10), iw] at hs
 refine dh (aO (aO (bE (aa (ai (ag (ae (au (v := (bz x4)) rfl) (ae (aj (v := (bz x4)) rfl) (ah (aa (aK (cu (v := (bz x4)) Tryz.results147 rfl ?_))))))))))))
 obtain rfl := Option.some.inj hs
 exact ⟨h.grown, rfl⟩
def lV (Fx : Str → Option Str) (wo : Str) : Option Str :=
  Fx wo
def lW (F0 : List bI → Option Str) (x7 : bI) (Fx : Str → Option Str) (x34 : Str) : Option Str :=
  bif decide ((x7.kind : Int) = 6) then (F0 x7.b).bind fun lQ => ib ([32].length + lQ.length ≤ 9223372036854775807) (ib (x34.length + ([32] ++ lQ).length ≤ 9223372036854775807) (lV Fx (x34 ++ ([32] ++ lQ)))) else lV Fx x34
def lX (F0 : List bI → Option Str) (x7 : bI) (a : List bI) (Fx : Str → Option Str) (x30 : Str) : Option Str :=
  (pO x7.e).bind fun pQ => (pO x7.f).bind fun pR => ib (pQ.length + pR.length ≤ 9223372036854775807) (ib (x30.length + (pQ ++ pR).length ≤ 9223372036854775807) (bif (decide ((x7.kind : Int) = 6) || decide ((x7.kind : Int) = 7)) then (F0 x7.a).bind fun wu => ib ([32].length + wu.length ≤ 9223372036854775807) (ib ((x30 ++ (pQ ++ pR)).length + ([32] ++ wu).length ≤ 9223372036854775807) (lW F0 x7 Fx ((x30 ++ (pQ ++ pR)) ++ ([32] ++ wu)))) else lW F0 x7 Fx (x30 ++ (pQ ++ pR))))
def lY (F0 : List bI → Option Str) (a : List bI) (x7 : bI) (x4 : Str) (Fx : Str → Option Str) : Option Str :=
  ib (jO (x7.kind - 1)) ((Cz [115, 101, 116, 32, 112, 117, 116, 32, 115, 97, 121, 32, 112, 97, 117, 115, 101, 32, 103, 111, 32, 105, 102, 32, 119, 104, 105, 108, 101, 32, 114, 101, 116, 117, 114, 110]).bind fun KP => (idx KP (x7.kind - 1)).bind fun pU => ib ([32].length + pU.length ≤ 9223372036854775807) (ib (x4.length + ([32] ++ pU).length ≤ 9223372036854775807) (bif decide ((x7.kind : Int) ≤ 2) then (Ip x7.n).bind fun sW => ib ([32].length + sW.length ≤ 9223372036854775807) (ib ((x4 ++ ([32] ++ pU)).length + ([32] ++ sW).length ≤ 9223372036854775807) (lX F0 x7 a Fx ((x4 ++ ([32] ++ pU)) ++ ([32] ++ sW)))) else lX F0 x7 a Fx (x4 ++ ([32] ++ pU)))))
def lZ (x4 : Str) : Option Str :=
  ib (x4.length + [32, 125].length ≤ 9223372036854775807) (some (x4 ++ [32, 125]))
def rD (F0 : List bI → Option Str) (a : List bI) : Option Str :=
  each (lY F0 a) lZ a [123]
def jF : Nat → List bI → Option Str
  | 0 => fun _ => none
  | N + 1 => rD (jF N)
theorem xV : ∀ (N : Nat) (w0 : World) (M : BS) (hM : ∀ b, M b → b < w0.heap.size) (hT : uj Tryz.prog 4 w0) (va : Value) (a : List bI) (ha : gL eP w0 BE M va a) (r : Str) (hs : jF N a = some r),
    Calls Tryz.prog 130 #[va] w0 (fun e w' => Grow w0 w' ∧ e = .returned (bz r)) := by
 intro N
 induction N with
 | zero => intro w0 M hM hT va a ha r hs; cases hs
 | succ N ih =>
 intro w0 M hM hT va a ha r hs
 replace hs : rD (jF N) a = some r := hs
 generalize jF N = F0 at hs ih
 refine aS (args := [va]) Tryz.func130 rfl Tryz.ntmps130 (Nat.le_of_ble_eq_true rfl) ?_
 have h := SH.init hM
 replace h := h.fI 1 ha bN
 have uw := ha.cB
 refine ai (ag (ae (aj (v := (bz [])) rfl) (ah (aa (ai (ag (ae (aj (v := (bz [123])) rfl) (ah (aa (ai (ai (ag (ae (au (v := va) rfl) (ae (bW kM rfl (h.iI 1 rfl)) (ae (au (v := (.int .i64 (0))) rfl) (ah (aa (aU (gP (σ := Nat × Int × Str) (inl [3, 5, 8, 9, 10, 11, 12, 13, 14, 15, 16, 17, 18, 19, 20, 21, 22, 23, 24, 25, 26, 27, 28, 29, 30, 31, 32, 33, 34, 35, 36, 37, 38, 39, 40, 41, 42, 43, 44, 45, 46, 47, 48, 49, 50, 51, 52, 53, 54, 55, 56, 57, 58, 59, 60, 61, 62]) (fun ⟨k5, i6, x4⟩ => [(3, (bz x4)), (8, (.int .i64 (i6)))]) (fun ⟨k5, i6, x4⟩ w => SH w0 M BE w (hset [(1, .sr eP va a)]) ∧ i6 = (k5 : Int) ∧ each (lY F0 a) lZ (a.drop k5) x4 = some r) (fun ⟨k5, i6, x4⟩ => a.length - k5) ⟨0, 0, [123]⟩ ⟨rfl, rfl, trivial⟩ ?_ ?_)))))))))))))))))))
 exact ⟨h.cn _, rfl, hs⟩
 rintro ⟨k5, i6, x4⟩ w dD ⟨h, hik, hs⟩
 refine ai (ag ?_)
 refine ae (dS rfl rfl) (ah (aa ?_))
 refine ai (iJ rfl (fun e10 => ?_) (fun e10 => ?_))
 refine aG (aa ?_)
 obtain ⟨x7, Rv, Rw⟩ := gy (hik ▸ e10)
 rw [Rw, dW] at hs
 generalize Rx : each (lY F0 a) lZ (a.drop (k5 + 1)) = Fx at hs
 have Ry := gD ((h.iI 1 rfl)).cB hik e10
 refine cz (σ := Str) (inl [3, 5, 10, 11, 12, 13, 14, 15, 16, 17, 18, 19, 20, 21, 22, 23, 24, 25, 26, 27, 28, 29, 30, 31, 32, 33, 34, 35, 36, 37, 38, 39, 40, 41, 42, 43, 44, 45, 46, 47, 48, 49, 50, 51, 52, 53, 54, 55, 56, 57, 58, 59, 60, 61]) (fun wo => [(3, (bz wo))]) (fun wo w => SH w0 M BE w (hset [(1, .sr eP va a)]) ∧ lV Fx wo = some r) ?_ ?_
 rintro wo w dD ⟨h, hs⟩
 refine ag (ae (dH rfl rfl Ry) (ae (au (v := (.int .i64 ((i6 + 1)))) rfl) (ah (az ?_))))
 subst Rx
 exact jN ⟨k5 + 1, i6 + 1, wo⟩ ⟨h.cn _, by omega, hs⟩ (by have := of_decide_eq_true e10; dsimp only; omega)
 refine aU (ai (ag ?_))
 obtain ⟨b14, o15, cs16, h, r17, i13⟩ := h.xD 1 2 rfl kM rfl (iU hik) (gB hik Rv)
 obtain ⟨Qs, u20, u22, u24, rfl, g19, g21, g23, g25⟩ := yI r17
 replace h := h.di 3 g19.up
 replace h := h.di 4 g21.up.up
 replace h := h.di 5 g23.up.up.up
 replace h := h.di 6 g25.up.up.up.up
 refine ae (i13 _ _ _ _ _ _ _ _ _ rfl rfl) (ae (jg (k := 0) (vs := [(.int .i64 (x7.kind)), (.int .i64 (x7.n)), Qs, u20, u22, u24]) h 2 rfl nQ rfl rfl rfl (Nat.le_of_ble_eq_true rfl)) (bY h 7 nQ fun w WM h => dB (vs := [(.int .i64 (x7.kind)), (.int .i64 (x7.n)), Qs, u20, u22, u24]) h 7 [(.int .i64 (x7.kind)), (.int .i64 (x7.n)), Qs, u20, u22, u24] rfl nQ rfl rfl rfl rfl rfl (ay rfl (ay rfl (ay (h.iq 3 rfl).one (ay (h.iq 4 rfl).one (ay (h.iq 5 rfl).one (ay (h.iq 6 rfl).one bg)))))) fun w h => ah (aa (ai (Cy mixed h fun w h => bZ 0 (aL.refl BE _) rfl ax (by kernel_rfl) (by kernel_rfl) (by kernel_rfl) (fun w hk => au (v := (bz x4)) rfl) (bZ 2 (aL.refl BE _) rfl ax (by kernel_rfl) (by kernel_rfl) (by kernel_rfl) (fun w hk => ak jP rfl) (bZ 3 (aL.refl BE _) rfl ax (by kernel_rfl) (by kernel_rfl) (by kernel_rfl) (fun w hk => have h := h.grow hk; aD h 7 rfl aZ rfl rfl) ?_)))))))
 obtain ⟨F8, hs⟩ := bM hs
 refine bZ 4 (aL.refl BE _) rfl ax (by kernel_rfl) (by kernel_rfl) (by kernel_rfl) (fun w hk => oz rfl rfl F8) ?_
 obtain ⟨Rz, KQ⟩ : ∃ x, x = w := ⟨_, rfl⟩
 have rO : Grow Rz w := KQ ▸ aL.refl BE w
 refine Il KQ.symm (uT 1 (by kernel_rfl) rfl ax ?_)
 obtain ⟨KP, RA, hs⟩ := aQ hs
 refine bA Oe rfl rfl (xU _ _ h.lt (hT.go h.keep) [115, 101, 116, 32, 112, 117, 116, 32, 115, 97, 121, 32, 112, 97, 117, 115, 101, 32, 103, 111, 32, 105, 102, 32, 119, 104, 105, 108, 101, 32, 114, 101, 116, 117, 114, 110] _ RA) ?_
 rintro _ w ⟨KR, Zd, rfl, RB⟩
 refine ⟨_, rfl, ?_⟩
 replace h := h.Ie 20 KR RB
 replace rO := rO.trans KR
 refine ah (o7 rO ?_)
 obtain ⟨pU, KS, hs⟩ := aQ hs
 obtain ⟨Ze, Zf, X8, h, RD, RF⟩ := h.Dm 20 68 rfl eQ rfl (aI KS).1 (aI KS).2
 obtain rfl := RD
 refine bZ 5 rO rfl ax (by kernel_rfl) (by kernel_rfl) (by kernel_rfl) (fun w hk => RF _ _ _ _ _ _ _ _ _ rfl rfl) (Jo rO ?_)
 obtain ⟨Pn, MF⟩ : ∃ x, x = w := ⟨_, rfl⟩
 have X9 : Grow Pn w := MF ▸ aL.refl _ _
 refine bZ 6 (aL.refl BE _) rfl ax (by kernel_rfl) (by kernel_rfl) (by kernel_rfl) (fun w hk => have h := h.grow hk; eO (k := 0) h 68 rfl xP rfl rfl) ?_
 obtain ⟨RG, hs⟩ := bM hs
 refine bZ 7 (aL.refl BE _) rfl ax (by kernel_rfl) (by kernel_rfl) (by kernel_rfl) (fun w hk => lU rfl rfl RG) ?_
 obtain ⟨RH, hs⟩ := bM hs
 refine bZ 8 (aL.refl BE _) rfl ax (by kernel_rfl) (by kernel_rfl) (by kernel_rfl) (fun w hk => lU rfl rfl RH) (bZ 9 (aL.refl BE _) rfl ax (by kernel_rfl) (by kernel_rfl) (by kernel_rfl) (fun w hk => aj (v := (bz (x4 ++ ([32] ++ pU)))) rfl) (rV (by kernel_rfl) (aa (cz (σ := Str) (inl [3, 21, 22, 23, 24, 25, 26, 27, 28, 29]) (fun x30 => [(3, (bz x30))]) (fun x30 w => SH w0 M BE w (hset [(1, .sr eP va a), (3, .rd ku Qs x7.e), (4, .rd ku u20 x7.f), (5, .rd eP u22 x7.a), (6, .rd eP u24 x7.b), (7, .blk WM [(.int .i64 (x7.kind)), (.int .i64 (x7.n)), Qs, u20, u22, u24])]) ∧ lX F0 x7 a Fx x30 = some r) ?_ ?_))))
 rintro x30 w dD ⟨h, hs⟩
 refine ai (Cy mixed h fun w h => bZ 0 (aL.refl BE _) rfl ax (by kernel_rfl) (by kernel_rfl) (by kernel_rfl) (fun w hk => au (v := (bz x30)) rfl) (bZ 1 (aL.refl BE _) rfl ax (by kernel_rfl) (by kernel_rfl) (by kernel_rfl) (fun w hk => ak xL rfl) (bZ 2 (aL.refl BE _) rfl ax (by kernel_rfl) (by kernel_rfl) (by kernel_rfl) (fun w hk => have h := h.grow hk; aD h 7 rfl vZ rfl rfl) (bZ 4 (aL.refl BE _) rfl ax (by kernel_rfl) (by kernel_rfl) (by kernel_rfl) (fun w hk => ak zO rfl) (bZ 5 (aL.refl BE _) rfl ax (by kernel_rfl) (by kernel_rfl) (by kernel_rfl) (fun w hk => have h := h.grow hk; aD h 7 rfl vZ rfl rfl) ?_)))))
 obtain ⟨MG, KT⟩ : ∃ x, x = w := ⟨_, rfl⟩
 have mI : Grow MG w := KT ▸ aL.refl BE w
 refine Il KT.symm (uT 3 (by kernel_rfl) rfl ax ?_)
 obtain ⟨pQ, RI, hs⟩ := aQ hs
 refine bA Oj rfl rfl (sj _ _ h.lt (hT.go h.keep) Qs x7.e (h.mH 3 rfl) _ RI) ?_
 rintro _ w ⟨KU, rfl⟩
 refine ⟨_, rfl, ?_⟩
 replace h := h.grow KU
 replace mI := mI.trans KU
 refine ah (o7 mI (uT 6 (by kernel_rfl) rfl ax ?_))
 obtain ⟨pR, RJ, hs⟩ := aQ hs
 refine bA Oj rfl rfl (sj _ _ h.lt (hT.go h.keep) u20 x7.f (h.mH 4 rfl) _ RJ) ?_
 rintro _ w ⟨KV, rfl⟩
 refine ⟨_, rfl, ?_⟩
 replace h := h.grow KV
 replace mI := mI.trans KV
 refine ah (o7 mI ?_)
 obtain ⟨RL, hs⟩ := bM hs
 refine bZ 7 mI rfl ax (by kernel_rfl) (by kernel_rfl) (by kernel_rfl) (fun w hk => lU rfl rfl RL) ?_
 obtain ⟨RN, hs⟩ := bM hs
 refine bZ 8 mI rfl ax (by kernel_rfl) (by kernel_rfl) (by kernel_rfl) (fun w hk => lU rfl rfl RN) (bZ 9 mI rfl ax (by kernel_rfl) (by kernel_rfl) (by kernel_rfl) (fun w hk => aj (v := (bz (x30 ++ (pQ ++ pR)))) rfl) (rV (by kernel_rfl) (aa (cz (σ := Str) (inl [3, 39, 40, 41, 42, 43, 44, 45, 46, 47, 48, 49, 50, 51, 52]) (fun x34 => [(3, (bz x34))]) (fun x34 w => SH w0 M BE w (hset [(1, .sr eP va a), (3, .rd ku Qs x7.e), (4, .rd ku u20 x7.f), (5, .rd eP u22 x7.a), (6, .rd eP u24 x7.b), (7, .blk WM [(.int .i64 (x7.kind)), (.int .i64 (x7.n)), Qs, u20, u22, u24])]) ∧ lW F0 x7 Fx x34 = some r) ?_ ?_))))
 rintro x34 w dD ⟨h, hs⟩
 refine ai (ag (ae (ak jP rfl) (ae (aD h 7 rfl aZ rfl rfl) (ae (bJ rfl rfl) (ah (aa (aN hs rfl (fun WV hs => ?_) (fun WV hs => ?_))))))))
 refine ag (ae (au (v := (bz x34)) rfl) (ae (ak xN rfl) (ae (aD h 7 rfl oN rfl rfl) ?_)))
 obtain ⟨lQ, e37, hs⟩ := aQ hs
 refine bA JH rfl rfl (ih _ _ h.lt (hT.go h.keep) u24 x7.b (h.mH 6 rfl) _ e37) ?_
 rintro _ w ⟨Zc, rfl⟩
 refine ⟨_, rfl, ?_⟩
 replace h := h.grow Zc
 obtain ⟨a39, hs⟩ := bM hs
 refine ae (lU rfl rfl a39) ?_
 obtain ⟨a40, hs⟩ := bM hs
 refine ae (lU rfl rfl a40) (ae (aj (v := (bz (x34 ++ ([32] ++ lQ)))) rfl) (ah (aA (az ?_))))
 exact bU (x34 ++ ([32] ++ lQ)) ⟨h.cn _, hs⟩
 refine aG (aA (az ?_))
 exact bU x34 ⟨h.cn _, hs⟩
 refine ai (ag (ae (ak jP rfl) (ae (aD h 7 rfl aZ rfl rfl) (ae (bJ rfl rfl) (ae (au (v := (.bool (decide ((x7.kind : Int) = 6)))) rfl) (aF rfl rfl (fun q => ak jP rfl) (aF rfl rfl (fun q => aD h 7 rfl aZ (dA q) rfl) (aF rfl rfl (fun q => bJ (dA q) rfl) (ae (ic rfl rfl ma) (ah (aa (aN hs rfl (fun WS hs => ?_) (fun WS hs => ?_)))))))))))))
 refine ag (ae (au (v := (bz (x30 ++ (pQ ++ pR)))) rfl) (ae (ak xM rfl) (ae (aD h 7 rfl oN rfl rfl) ?_)))
 obtain ⟨wu, e43, hs⟩ := aQ hs
 refine bA JH rfl rfl (ih _ _ h.lt (hT.go h.keep) u22 x7.a (h.mH 5 rfl) _ e43) ?_
 rintro _ w ⟨k44, rfl⟩
 refine ⟨_, rfl, ?_⟩
 replace h := h.grow k44
 obtain ⟨a45, hs⟩ := bM hs
 refine ae (lU rfl rfl a45) ?_
 obtain ⟨a46, hs⟩ := bM hs
 refine ae (lU rfl rfl a46) (ae (aj (v := (bz ((x30 ++ (pQ ++ pR)) ++ ([32] ++ wu)))) rfl) (ah (az ?_)))
 exact bU ((x30 ++ (pQ ++ pR)) ++ ([32] ++ wu)) ⟨h.cn _, hs⟩
 refine aG (az ?_)
 exact bU (x30 ++ (pQ ++ pR)) ⟨h.cn _, hs⟩
 refine ai (ag (ae (ak jP rfl) (ae (aD h 7 rfl aZ rfl rfl) (ae (Cr rfl rfl) (ah (aa (aN hs rfl (fun Y9 hs => ?_) (fun Y9 hs => ?_))))))))
 refine ag (ae (au (v := (bz (x4 ++ ([32] ++ pU)))) rfl) (ae (ak uo rfl) (ae (aD h 7 rfl aZ rfl rfl) ?_)))
 obtain ⟨sW, e49, hs⟩ := aQ hs
 refine bA Fv rfl rfl (si _ _ h.lt (hT.go h.keep) x7.n _ e49) ?_
 rintro _ w ⟨k50, rfl⟩
 refine ⟨_, rfl, ?_⟩
 replace h := h.grow k50
 obtain ⟨a51, hs⟩ := bM hs
 refine ae (lU rfl rfl a51) ?_
 obtain ⟨a52, hs⟩ := bM hs
 refine ae (lU rfl rfl a52) (ae (aj (v := (bz ((x4 ++ ([32] ++ pU)) ++ ([32] ++ sW)))) rfl) (ah (az ?_)))
 exact bU ((x4 ++ ([32] ++ pU)) ++ ([32] ++ sW)) ⟨h.cn _, hs⟩
 refine aG (az ?_)
 exact bU (x4 ++ ([32] ++ pU)) ⟨h.cn _, hs⟩
 rw [gz (hik ▸ e10), iw] at hs
 refine dh (aO (aO (bE (aa (ai (ag (ae (au (v := (bz x4)) rfl) ?_)))))))
 obtain ⟨a53, hs⟩ := bM hs
 refine ae (lU rfl rfl a53) (ae (aj (v := (bz (x4 ++ [32, 125]))) rfl) (ah (aa (aK (cu (v := (bz (x4 ++ [32, 125]))) Tryz.results130 rfl ?_)))))
 obtain rfl := Option.some.inj hs
 exact ⟨h.grown, rfl⟩
theorem F9 (w0 : World) (M : BS) (hM : ∀ b, M b → b < w0.heap.size) (va : Value) (a : List Str) (ha : gL nJ w0 BE M va a) (b : Str) (r : Str) (hs : QP a b = some r) :
    Calls Tryz.prog 131 #[va, bz b] w0 (fun e w' => Grow w0 w' ∧ e = .returned (bz r)) :=
  V5 Tryz.strings_Join_none Tryz.strings_Join ha hs
def l5 (N : Nat) (eu : fB) (x8 : List Str) (nK : List Str → Option Str) : Option Str :=
  (Ip eu.params).bind fun oH => ib ([102, 117, 110, 32].length + oH.length ≤ 9223372036854775807) (ib (([102, 117, 110, 32] ++ oH).length + [32].length ≤ 9223372036854775807) ((Ip eu.locals).bind fun qM => ib ((([102, 117, 110, 32] ++ oH) ++ [32]).length + qM.length ≤ 9223372036854775807) (ib (((([102, 117, 110, 32] ++ oH) ++ [32]) ++ qM).length + [32].length ≤ 9223372036854775807) ((jF N eu.body).bind fun rE => ib ((((([102, 117, 110, 32] ++ oH) ++ [32]) ++ qM) ++ [32]).length + rE.length ≤ 9223372036854775807) (ib (Room 16 x8 [((((([102, 117, 110, 32] ++ oH) ++ [32]) ++ qM) ++ [32]) ++ rE)]) (nK (x8 ++ [((((([102, 117, 110, 32] ++ oH) ++ [32]) ++ qM) ++ [32]) ++ rE)])))))))
def l6 (x8 : List Str) : Option Str :=
  (QP x8 [32]).bind fun Fy => some Fy
def su (N : Nat) (a : List fB) : Option Str :=
  each (l5 N) l6 a []
theorem xm (N : Nat) (w0 : World) (M : BS) (hM : ∀ b, M b → b < w0.heap.size) (hT : uj Tryz.prog 4 w0) (va : Value) (a : List fB) (ha : gL iY w0 BE M va a) (r : Str) (hs : su N a = some r) :
    Calls Tryz.prog 113 #[va] w0 (fun e w' => Grow w0 w' ∧ e = .returned (bz r)) := by
 refine aS (args := [va]) Tryz.func113 rfl Tryz.ntmps113 (Nat.le_of_ble_eq_true rfl) ?_
 have h := SH.init hM
 replace h := h.fI 1 ha bN
 have uw := ha.cB
 refine ai (ag (ae (aj (v := (bz [])) rfl) (ah (aa (ai (ag (ae (aj (v := (.slice none 0 0)) rfl) (ah (aa (ai (ai (ag (ae (au (v := va) rfl) (ae (bW iM rfl (h.iI 1 rfl)) (ae (au (v := (.int .i64 (0))) rfl) (ah (aa (aU ?_))))))))))))))))))
 replace h := h.yF (R := nJ) (E := 9) 5
 refine gP (σ := Nat × Int × Value × List Str) (inl [3, 5, 8, 9, 10, 11, 12, 13, 14, 15, 16, 17, 18, 19, 20, 21, 22, 23, 24, 25, 26, 27, 28, 29]) (fun ⟨k9, i10, v7, x8⟩ => [(3, v7), (8, (.int .i64 (i10)))]) (fun ⟨k9, i10, v7, x8⟩ w => SH w0 M BE w (hset [(1, .sr iY va a), (5, .own nJ 9 v7 x8)]) ∧ i10 = (k9 : Int) ∧ each (l5 N) l6 (a.drop k9) x8 = some r) (fun ⟨k9, i10, v7, x8⟩ => a.length - k9) ⟨0, 0, (.slice none 0 0), []⟩ ⟨rfl, rfl, trivial⟩ ?_ ?_
 exact ⟨h.cn _, rfl, hs⟩
 rintro ⟨k9, i10, v7, x8⟩ w dD ⟨h, hik, hs⟩
 refine ai (ag ?_)
 refine ae (dS rfl rfl) (ah (aa ?_))
 refine ai (iJ rfl (fun e14 => ?_) (fun e14 => ?_))
 refine aG (aa ?_)
 obtain ⟨eu, MH, MI⟩ := gy (hik ▸ e14)
 rw [MI, dW] at hs
 generalize Ga : each (l5 N) l6 (a.drop (k9 + 1)) = nK at hs
 have MJ := gD ((h.iI 1 rfl)).cB hik e14
 refine ai (aU (ai (ag ?_)))
 obtain ⟨b17, o18, UA, h, RO, i16⟩ := h.xD 1 6 rfl iM rfl (iU hik) (gB hik MH)
 obtain ⟨u21, rfl, g22⟩ := ru RO
 replace h := h.di 7 g22.up
 refine ae (i16 _ _ _ _ _ _ _ _ _ rfl rfl) (ae (jg (k := 0) (vs := [(.int .i64 (eu.params)), (.int .i64 (eu.locals)), u21]) h 6 rfl lN rfl rfl rfl (Nat.le_of_ble_eq_true rfl)) (bY h 8 lN fun w Br h => dB (vs := [(.int .i64 (eu.params)), (.int .i64 (eu.locals)), u21]) h 8 [(.int .i64 (eu.params)), (.int .i64 (eu.locals)), u21] rfl lN rfl rfl rfl rfl rfl (ay rfl (ay rfl (ay (h.iq 7 rfl).one bg))) fun w h => ah (aa (mf (L := (ob v7)) mixed h fun w h => bu 0 (aL.refl _ _) rfl ax (by kernel_rfl) (by kernel_rfl) (by kernel_rfl) (fun w hk => au (v := v7) rfl) (bu 1 (aL.refl _ _) rfl ax (by kernel_rfl) (by kernel_rfl) (by kernel_rfl) (fun w hk => ak um rfl) (bu 2 (aL.refl _ _) rfl ax (by kernel_rfl) (by kernel_rfl) (by kernel_rfl) (fun w hk => have h := h.qJ 5 rfl hk; aD h 8 rfl aZ rfl rfl) (bu 6 (aL.refl _ _) rfl ax (by kernel_rfl) (by kernel_rfl) (by kernel_rfl) (fun w hk => ak xK rfl) (bu 7 (aL.refl _ _) rfl ax (by kernel_rfl) (by kernel_rfl) (by kernel_rfl) (fun w hk => have h := h.qJ 5 rfl hk; aD h 8 rfl aZ rfl rfl) (bu 11 (aL.refl _ _) rfl ax (by kernel_rfl) (by kernel_rfl) (by kernel_rfl) (fun w hk => ak zN rfl) (bu 12 (aL.refl _ _) rfl ax (by kernel_rfl) (by kernel_rfl) (by kernel_rfl) (fun w hk => have h := h.qJ 5 rfl hk; aD h 8 rfl oN rfl rfl) ?_))))))))))
 obtain ⟨Rz, KQ⟩ : ∃ x, x = w := ⟨_, rfl⟩
 have rO : aL (ob v7) Rz w := KQ ▸ aL.refl (ob v7) w
 refine rW KQ.symm (bS 3 (by kernel_rfl) rfl ax ?_)
 obtain ⟨oH, RP, hs⟩ := aQ hs
 refine bA Fv rfl rfl (si _ _ h.lt (hT.go h.keep) eu.params _ RP) ?_
 rintro _ w ⟨KW, rfl⟩
 refine ⟨_, rfl, ?_⟩
 replace h := h.grow KW
 replace rO := rO.grow KW
 refine ah (aX rO ?_)
 obtain ⟨F8, hs⟩ := bM hs
 refine bu 4 rO rfl ax (by kernel_rfl) (by kernel_rfl) (by kernel_rfl) (fun w hk => lU rfl rfl F8) ?_
 obtain ⟨RQ, hs⟩ := bM hs
 refine bu 5 rO rfl ax (by kernel_rfl) (by kernel_rfl) (by kernel_rfl) (fun w hk => lU rfl rfl RQ) (bS 8 (by kernel_rfl) rfl ax ?_)
 obtain ⟨qM, RS, hs⟩ := aQ hs
 refine bA Fv rfl rfl (si _ _ h.lt (hT.go h.keep) eu.locals _ RS) ?_
 rintro _ w ⟨KX, rfl⟩
 refine ⟨_, rfl, ?_⟩
 replace h := h.grow KX
 replace rO := rO.grow KX
 refine ah (aX rO ?_)
 obtain ⟨RU, hs⟩ := bM hs
 refine bu 9 rO rfl ax (by kernel_rfl) (by kernel_rfl) (by kernel_rfl) (fun w hk => lU rfl rfl RU) ?_
 obtain ⟨Po, hs⟩ := bM hs
 refine bu 10 rO rfl ax (by kernel_rfl) (by kernel_rfl) (by kernel_rfl) (fun w hk => lU rfl rfl Po) (bS 13 (by kernel_rfl) rfl ax ?_)
 obtain ⟨rE, Pp, hs⟩ := aQ hs
 refine bA JH rfl rfl (xV N _ _ h.lt (hT.go h.keep) u21 eu.body (h.mH 7 rfl) _ Pp) ?_
 rintro _ w ⟨IC, rfl⟩
 refine ⟨_, rfl, ?_⟩
 replace h := h.grow IC
 replace rO := rO.grow IC
 refine ah (aX rO ?_)
 obtain ⟨Pq, hs⟩ := bM hs
 refine bu 14 rO rfl ax (by kernel_rfl) (by kernel_rfl) (by kernel_rfl) (fun w hk => lU rfl rfl Pq) (bS 15 (by kernel_rfl) rfl ax (zk (R := nJ) (vs := [(bz ((((([102, 117, 110, 32] ++ oH) ++ [32]) ++ qM) ++ [32]) ++ rE))]) (xs := [((((([102, 117, 110, 32] ++ oH) ++ [32]) ++ qM) ++ [32]) ++ rE)]) h 189 IA rfl rfl rfl ⟨rfl, trivial⟩ rfl fun w Ps h MK ML => ?_))
 have WW : ∀ b, ob Ps b → Rz.heap.size ≤ b := fun b hb => Nat.le_trans rO.size (ML b hb)
 replace rO := rO.grow MK
 refine ah (aX rO (bS 16 (by kernel_rfl) rfl ax ?_))
 obtain ⟨IE, hs⟩ := bM hs
 have WX := rO.size
 refine pg (R := nJ) (m := [((((([102, 117, 110, 32] ++ oH) ++ [32]) ++ qM) ++ [32]) ++ rE)]) h 5 rfl (h.eF 189 rfl) IA rfl rfl rfl IE.1 IE.2 fun w DL h MM MN => ?_
 have WY : ∀ b, ob DL b → b < Rz.heap.size → ob v7 b := fun b hb hl => MN b hb (Nat.lt_of_lt_of_le hl (rO).size)
 replace rO := rO.same MM
 refine ah (aX rO (bu 17 rO rfl ax (by kernel_rfl) (by kernel_rfl) (by kernel_rfl) (fun w hk => aj (v := DL) rfl) (gJ (by kernel_rfl) (aA (aa (ag (ae (dH rfl rfl MJ) (ae (au (v := (.int .i64 ((i10 + 1)))) rfl) (ah (az ?_))))))))))
 subst Ga
 exact jN ⟨k9 + 1, i10 + 1, DL, (x8 ++ [((((([102, 117, 110, 32] ++ oH) ++ [32]) ++ qM) ++ [32]) ++ rE)])⟩ ⟨h.cn _, by omega, hs⟩ (by have := of_decide_eq_true e14; dsimp only; omega)
 rw [gz (hik ▸ e14), iw] at hs
 refine dh (aO (aO (bE (aa (ai (ag (ae (au (v := v7) rfl) ?_)))))))
 obtain ⟨Fy, e31, hs⟩ := aQ hs
 refine bA Ut rfl rfl (F9 _ _ h.lt v7 x8 (h.eF 5 rfl) [32] _ e31) ?_
 rintro _ w ⟨k32, rfl⟩
 refine ⟨_, rfl, ?_⟩
 replace h := h.grow k32
 refine ae (aj (v := (bz Fy)) rfl) (ah (aa (aK (cu (v := (bz Fy)) Tryz.results113 rfl ?_))))
 obtain rfl := Option.some.inj hs
 exact ⟨h.grown, rfl⟩
def stringslite_HasPrefix (a : Str) (b : Str) : Option Bool :=
  bif decide (((b.length : Int) : Int) ≤ (a.length : Int)) then (subs? a 0 (b.length : Int)).bind fun x2 => some (decide ((x2 : Str) = b)) else some false
theorem xW (w0 : World) (M : BS) (hM : ∀ b, M b → b < w0.heap.size) (a : Str) (b : Str) (r : Bool) (hs : stringslite_HasPrefix a b = some r) :
    Calls Tryz.prog 141 #[(bz a), (bz b)] w0 (fun e w' => Grow w0 w' ∧ e = .returned (.bool r)) := by
 refine aS (args := [(bz a), (bz b)]) Tryz.func141 rfl Tryz.ntmps141 (Nat.le_of_ble_eq_true rfl) ?_
 have h := SH.init hM
 refine ai (ag (ae (aj (v := (.bool (false))) rfl) (ah (aa (ai (ag (ae (au (v := (bz a)) rfl) (ae (Jm Tryz.underlying9 rfl) (ae (au (v := (bz b)) rfl) (ae (Jm Tryz.underlying9 rfl) (ae (oZ rfl rfl) (ae (au (v := (.bool (decide (((b.length : Int) : Int) ≤ (a.length : Int))))) rfl) (iQ (b := decide (((b.length : Int) : Int) ≤ (a.length : Int))) hs (fun c1 hs => ?_) (fun c1 hs => ?_))))))))))))))
 refine dK rfl (congrArg Value.bool c1) (ae (au (v := (bz a)) rfl) (dK rfl (congrArg Value.bool c1) (ae (au (v := (bz b)) rfl) (dK rfl (congrArg Value.bool c1) (ae (Jm Tryz.underlying9 rfl) (dK rfl (congrArg Value.bool c1) ?_))))))
 obtain ⟨x2, e3, hs⟩ := aQ hs
 obtain ⟨e4a, e4b, e4c, e4⟩ := Ml e3
 refine ae (Mk e4 Tryz.underlying9 rfl (.inl ⟨rfl, rfl⟩) (.inr (congrArg some rfl)) e4a e4b e4c) (dK rfl (congrArg Value.bool c1) (ae (au (v := (bz b)) rfl) (dK rfl (congrArg Value.bool c1) (ae (Du rfl rfl) (ae (cK (b := true) (v := (.bool (decide ((x2 : Str) = b)))) (congrArg Value.bool c1) rfl) (ae (aj (v := (.bool (decide ((x2 : Str) = b)))) rfl) (ah (aa (aK (cu (v := (.bool (decide ((x2 : Str) = b)))) Tryz.results141 rfl ?_))))))))))
 obtain rfl := Option.some.inj hs
 exact ⟨h.grown, rfl⟩
 refine bH (b' := false) rfl (congrArg Value.bool c1) rfl (bH (b' := false) rfl (congrArg Value.bool c1) rfl (bH (b' := false) rfl (congrArg Value.bool c1) rfl (bH (b' := false) rfl (congrArg Value.bool c1) rfl (bH (b' := false) rfl (congrArg Value.bool c1) rfl (bH (b' := false) rfl (congrArg Value.bool c1) rfl (ae (cK (b := false) (v := (.bool (false))) (congrArg Value.bool c1) rfl) (ae (aj (v := (.bool (false))) rfl) (ah (aa (aK (cu (v := (.bool (false))) Tryz.results141 rfl ?_)))))))))))
 obtain rfl := Option.some.inj hs
 exact ⟨h.grown, rfl⟩
def stringslite_TrimPrefix (a : Str) (b : Str) : Option Str :=
  (stringslite_HasPrefix a b).bind fun y1 => bif y1 then (subs? a (b.length : Int) (a.length : Int)).bind fun x5 => some x5 else some a
theorem xn (w0 : World) (M : BS) (hM : ∀ b, M b → b < w0.heap.size) (a : Str) (b : Str) (r : Str) (hs : stringslite_TrimPrefix a b = some r) :
    Calls Tryz.prog 124 #[(bz a), (bz b)] w0 (fun e w' => Grow w0 w' ∧ e = .returned (bz r)) := by
 refine aS (args := [(bz a), (bz b)]) Tryz.func124 rfl Tryz.ntmps124 (Nat.le_of_ble_eq_true rfl) ?_
 have h := SH.init hM
 refine ai (ag (ae (aj (v := (bz [])) rfl) (ah (aa (ai (ai (ag (ae (au (v := (bz a)) rfl) (ae (au (v := (bz b)) rfl) ?_)))))))))
 obtain ⟨y1, e2, hs⟩ := aQ hs
 refine bA Uu rfl rfl (xW _ _ h.lt a b _ e2) ?_
 rintro _ w ⟨k3, rfl⟩
 refine ⟨_, rfl, ?_⟩
 replace h := h.grow k3
 refine ah (aa (aN hs rfl (fun c4 hs => ?_) (fun c4 hs => ?_)))
 refine ai (ag (ae (au (v := (bz a)) rfl) (ae (au (v := (bz b)) rfl) (ae (Jm Tryz.underlying9 rfl) ?_))))
 obtain ⟨x5, e6, hs⟩ := aQ hs
 obtain ⟨e7a, Y6, e7c, e7⟩ := Ml e6
 refine ae (Mk e7 Tryz.underlying9 rfl (.inr (congrArg some rfl)) (.inl ⟨rfl, rfl⟩) e7a Y6 e7c) (ae (aj (v := (bz x5)) rfl) (ah (aa (aK (aC (cu (v := (bz x5)) Tryz.results124 rfl ?_))))))
 obtain rfl := Option.some.inj hs
 exact ⟨h.grown, rfl⟩
 refine aG (aa (ai (ag (ae (au (v := (bz a)) rfl) (ae (aj (v := (bz a)) rfl) (ah (aa (aK (cu (v := (bz a)) Tryz.results124 rfl ?_)))))))))
 obtain rfl := Option.some.inj hs
 exact ⟨h.grown, rfl⟩
def strings_TrimPrefix (a : Str) (b : Str) : Option Str :=
  (stringslite_TrimPrefix a b).bind fun y1 => some y1
theorem zP (w0 : World) (M : BS) (hM : ∀ b, M b → b < w0.heap.size) (a : Str) (b : Str) (r : Str) (hs : strings_TrimPrefix a b = some r) :
    Calls Tryz.prog 105 #[(bz a), (bz b)] w0 (fun e w' => Grow w0 w' ∧ e = .returned (bz r)) := by
 refine aS (args := [(bz a), (bz b)]) Tryz.func105 rfl Tryz.ntmps105 (Nat.le_of_ble_eq_true rfl) ?_
 have h := SH.init hM
 refine ai (ag (ae (aj (v := (bz [])) rfl) (ah (aa (ai (ag (ae (au (v := (bz a)) rfl) (ae (au (v := (bz b)) rfl) ?_))))))))
 obtain ⟨y1, e2, hs⟩ := aQ hs
 refine bA Us rfl rfl (xn _ _ h.lt a b _ e2) ?_
 rintro _ w ⟨k3, rfl⟩
 refine ⟨_, rfl, ?_⟩
 replace h := h.grow k3
 refine ae (aj (v := (bz y1)) rfl) (ah (aa (aK (cu (v := (bz y1)) Tryz.results105 rfl ?_))))
 obtain rfl := Option.some.inj hs
 exact ⟨h.grown, rfl⟩
def nW (a : List Str) (b : Str) (i2 : Int) (s : Unit) (Hy : Unit → Option Int) : Option Int :=
  (idx a i2).bind fun x8 => bif decide ((b : Str) = x8) then some i2 else Hy ()
def nX (s : Unit) : Option Int :=
  some (-1)
def slices_Index_string (a : List Str) (b : Str) : Option Int :=
  upto (nW a b) nX 0 ((a.length : Int)).toNat ()
theorem zq (w0 : World) (M : BS) (hM : ∀ b, M b → b < w0.heap.size) (va : Value) (a : List Str) (ha : gL nJ w0 BE M va a) (b : Str) (r : Int) (hs : slices_Index_string a b = some r) :
    Calls Tryz.prog 110 #[va, (bz b)] w0 (fun e w' => Grow w0 w' ∧ e = .returned (.int .i64 r)) := by
 refine aS (args := [va, (bz b)]) Tryz.func110 rfl Tryz.ntmps110 (Nat.le_of_ble_eq_true rfl) ?_
 have h := SH.init hM
 replace h := h.fI 1 ha bN
 have uw := ha.cB
 refine ai (ag (ae (aj (v := (.int .i64 (0))) rfl) (ah (aa (ai (ai (ag (ae (au (v := va) rfl) (ae (bW eQ rfl (h.iI 1 rfl)) (ae (au (v := (.int .i64 (0))) rfl) (ah (aa (aU ?_)))))))))))))
 have hli2 := (h.iI 1 rfl).cB
 refine gP (σ := Nat × Int) (inl [4, 5, 8, 9, 10, 11, 12, 13, 14, 15, 16, 17, 18]) (fun ⟨k1, i2⟩ => [(8, (.int .i64 (i2)))]) (fun ⟨k1, i2⟩ w => SH w0 M BE w (hset [(1, .sr nJ va a)]) ∧ i2 = (k1 : Int) ∧ upto (nW a b) nX i2 (((a.length : Int)).toNat - k1) () = some r) (fun ⟨k1, i2⟩ => ((a.length : Int)).toNat - k1) ⟨0, 0⟩ ⟨rfl, trivial⟩ ?_ ?_
 exact ⟨h.cn _, rfl, hs⟩
 rintro ⟨k1, i2⟩ w dD ⟨h, hik, hs⟩
 refine ai (ag ?_)
 refine ae (dS rfl rfl) (ah (aa ?_))
 refine ai (iJ rfl (fun e6 => ?_) (fun e6 => ?_))
 refine aG (aa ?_)
 rw [tT (by have := of_decide_eq_true e6; omega)] at hs
 generalize WU : upto (nW a b) nX (i2 + 1) (((a.length : Int)).toNat - (k1 + 1)) = Hy at hs
 have e7r : jO (i2 + 1) := (by have := of_decide_eq_true e6; have := hli2; exact jO.mk (by omega) (by omega))
 refine ai (aU (ai (ag (ae (au (v := (.int .i64 (i2))) rfl) (ae (aj (v := (.int .i64 (i2))) rfl) (ah (aa (ai (ag (ae (au (v := (bz b)) rfl) (ae (au (v := va) rfl) (ae (au (v := (.int .i64 (i2))) rfl) ?_))))))))))))
 obtain ⟨x8, e9, hs⟩ := aQ hs
 obtain ⟨b11, o12, Za, h, r14, i10⟩ := h.xD 1 2 rfl eQ rfl (aI e9).1 (aI e9).2
 obtain rfl := r14
 refine ae (i10 _ _ _ _ _ _ _ _ _ rfl rfl) (ae (eO (k := 0) h 2 rfl xP rfl rfl) (ae (Du rfl rfl) (ah (aa (aN hs rfl (fun c15 hs => ?_) (fun c15 hs => ?_))))))
 refine ai (ag (ae (au (v := (.int .i64 (i2))) rfl) (ae (aj (v := (.int .i64 (i2))) rfl) (ah (aa (aK (aH (aC (aC (aH (aC (cu (v := (.int .i64 (i2))) Tryz.results110 rfl ?_))))))))))))
 obtain rfl := Option.some.inj hs
 exact ⟨h.grown, rfl⟩
 refine aG (aA (aa (ag (ae (dH rfl rfl e7r) (ae (au (v := (.int .i64 ((i2 + 1)))) rfl) (ah (az ?_)))))))
 subst WU
 exact jN ⟨k1 + 1, i2 + 1⟩ ⟨h.cn _, by omega, hs⟩ (by have := of_decide_eq_true e6; dsimp only; omega)
 rw [tV (by have := of_decide_eq_false e6; omega)] at hs
 refine dh (aO (aO (bE (aa (ai (ag (ae (aj (v := (.int .i64 (-1))) rfl) (ah (aa (aK (cu (v := (.int .i64 (-1))) Tryz.results110 rfl ?_)))))))))))
 obtain rfl := Option.some.inj hs
 exact ⟨h.grown, rfl⟩
def yS (BB : Int) (JO : (Int × Int × Int) → Option (List Tok × dO)) (AJ : Int) (wK : Int) : Option (List Tok × dO) :=
  ib (jO (BB + 1)) (JO ((BB + 1), AJ, wK))
def yT (x29 : Str) (vR : List Tok) (F : List fB) (y31 : Int) (yB : Int) (xS : (List Tok × Int × Bool × Int) → Option (List Tok × dO)) (Fy : Bool) (s : Int × Int × Int) (JO : Int × Int × Int → Option (List Tok × dO)) : Option (List Tok × dO) :=
  match s with | (BB, Fz, sZ) => bif decide ((BB : Int) ≤ 5) then (jB (⟨3, BB⟩ : Tok)).bind fun FB => bif decide ((FB : Str) = x29) then yS BB JO 3 BB else yS BB JO Fz sZ else ib (Room 16 vR [(⟨Fz, sZ⟩ : Tok)]) (bif (decide (((eG (⟨Fz, sZ⟩ : Tok) F 6) : Int) ≠ 0) || decide ((24 : Int) < ((vR ++ [(⟨Fz, sZ⟩ : Tok)]).length : Int))) then some ((vR ++ [(⟨Fz, sZ⟩ : Tok)]), (⟨y31, false⟩ : dO)) else (qp (⟨Fz, sZ⟩ : Tok) F).bind fun Vt => ib (jO (yB + Vt)) (ib (jO ((yB + Vt) - 1)) (xS ((vR ++ [(⟨Fz, sZ⟩ : Tok)]), ((yB + Vt) - 1), Fy, y31))))
def sD (uW : (Int × Str)) (CP : Int × Bool) (Mc : Int) (wu : Int) (Ya : Bool) : Option (Int × Int) :=
  bif Ya then some (uW.1, CP.1) else some (Mc, wu)
def nY (x29 : Str) (uW : (Int × Str)) (s : Int × Int) : Option (Int × Int) :=
  match s with | (Mc, wu) => (strings_TrimPrefix x29 uW.2).bind fun JQ => (zJ JQ).bind fun CP => bif (!CP.2) then (jB (⟨uW.1, CP.1⟩ : Tok)).bind fun qI => sD uW CP Mc wu (decide ((qI : Str) = x29)) else sD uW CP Mc wu false
def CQ (N : Nat) (x29 : Str) (vR : List Tok) (F : List fB) (y31 : Int) (yB : Int) (xS : (List Tok × Int × Bool × Int) → Option (List Tok × dO)) (Fy : Bool) (s : Int × Int) : Option (List Tok × dO) :=
  match s with | (Mc, wu) => again (yT x29 vR F y31 yB xS Fy) N (1, Mc, wu)
def sF (N : Nat) (vR : List Tok) (F : List fB) (yB : Int) (xS : (List Tok × Int × Bool × Int) → Option (List Tok × dO)) (x29 : Str) (Fy : Bool) (y31 : Int) : Option (List Tok × dO) :=
  (wS (nY x29) ([(2, [118]), (4, [46]), (5, [110, 101, 119]), (6, [102]), (1, [])] : List (Int × Str)) (0, 0)).bind fun KY => (CQ N x29 vR F y31 yB xS Fy) KY
def sG (N : Nat) (W : List Str) (F : List fB) (s : List Tok × Int × Bool × Int) (xS : List Tok × Int × Bool × Int → Option (List Tok × dO)) : Option (List Tok × dO) :=
  match s with | (vR, yB, MO, y20) => bif (decide ((0 : Int) < yB) && MO) then bif decide (((W.length : Int) : Int) ≤ y20) then sF N vR F yB xS [] false y20 else ib (jO (y20 + 1)) (ib (jO ((y20 + 1) - 1)) ((idx W ((y20 + 1) - 1)).bind fun x103 => sF N vR F yB xS x103 MO (y20 + 1))) else some (vR, (⟨y20, MO⟩ : dO))
def CR (N : Nat) (sx : dO) (W : List Str) (F : List fB) : Option (List Tok × dO) :=
  again (sG N W F) N ([], 1, sx.ok, sx.at_)
theorem IG (N : Nat) (w0 : World) (M : BS) (hM : ∀ b, M b → b < w0.heap.size) (hT : uj Tryz.prog 4 w0) (ba bo bw bwd bf : Nat) (sx : dO) (hC : Chunk.holds w0 M (Chunk.own' (.two (.blk ba [(.int .i64 (sx.at_))]) (.blk bo [(.bool (sx.ok))]) : Chunk)) (.two (.blk ba [(.int .i64 (sx.at_))]) (.blk bo [(.bool (sx.ok))]) : Chunk)) (hap : ∀ b, Chunk.own' (.two (.blk ba [(.int .i64 (sx.at_))]) (.blk bo [(.bool (sx.ok))]) : Chunk) b → ¬ M b) (vW : Value) (W : List Str) (Zg : fH nJ w0 (fun b => M b ∨ Chunk.own' (.two (.blk ba [(.int .i64 (sx.at_))]) (.blk bo [(.bool (sx.ok))]) : Chunk) b) vW W) (vF : Value) (F : List fB) (Zh : gL iY w0 (Chunk.own' (.two (.blk ba [(.int .i64 (sx.at_))]) (.blk bo [(.bool (sx.ok))]) : Chunk)) (fun b => M b ∨ Chunk.own' (.two (.blk ba [(.int .i64 (sx.at_))]) (.blk bo [(.bool (sx.ok))]) : Chunk) b) vF F) (hbw : ∃ E, w0.heap[bw]? = some (.cells #[vW] E (0, 0))) (RV : ¬ Chunk.own' (.two (.blk ba [(.int .i64 (sx.at_))]) (.blk bo [(.bool (sx.ok))]) : Chunk) bw) (JR : ∃ E, w0.heap[bwd]? = some (.cells #[(.func (.func 103) #[] #[(.pointer (some ⟨ba, 0, none⟩)), (.pointer (some ⟨bw, 0, none⟩)), (.pointer (some ⟨bo, 0, none⟩))])] E (0, 0))) (Gb : ¬ Chunk.own' (.two (.blk ba [(.int .i64 (sx.at_))]) (.blk bo [(.bool (sx.ok))]) : Chunk) bwd) (hbf : ∃ E, w0.heap[bf]? = some (.cells #[vF] E (0, 0))) (RX : ¬ Chunk.own' (.two (.blk ba [(.int .i64 (sx.at_))]) (.blk bo [(.bool (sx.ok))]) : Chunk) bf) (hG : ∀ b, Chunk.own' (.two (.blk ba [(.int .i64 (sx.at_))]) (.blk bo [(.bool (sx.ok))]) : Chunk) b → Tryz.prog.globals.size ≤ b) (r : List Tok × dO) (hs : CR N sx W F = some r) :
    Calls Tryz.prog 104 #[(.pointer (some ⟨bo, 0, none⟩)), (.pointer (some ⟨bwd, 0, none⟩)), (.pointer (some ⟨bf, 0, none⟩))] w0 (fun e w' => aL (Chunk.own' (.two (.blk ba [(.int .i64 (sx.at_))]) (.blk bo [(.bool (sx.ok))]) : Chunk)) w0 w' ∧ ∃ u0, e = .returned (u0) ∧ Chunk.holds w' M (Chunk.own' (.two (.blk ba [.int .i64 r.2.at_]) (.blk bo [.bool r.2.ok]) : Chunk)) (.two (.blk ba [.int .i64 r.2.at_]) (.blk bo [.bool r.2.ok]) : Chunk) ∧ (∀ b, Chunk.own' (.two (.blk ba [.int .i64 r.2.at_]) (.blk bo [.bool r.2.ok]) : Chunk) b → b < w0.heap.size → Chunk.own' (.two (.blk ba [(.int .i64 (sx.at_))]) (.blk bo [(.bool (sx.ok))]) : Chunk) b) ∧ fH ku w' (fun b => M b ∨ Chunk.own' (.two (.blk ba [.int .i64 r.2.at_]) (.blk bo [.bool r.2.ok]) : Chunk) b) u0 r.1) := by
 refine aS (args := [(.pointer (some ⟨bo, 0, none⟩)), (.pointer (some ⟨bwd, 0, none⟩)), (.pointer (some ⟨bf, 0, none⟩))]) Tryz.func104 rfl Tryz.ntmps104 (Nat.le_of_ble_eq_true rfl) ?_
 have h := SH.EJ hM hC hap
 replace h := h.Bw 3 Zg zo
 replace h := h.QX 4 Zh (rX zo)
 replace h := h.yK 5 (cs := [vW]) hbw RV (wT (rX zo))
 replace h := h.yK 6 (cs := [(.func (.func 103) #[] #[(.pointer (some ⟨ba, 0, none⟩)), (.pointer (some ⟨bw, 0, none⟩)), (.pointer (some ⟨bo, 0, none⟩))])]) JR Gb (qm (wT (rX zo)))
 replace h := h.yK 7 (cs := [vF]) hbf RX (qm (qm (wT (rX zo))))
 have MP := RV
 have Gc := Gb
 have MQ := RX
 generalize zt : (.two (.blk ba [(.int .i64 (sx.at_))]) (.blk bo [(.bool (sx.ok))]) : Chunk).own' = K0 at h MP Gc MQ hG
 replace h := h.bX 1 2 (by decide) rfl rfl
 refine ai (ag (ae (aj (v := (.slice none 0 0)) rfl) (ah (aa (ai (ag (ae (aj (v := (.slice none 0 0)) rfl) (ah (aa (ai (ai (ag (ae (aj (v := (.int .i64 (1))) rfl) (ah (aa (aU ?_))))))))))))))))
 replace h := h.yF (R := ku) (E := 160) 11
 refine gP (σ := Nat × Value × List Tok × Int × Bool × Int) (inl [4, 5, 6, 7, 8, 9, 10, 11, 12, 13, 14, 15, 16, 17, 18, 19, 20, 21, 22, 23, 24, 25, 26, 27, 28, 29, 30, 31, 32, 33, 34, 35, 36, 37, 38, 39, 40, 41, 42, 43, 44, 45, 46, 47, 48, 49, 50, 51, 52, 53, 54, 55, 56, 57, 58, 59, 60, 61, 62, 63, 64, 65, 66, 67, 68, 69, 70, 71, 72, 73, 74, 75, 76, 77, 78, 79]) (fun ⟨m24, v16, vR, yB, MO, y20⟩ => [(4, v16), (5, (.int .i64 (yB)))]) (fun ⟨m24, v16, vR, yB, MO, y20⟩ w => SH w0 M K0 w (hset [(1, .blk ba [(.int .i64 (y20))]), (2, .blk bo [(.bool (MO))]), (3, .rd nJ vW W), (4, .sr iY vF F), (5, .pt bw 0 [vW]), (6, .pt bwd 0 [(.func (.func 103) #[] #[(.pointer (some ⟨ba, 0, none⟩)), (.pointer (some ⟨bw, 0, none⟩)), (.pointer (some ⟨bo, 0, none⟩))])]), (7, .pt bf 0 [vF]), (11, .own ku 160 v16 vR)]) ∧ again (sG N W F) m24 (vR, yB, MO, y20) = some r) (fun ⟨m24, v16, vR, yB, MO, y20⟩ => m24) ⟨N, (.slice none 0 0), [], 1, sx.ok, sx.at_⟩ ⟨rfl, rfl, trivial⟩ ?_ ?_
 exact ⟨h.cn _, hs⟩
 rintro ⟨m24, v16, vR, yB, MO, y20⟩ w dD ⟨h, hs⟩
 obtain ⟨Zi, m24e, m24h⟩ := rf hs
 subst m24e
 replace hs := m24h
 generalize Ru : again (sG N W F) Zi = xS at hs
 refine ai (ai (ag (ae (au (v := (.int .i64 (yB))) rfl) (ae (j6 rfl rfl) (ae (au (v := (.bool (decide ((0 : Int) < yB)))) rfl) (aF rfl rfl (fun q => aD h 2 rfl wL rfl rfl) (ae (fV rfl rfl ma) (ah (aa (aN hs rfl (fun c28 hs => ?_) (fun c28 hs => ?_)))))))))))
 refine aG (aa (ai (aU (cz (σ := Str × Bool × Int) (inl [6, 20, 21]) (fun ⟨x29, Fy, y31⟩ => [(6, (bz x29))]) (fun ⟨x29, Fy, y31⟩ w => SH w0 M K0 w (hset [(1, .blk ba [(.int .i64 (y31))]), (2, .blk bo [(.bool (Fy))]), (3, .rd nJ vW W), (4, .sr iY vF F), (5, .pt bw 0 [vW]), (6, .pt bwd 0 [(.func (.func 103) #[] #[(.pointer (some ⟨ba, 0, none⟩)), (.pointer (some ⟨bw, 0, none⟩)), (.pointer (some ⟨bo, 0, none⟩))])]), (7, .pt bf 0 [vF]), (11, .own ku 160 v16 vR)]) ∧ sF N vR F yB xS x29 Fy y31 = some r) ?_ ?_))))
 rintro ⟨x29, Fy, y31⟩ w dD ⟨h, hs⟩
 refine ai (ag (ae (dV (pv := []) (out := [(.int .i64 (0)), (.int .i64 (0))]) xQ rfl rfl) (bY h 12 jX fun w b32 h => dB (vs := [(.int .i64 (0)), (.int .i64 (0))]) h 12 [(.int .i64 (0)), (.int .i64 (0))] rfl jX rfl rfl rfl rfl rfl (ay rfl (ay rfl bg)) fun w h => ah (aa (ai (ai (ag (Au h 13 fun w WZ h => mQ (o8 := [(2, (bz [118]))]) h 13 rfl kL rfl rfl rfl rfl fun w h => mQ (o8 := [(2, (bz [118])), (4, (bz [46]))]) h 13 rfl kL rfl rfl rfl rfl fun w h => mQ (o8 := [(2, (bz [118])), (4, (bz [46])), (5, (bz [110, 101, 119]))]) h 13 rfl kL rfl rfl rfl rfl fun w h => mQ (o8 := [(2, (bz [118])), (4, (bz [46])), (5, (bz [110, 101, 119])), (6, (bz [102]))]) h 13 rfl kL rfl rfl rfl rfl fun w h => mQ (o8 := [(2, (bz [118])), (4, (bz [46])), (5, (bz [110, 101, 119])), (6, (bz [102])), (1, (bz []))]) h 13 rfl kL rfl rfl rfl rfl fun w h => ae (au (v := (.map (some WZ))) rfl) (Ub (f := bz) ([(2, [118]), (4, [46]), (5, [110, 101, 119]), (6, [102]), (1, [])] : List (Int × Str)) h 13 rfl kL rfl rfl fun w b34 h => ah (aa (aU ?_)))))))))))
 obtain ⟨KY, MR, hs⟩ := aQ hs
 replace MR := Wi MR
 refine gP (σ := List (Int × Str) × Int × Int) (inl [8, 9, 10, 11, 26, 27, 28, 29, 30, 31, 32, 33, 34, 35, 36, 37, 38, 39, 40, 41, 42, 43, 44, 45, 46, 47, 48, 49, 50]) (fun ⟨lf43, Mc, wu⟩ => []) (fun ⟨lf43, Mc, wu⟩ w => SH w0 M K0 w (hset [(1, .blk ba [(.int .i64 (y31))]), (2, .blk bo [(.bool (Fy))]), (3, .rd nJ vW W), (4, .sr iY vF F), (5, .pt bw 0 [vW]), (6, .pt bwd 0 [(.func (.func 103) #[] #[(.pointer (some ⟨ba, 0, none⟩)), (.pointer (some ⟨bw, 0, none⟩)), (.pointer (some ⟨bo, 0, none⟩))])]), (7, .pt bf 0 [vF]), (11, .own ku 160 v16 vR), (12, .blk b32 [(.int .i64 (Mc)), (.int .i64 (wu))]), (13, .bL (Hw bz WZ b34 none lf43))]) ∧ qR (nY x29) lf43 (Mc, wu) KY) (fun ⟨lf43, Mc, wu⟩ => lf43.length) ⟨([(2, [118]), (4, [46]), (5, [110, 101, 119]), (6, [102]), (1, [])] : List (Int × Str)), 0, 0⟩ trivial ?_ ?_
 exact ⟨h.cn _, MR⟩
 rintro ⟨lf43, Mc, wu⟩ w dD ⟨h, hf⟩
 refine ai (ag ?_)
 refine Wh h 13 rfl rfl (fun e48 => ?_) (fun uW W9 w e48 h => ?_)
 obtain rfl := qR.nil (e48 ▸ hf)
 refine ae (bF rfl rfl) (ah (aa ?_))
 refine ai (VQ rfl (dh (aO (aO (bE (aa (ai (ai (ag (ae (aj (v := (.int .i64 (1))) rfl) (ah (aa (aU (gP (σ := Nat × Int × Int × Int) (inl [12, 51, 52, 53, 54, 55, 56, 57, 58, 59, 60, 61]) (fun ⟨m64, BB, Fz, sZ⟩ => [(12, (.int .i64 (BB)))]) (fun ⟨m64, BB, Fz, sZ⟩ w => SH w0 M K0 w (hset [(1, .blk ba [(.int .i64 (y31))]), (2, .blk bo [(.bool (Fy))]), (3, .rd nJ vW W), (4, .sr iY vF F), (5, .pt bw 0 [vW]), (6, .pt bwd 0 [(.func (.func 103) #[] #[(.pointer (some ⟨ba, 0, none⟩)), (.pointer (some ⟨bw, 0, none⟩)), (.pointer (some ⟨bo, 0, none⟩))])]), (7, .pt bf 0 [vF]), (11, .own ku 160 v16 vR), (12, .blk b32 [(.int .i64 (Fz)), (.int .i64 (sZ))])]) ∧ again (yT x29 vR F y31 yB xS Fy) m64 (BB, Fz, sZ) = some r) (fun ⟨m64, BB, Fz, sZ⟩ => m64) ⟨N, 1, Mc, wu⟩ ⟨rfl, trivial⟩ ?_ ?_))))))))))))))
 exact ⟨h.cn _, hs⟩
 rintro ⟨m64, BB, Fz, sZ⟩ w dD ⟨h, hs⟩
 obtain ⟨Zj, m64e, m64h⟩ := rf hs
 subst m64e
 replace hs := m64h
 generalize RY : again (yT x29 vR F y31 yB xS Fy) Zj = JO at hs
 refine ai (ai (ag (ae (au (v := (.int .i64 (BB))) rfl) (ae (Cr rfl rfl) (ah (aa (aN hs rfl (fun c68 hs => ?_) (fun c68 hs => ?_))))))))
 refine aG (aa (cz (σ := Int × Int) (inl [55, 56, 57, 58, 59, 60, 61]) (fun ⟨AJ, wK⟩ => []) (fun ⟨AJ, wK⟩ w => SH w0 M K0 w (hset [(1, .blk ba [(.int .i64 (y31))]), (2, .blk bo [(.bool (Fy))]), (3, .rd nJ vW W), (4, .sr iY vF F), (5, .pt bw 0 [vW]), (6, .pt bwd 0 [(.func (.func 103) #[] #[(.pointer (some ⟨ba, 0, none⟩)), (.pointer (some ⟨bw, 0, none⟩)), (.pointer (some ⟨bo, 0, none⟩))])]), (7, .pt bf 0 [vF]), (11, .own ku 160 v16 vR), (12, .blk b32 [(.int .i64 (AJ)), (.int .i64 (wK))])]) ∧ yS BB JO AJ wK = some r) ?_ ?_))
 rintro ⟨AJ, wK⟩ w dD ⟨h, hs⟩
 refine ag (ae (au (v := (.int .i64 (BB))) rfl) ?_)
 obtain ⟨a71, hs⟩ := bM hs
 refine ae (dH rfl rfl a71) (ae (aj (v := (.int .i64 ((BB + 1)))) rfl) (ah (az ?_)))
 subst RY
 exact jN ⟨Zj, (BB + 1), AJ, wK⟩ ⟨h.cn _, hs⟩
 refine aU (ai (ag (ae (au (v := (.int .i64 (BB))) rfl) (ae (dV (pv := [(0, (.int .i64 (3))), (1, (.int .i64 (BB)))]) (out := [(.int .i64 (3)), (.int .i64 (BB))]) xQ rfl ⟨0, 1, [(.int .i64 (3))], rfl, rfl, rfl, Nat.le_of_ble_eq_true rfl, ⟨1, 1, [(.int .i64 (BB))], rfl, rfl, rfl, Nat.le_of_ble_eq_true rfl, rfl⟩⟩) ?_))))
 obtain ⟨FB, Xa, hs⟩ := aQ hs
 refine bA JD rfl rfl (oP _ _ h.lt (hT.QO h.keep hG) (⟨3, BB⟩ : Tok) _ Xa) ?_
 rintro _ w ⟨k74, rfl⟩
 refine ⟨_, rfl, ?_⟩
 replace h := h.grow k74
 refine ae (au (v := (bz x29)) rfl) (ae (Du rfl rfl) (ah (aa (aN hs rfl (fun c75 hs => ?_) (fun c75 hs => ?_)))))
 refine ag (ae (au (v := (.int .i64 (BB))) rfl) (ae (dV (pv := [(0, (.int .i64 (3))), (1, (.int .i64 (BB)))]) (out := [(.int .i64 (3)), (.int .i64 (BB))]) xQ rfl ⟨0, 1, [(.int .i64 (3))], rfl, rfl, rfl, Nat.le_of_ble_eq_true rfl, ⟨1, 1, [(.int .i64 (BB))], rfl, rfl, rfl, Nat.le_of_ble_eq_true rfl, rfl⟩⟩) (dB (vs := [(.int .i64 (3)), (.int .i64 (BB))]) h 12 [(.int .i64 (3)), (.int .i64 (BB))] rfl jX rfl rfl rfl rfl rfl (ay rfl (ay rfl bg)) fun w h => ah (aA (az ?_)))))
 exact bU (3, BB) ⟨h.cn _, hs⟩
 refine aG (aA (az ?_))
 exact bU (Fz, sZ) ⟨h.cn _, hs⟩
 refine dh (aO (aO (bE (aa (ai (ai (ag (ae (au (v := v16) rfl) (ae (dE (vs := [(.int .i64 (Fz)), (.int .i64 (sZ))]) h 12 rfl jX rfl rfl rfl) (tJ (R := ku) (vs := [(.agg #[(.int .i64 (Fz)), (.int .i64 (sZ))])]) (xs := [(⟨Fz, sZ⟩ : Tok)]) h 14 Iz rfl rfl rfl ⟨rfl, trivial⟩ rfl fun w u76 h => ?_))))))))))
 obtain ⟨a77, hs⟩ := bM hs
 refine mO (R := ku) (m := [(⟨Fz, sZ⟩ : Tok)]) h 11 rfl (h.eF 14 rfl) Iz rfl rfl rfl a77.1 a77.2 fun w Ki h => ae (aj (v := Ki) rfl) (ah (aa (ai (ag (ae (dE (vs := [(.int .i64 (Fz)), (.int .i64 (sZ))]) h 12 rfl jX rfl rfl rfl) (ae (eO (k := 0) h 7 rfl xO rfl rfl) (bA Od rfl rfl (rY _ _ h.lt (⟨Fz, sZ⟩ : Tok) vF F (h.iI 4 rfl) 6 _ rfl) ?_)))))))
 rintro _ w ⟨k79, rfl⟩
 refine ⟨_, rfl, ?_⟩
 replace h := h.grow k79
 refine ae (gu rfl rfl) (ae (au (v := (.bool (decide (((eG (⟨Fz, sZ⟩ : Tok) F 6) : Int) ≠ 0)))) rfl) (aF rfl rfl (fun q => au (v := Ki) rfl) (aF rfl rfl (fun q => bW j5 (dA q) (h.eF 11 rfl)) (aF rfl rfl (fun q => j6 (dA q) rfl) (ae (ic rfl rfl ma) (ah (aa (aN hs rfl (fun c80 hs => ?_) (fun c80 hs => ?_)))))))))
 refine ai (ag (fJ h 2 [(.bool (false))] rfl wL rfl rfl rfl rfl rfl fun w h => ah (aa (dh (aO (vV (by decide) (aO (aO (bE (aa (ai (ag (ae (au (v := Ki) rfl) (ae (aj (v := Ki) rfl) (ah (aa (aK (cu (v := Ki) Tryz.results104 rfl ?_))))))))))))))))))
 replace h := h.freeze 11 rfl
 replace h := h.pair 1 2 (by decide)
 obtain rfl := Option.some.inj hs
 subst zt
 obtain ⟨o1, o2, o3⟩ := h.qD 1 (C := (.two (.blk ba [(.int .i64 (y31))]) (.blk bo [(.bool (false))]) : Chunk)) rfl ⟨trivial, trivial⟩
 exact ⟨o2, Ki, rfl, o1, o3, h.Mo 1 11 rfl rfl⟩
 refine aG (aa (ag (ae (au (v := (.int .i64 (yB))) rfl) (ae (dE (vs := [(.int .i64 (Fz)), (.int .i64 (sZ))]) h 12 rfl jX rfl rfl rfl) (ae (eO (k := 0) h 7 rfl xO rfl rfl) ?_)))))
 obtain ⟨Vt, e82, hs⟩ := aQ hs
 refine bA JE rfl rfl (qY _ _ h.lt (⟨Fz, sZ⟩ : Tok) vF F (h.iI 4 rfl) _ e82) ?_
 rintro _ w ⟨k83, rfl⟩
 refine ⟨_, rfl, ?_⟩
 replace h := h.grow k83
 obtain ⟨a84, hs⟩ := bM hs
 refine ae (dH rfl rfl a84) (ae (aj (v := (.int .i64 ((yB + Vt)))) rfl) (ah (aA (aa (ag (ae (au (v := (.int .i64 ((yB + Vt)))) rfl) ?_))))))
 obtain ⟨a85, hs⟩ := bM hs
 refine ae (oz rfl rfl a85) (ae (aj (v := (.int .i64 (((yB + Vt) - 1)))) rfl) (ah (az ?_)))
 subst Ru
 exact jN ⟨Zi, Ki, (vR ++ [(⟨Fz, sZ⟩ : Tok)]), ((yB + Vt) - 1), Fy, y31⟩ ⟨h.cn _, hs⟩
 obtain ⟨sr47, hs1, hf1⟩ := hf.cons e48
 replace hs := hs1
 refine ae (bF rfl rfl) (ah (aa ?_))
 refine ai (VP rfl (aG (aa ?_)))
 refine aU (ai (ag (ae (Uc (f := bz) h 13 rfl rfl) (ae (bF rfl rfl) (ae (bF rfl rfl) (ae (aj (v := (.int .i64 (uW.1))) rfl) (ae (aj (v := (bz uW.2)) rfl) (ah (aa (ai (ag (ae (au (v := (bz x29)) rfl) (ae (au (v := (bz uW.2)) rfl) ?_)))))))))))))
 obtain ⟨JQ, e87, hs⟩ := aQ hs
 refine bA Ul rfl rfl (zP _ _ h.lt x29 uW.2 _ e87) ?_
 rintro _ w ⟨k88, rfl⟩
 refine ⟨_, rfl, ?_⟩
 replace h := h.grow k88
 obtain ⟨CP, Y5, hs⟩ := aQ hs
 refine bA CK rfl rfl (pM _ _ h.lt (hT.QO h.keep hG) JQ _ Y5) ?_
 rintro _ w ⟨k93, Xb, rfl, g92⟩
 refine ⟨_, rfl, ?_⟩
 replace h := h.grow k93
 refine ae (au (v := (.tuple #[(.int .i64 (CP.1)), Xb])) rfl) (ae (bF rfl rfl) (ae (bF rfl rfl) (ae (aj (v := (.int .i64 (CP.1))) rfl) (ae (aj (v := Xb) rfl) (ah (aa (cz (σ := Bool) (inl [38, 39, 40, 41, 42, 43, 44, 45, 46, 47]) (fun Ya => [(47, (.bool (Ya)))]) (fun Ya w => SH w0 M K0 w (hset [(1, .blk ba [(.int .i64 (y31))]), (2, .blk bo [(.bool (Fy))]), (3, .rd nJ vW W), (4, .sr iY vF F), (5, .pt bw 0 [vW]), (6, .pt bwd 0 [(.func (.func 103) #[] #[(.pointer (some ⟨ba, 0, none⟩)), (.pointer (some ⟨bw, 0, none⟩)), (.pointer (some ⟨bo, 0, none⟩))])]), (7, .pt bf 0 [vF]), (11, .own ku 160 v16 vR), (12, .blk b32 [(.int .i64 (Mc)), (.int .i64 (wu))]), (13, .bL (Hw bz WZ b34 (some uW) W9))]) ∧ sD uW CP Mc wu Ya = some sr47) ?_ ?_)))))))
 rintro Ya w dD ⟨h, hs⟩
 refine aN hs rfl (fun c95 hs => ?_) (fun c95 hs => ?_)
 refine ag (ae (au (v := (.int .i64 (uW.1))) rfl) (ae (au (v := (.int .i64 (CP.1))) rfl) (ae (dV (pv := [(0, (.int .i64 (uW.1))), (1, (.int .i64 (CP.1)))]) (out := [(.int .i64 (uW.1)), (.int .i64 (CP.1))]) xQ rfl ⟨0, 1, [(.int .i64 (uW.1))], rfl, rfl, rfl, Nat.le_of_ble_eq_true rfl, ⟨1, 1, [(.int .i64 (CP.1))], rfl, rfl, rfl, Nat.le_of_ble_eq_true rfl, rfl⟩⟩) (dB (vs := [(.int .i64 (uW.1)), (.int .i64 (CP.1))]) h 12 [(.int .i64 (uW.1)), (.int .i64 (CP.1))] rfl jX rfl rfl rfl rfl rfl (ay rfl (ay rfl bg)) fun w h => ah (aA (az ?_))))))
 replace h := h.Iu 13 rfl
 obtain rfl := Option.some.inj hs
 exact jN ⟨W9, uW.1, CP.1⟩ ⟨h.cn _, hf1⟩ (by have := e48.length_eq; simp only [List.length_cons] at this; dsimp only; omega)
 refine aG (aA (az ?_))
 replace h := h.Iu 13 rfl
 obtain rfl := Option.some.inj hs
 exact jN ⟨W9, Mc, wu⟩ ⟨h.cn _, hf1⟩ (by have := e48.length_eq; simp only [List.length_cons] at this; dsimp only; omega)
 refine ag (ae (au (v := Xb) rfl) (ae (O3 O9 rfl g92 rfl) (ae (au (v := (.bool ((!CP.2)))) rfl) (iQ (b := (!CP.2)) hs (fun MS hs => ?_) (fun MS hs => ?_)))))
 refine dK rfl (congrArg Value.bool MS) (ae (au (v := (.int .i64 (uW.1))) rfl) (dK rfl (congrArg Value.bool MS) (ae (au (v := (.int .i64 (CP.1))) rfl) (dK rfl (congrArg Value.bool MS) (ae (dV (pv := [(0, (.int .i64 (uW.1))), (1, (.int .i64 (CP.1)))]) (out := [(.int .i64 (uW.1)), (.int .i64 (CP.1))]) xQ rfl ⟨0, 1, [(.int .i64 (uW.1))], rfl, rfl, rfl, Nat.le_of_ble_eq_true rfl, ⟨1, 1, [(.int .i64 (CP.1))], rfl, rfl, rfl, Nat.le_of_ble_eq_true rfl, rfl⟩⟩) (dK rfl (congrArg Value.bool MS) ?_))))))
 obtain ⟨qI, e98, hs⟩ := aQ hs
 refine bA JD rfl rfl (oP _ _ h.lt (hT.QO h.keep hG) (⟨uW.1, CP.1⟩ : Tok) _ e98) ?_
 rintro _ w ⟨k99, rfl⟩
 refine ⟨_, rfl, ?_⟩
 replace h := h.grow k99
 refine dK rfl (congrArg Value.bool MS) (ae (au (v := (bz x29)) rfl) (dK rfl (congrArg Value.bool MS) (ae (Du rfl rfl) (ae (cK (b := true) (v := (.bool (decide ((qI : Str) = x29)))) (congrArg Value.bool MS) rfl) (ah (az ?_))))))
 exact bU (decide ((qI : Str) = x29)) ⟨h.cn _, hs⟩
 refine bH (b' := false) rfl (congrArg Value.bool MS) rfl (bH (b' := false) rfl (congrArg Value.bool MS) rfl (bH (b' := false) rfl (congrArg Value.bool MS) rfl (bH (b' := false) rfl (congrArg Value.bool MS) rfl (bH (b' := false) rfl (congrArg Value.bool MS) rfl (bH (b' := false) rfl (congrArg Value.bool MS) rfl (ae (cK (b := false) (v := (.bool (false))) (congrArg Value.bool MS) rfl) (ah (az ?_))))))))
 exact bU false ⟨h.cn _, hs⟩
 refine ag (ae (eO (k := 0) h 6 rfl yP rfl rfl) (jE (args := [(.pointer (some ⟨ba, 0, none⟩)), (.pointer (some ⟨bw, 0, none⟩)), (.pointer (some ⟨bo, 0, none⟩))]) yN rfl rfl (aS (args := [(.pointer (some ⟨ba, 0, none⟩)), (.pointer (some ⟨bw, 0, none⟩)), (.pointer (some ⟨bo, 0, none⟩))]) Tryz.func103 rfl Tryz.ntmps103 (Nat.le_of_ble_eq_true rfl) (ai (ag (ae (aj (v := (bz [])) rfl) (ah (aa (ai (ai (ag (ae (aD h 1 rfl aZ rfl rfl) (ae (eO (k := 0) h 5 rfl mE rfl rfl) (ae (bW eQ rfl (h.mH 3 rfl)) (ae (oZ rfl rfl) (ah (aa (aN hs rfl (fun BC hs => ?_) (fun BC hs => ?_)))))))))))))))))))
 refine ai (ag (fJ h 2 [(.bool (false))] rfl wL rfl rfl rfl rfl rfl fun w h => ah (aa (ai (ag (ae (aj (v := (bz [])) rfl) (ah (aa (aK (aC (cu (v := (bz [])) Tryz.results103 rfl (⟨_, rfl, ?_⟩))))))))))))
 refine ae (aj (v := (bz [])) rfl) (ah (az ?_))
 exact bU ([], false, y20) ⟨h.cn _, hs⟩
 refine aG (aa (ai (ag (ae (aD h 1 rfl aZ rfl rfl) ?_))))
 obtain ⟨Uy, hs⟩ := bM hs
 refine ae (dH rfl rfl Uy) (fJ h 1 [(.int .i64 ((y20 + 1)))] rfl aZ rfl rfl rfl rfl rfl fun w h => ah (aa (ai (ag (ae (eO (k := 0) h 5 rfl mE rfl rfl) (ae (aD h 1 rfl aZ rfl rfl) ?_))))))
 obtain ⟨a102, hs⟩ := bM hs
 refine ae (oz rfl rfl a102) ?_
 obtain ⟨x103, Uz, hs⟩ := aQ hs
 obtain ⟨b106, o107, cs108, h, r109, i105⟩ := h.Dm 3 15 rfl eQ rfl (aI Uz).1 (aI Uz).2
 obtain rfl := r109
 refine ae (i105 _ _ _ _ _ _ _ _ _ rfl rfl) (ae (eO (k := 0) h 15 rfl xP rfl rfl) (ae (aj (v := (bz x103)) rfl) (ah (aa (aK (cu (v := (bz x103)) Tryz.results103 rfl (⟨_, rfl, ?_⟩)))))))
 refine ae (aj (v := (bz x103)) rfl) (ah (az ?_))
 exact bU (x103, MO, (y20 + 1)) ⟨h.cn _, hs⟩
 refine dh (aO (aO (bE (aa (ai (ag (ae (au (v := v16) rfl) (ae (aj (v := v16) rfl) (ah (aa (aK (cu (v := v16) Tryz.results104 rfl ?_))))))))))))
 replace h := h.freeze 11 rfl
 replace h := h.pair 1 2 (by decide)
 obtain rfl := Option.some.inj hs
 subst zt
 obtain ⟨o1, o2, o3⟩ := h.qD 1 (C := (.two (.blk ba [(.int .i64 (y20))]) (.blk bo [(.bool (MO))]) : Chunk)) rfl ⟨trivial, trivial⟩
 exact ⟨o2, v16, rfl, o1, o3, h.Mo 1 11 rfl rfl⟩
def yU (mK : List bI) (lQ : Int) (xC : Int) (sW : List Tok) (AL : List Tok) (MU : List bI) (jM : (List bI × Int × Bool) → Option (List bI × dO)) (Xc : Int) (Xd : Bool) (sZ : List bI) : Option (List bI × dO) :=
  ib (Room 112 mK [(⟨(lQ + 1), xC, sW, AL, MU, sZ⟩ : bI)]) (jM ((mK ++ [(⟨(lQ + 1), xC, sW, AL, MU, sZ⟩ : bI)]), Xc, Xd))
def yV (F0 : dO → List Str → List fB → Int → Option (List bI × dO)) (lQ : Int) (a : Int) (W : List Str) (F : List fB) (mK : List bI) (xC : Int) (sW : List Tok) (AL : List Tok) (jM : (List bI × Int × Bool) → Option (List bI × dO)) (KM : Int) (Qu : Bool) (MU : List bI) : Option (List bI × dO) :=
  bif decide (((lQ + 1) : Int) = 6) then ib (jO (a + 1)) ((F0 (⟨KM, Qu⟩ : dO) W F (a + 1)).bind fun tY => yU mK lQ xC sW AL MU jM tY.2.at_ tY.2.ok tY.1) else yU mK lQ xC sW AL MU jM KM Qu []
def sH (F0 : dO → List Str → List fB → Int → Option (List bI × dO)) (lQ : Int) (a : Int) (W : List Str) (F : List fB) (mK : List bI) (xC : Int) (sW : List Tok) (jM : (List bI × Int × Bool) → Option (List bI × dO)) (HV : Int) (xR : Bool) (AL : List Tok) : Option (List bI × dO) :=
  bif (decide (((lQ + 1) : Int) = 6) || decide (((lQ + 1) : Int) = 7)) then ib (jO (a + 1)) ((F0 (⟨HV, xR⟩ : dO) W F (a + 1)).bind fun UB => yV F0 lQ a W F mK xC sW AL jM UB.2.at_ UB.2.ok UB.1) else yV F0 lQ a W F mK xC sW AL jM HV xR []
def sI (N : Nat) (F0 : dO → List Str → List fB → Int → Option (List bI × dO)) (lQ : Int) (W : List Str) (F : List fB) (a : Int) (mK : List bI) (xC : Int) (jM : (List bI × Int × Bool) → Option (List bI × dO)) (MV : Int) (MW : Bool) (sW : List Tok) : Option (List bI × dO) :=
  bif decide (((lQ + 1) : Int) = 2) then (CR N (⟨MV, MW⟩ : dO) W F).bind fun JQ => sH F0 lQ a W F mK xC sW jM JQ.2.at_ JQ.2.ok JQ.1 else sH F0 lQ a W F mK xC sW jM MV MW []
def qw (N : Nat) (F0 : dO → List Str → List fB → Int → Option (List bI × dO)) (lQ : Int) (W : List Str) (F : List fB) (a : Int) (mK : List bI) (jM : (List bI × Int × Bool) → Option (List bI × dO)) (wu : Int) (yQ : Bool) (xC : Int) : Option (List bI × dO) :=
  bif decide (((lQ + 1) : Int) ≠ 4) then (CR N (⟨wu, yQ⟩ : dO) W F).bind fun y95 => sI N F0 lQ W F a mK xC jM y95.2.at_ y95.2.ok y95.1 else sI N F0 lQ W F a mK xC jM wu yQ []
def sJ (N : Nat) (F0 : dO → List Str → List fB → Int → Option (List bI × dO)) (mK : List bI) (W : List Str) (F : List fB) (a : Int) (jM : (List bI × Int × Bool) → Option (List bI × dO)) (x27 : Str) (y28 : Int) (y29 : Bool) : Option (List bI × dO) :=
  bif decide ((x27 : Str) = [125]) then some (mK, (⟨y28, y29⟩ : dO)) else (Cz [115, 101, 116, 32, 112, 117, 116, 32, 115, 97, 121, 32, 112, 97, 117, 115, 101, 32, 103, 111, 32, 105, 102, 32, 119, 104, 105, 108, 101, 32, 114, 101, 116, 117, 114, 110]).bind fun y31 => (slices_Index_string y31 x27).bind fun lQ => ib (jO (lQ + 1)) (bif (!(y29 && decide ((0 : Int) < (lQ + 1)))) then some ([], (⟨y28, (y29 && decide ((0 : Int) < (lQ + 1)))⟩ : dO)) else bif decide (((lQ + 1) : Int) ≤ 2) then bif decide (((W.length : Int) : Int) ≤ y28) then (zJ []).bind fun y104 => qw N F0 lQ W F a mK jM y28 false y104.1 else ib (jO (y28 + 1)) (ib (jO ((y28 + 1) - 1)) ((idx W ((y28 + 1) - 1)).bind fun MX => (zJ MX).bind fun MZ => qw N F0 lQ W F a mK jM (y28 + 1) (y29 && decide ((0 : Int) < (lQ + 1))) MZ.1)) else qw N F0 lQ W F a mK jM y28 (y29 && decide ((0 : Int) < (lQ + 1))) 0)
def sK (N : Nat) (F0 : dO → List Str → List fB → Int → Option (List bI × dO)) (W : List Str) (F : List fB) (a : Int) (s : List bI × Int × Bool) (jM : List bI × Int × Bool → Option (List bI × dO)) : Option (List bI × dO) :=
  match s with | (mK, Fe, Ho) => bif Ho then bif decide (((W.length : Int) : Int) ≤ Fe) then sJ N F0 mK W F a jM [] Fe false else ib (jO (Fe + 1)) (ib (jO ((Fe + 1) - 1)) ((idx W ((Fe + 1) - 1)).bind fun Gd => sJ N F0 mK W F a jM Gd (Fe + 1) Ho)) else some ([], (⟨Fe, Ho⟩ : dO))
def uC (N : Nat) (F0 : dO → List Str → List fB → Int → Option (List bI × dO)) (W : List Str) (F : List fB) (a : Int) (y1 : Int) (y2 : Bool) : Option (List bI × dO) :=
  again (sK N F0 W F a) N ([], y1, y2)
def sM (N : Nat) (F0 : dO → List Str → List fB → Int → Option (List bI × dO)) (W : List Str) (F : List fB) (a : Int) (BD : Bool) (Ff : Int) (JS : Bool) : Option (List bI × dO) :=
  bif BD then uC N F0 W F a Ff false else uC N F0 W F a Ff JS
def wy (N : Nat) (F0 : dO → List Str → List fB → Int → Option (List bI × dO)) (sx : dO) (W : List Str) (F : List fB) (a : Int) : Option (List bI × dO) :=
  bif decide (((W.length : Int) : Int) ≤ sx.at_) then sM N F0 W F a true sx.at_ false else ib (jO (sx.at_ + 1)) (ib (jO ((sx.at_ + 1) - 1)) ((idx W ((sx.at_ + 1) - 1)).bind fun KZ => sM N F0 W F a (decide ((KZ : Str) ≠ [123]) || decide ((6 : Int) < a)) (sx.at_ + 1) sx.ok))
def uD : Nat → dO → List Str → List fB → Int → Option (List bI × dO)
  | 0 => fun _ _ _ _ => none
  | N + 1 => wy N (uD N)
theorem M0 : ∀ (N : Nat) (w0 : World) (M : BS) (hM : ∀ b, M b → b < w0.heap.size) (hT : uj Tryz.prog 4 w0) (ba bo bw bwd bf be bb : Nat) (sx : dO) (hC : Chunk.holds w0 M (Chunk.own' (.two (.blk ba [(.int .i64 (sx.at_))]) (.blk bo [(.bool (sx.ok))]) : Chunk)) (.two (.blk ba [(.int .i64 (sx.at_))]) (.blk bo [(.bool (sx.ok))]) : Chunk)) (hap : ∀ b, Chunk.own' (.two (.blk ba [(.int .i64 (sx.at_))]) (.blk bo [(.bool (sx.ok))]) : Chunk) b → ¬ M b) (vW : Value) (W : List Str) (Zg : fH nJ w0 (fun b => M b ∨ Chunk.own' (.two (.blk ba [(.int .i64 (sx.at_))]) (.blk bo [(.bool (sx.ok))]) : Chunk) b) vW W) (vF : Value) (F : List fB) (Zh : gL iY w0 (Chunk.own' (.two (.blk ba [(.int .i64 (sx.at_))]) (.blk bo [(.bool (sx.ok))]) : Chunk)) (fun b => M b ∨ Chunk.own' (.two (.blk ba [(.int .i64 (sx.at_))]) (.blk bo [(.bool (sx.ok))]) : Chunk) b) vF F) (hbw : ∃ E, w0.heap[bw]? = some (.cells #[vW] E (0, 0))) (RV : ¬ Chunk.own' (.two (.blk ba [(.int .i64 (sx.at_))]) (.blk bo [(.bool (sx.ok))]) : Chunk) bw) (JR : ∃ E, w0.heap[bwd]? = some (.cells #[(.func (.func 103) #[] #[(.pointer (some ⟨ba, 0, none⟩)), (.pointer (some ⟨bw, 0, none⟩)), (.pointer (some ⟨bo, 0, none⟩))])] E (0, 0))) (Gb : ¬ Chunk.own' (.two (.blk ba [(.int .i64 (sx.at_))]) (.blk bo [(.bool (sx.ok))]) : Chunk) bwd) (hbf : ∃ E, w0.heap[bf]? = some (.cells #[vF] E (0, 0))) (RX : ¬ Chunk.own' (.two (.blk ba [(.int .i64 (sx.at_))]) (.blk bo [(.bool (sx.ok))]) : Chunk) bf) (hbe : ∃ E, w0.heap[be]? = some (.cells #[(.func (.func 104) #[] #[(.pointer (some ⟨bo, 0, none⟩)), (.pointer (some ⟨bwd, 0, none⟩)), (.pointer (some ⟨bf, 0, none⟩))])] E (0, 0))) (Yb : ¬ Chunk.own' (.two (.blk ba [(.int .i64 (sx.at_))]) (.blk bo [(.bool (sx.ok))]) : Chunk) be) (hbb : ∃ E, w0.heap[bb]? = some (.cells #[(.func (.func 109) #[] #[(.pointer (some ⟨bwd, 0, none⟩)), (.pointer (some ⟨bo, 0, none⟩)), (.pointer (some ⟨be, 0, none⟩)), (.pointer (some ⟨bb, 0, none⟩))])] E (0, 0))) (Yc : ¬ Chunk.own' (.two (.blk ba [(.int .i64 (sx.at_))]) (.blk bo [(.bool (sx.ok))]) : Chunk) bb) (a : Int) (hG : ∀ b, Chunk.own' (.two (.blk ba [(.int .i64 (sx.at_))]) (.blk bo [(.bool (sx.ok))]) : Chunk) b → Tryz.prog.globals.size ≤ b) (r : List bI × dO) (hs : uD N sx W F a = some r),
    Calls Tryz.prog 109 #[(.int .i64 (a)), (.pointer (some ⟨bwd, 0, none⟩)), (.pointer (some ⟨bo, 0, none⟩)), (.pointer (some ⟨be, 0, none⟩)), (.pointer (some ⟨bb, 0, none⟩))] w0 (fun e w' => aL (Chunk.own' (.two (.blk ba [(.int .i64 (sx.at_))]) (.blk bo [(.bool (sx.ok))]) : Chunk)) w0 w' ∧ ∃ u0, e = .returned (u0) ∧ Chunk.holds w' M (Chunk.own' (.two (.blk ba [.int .i64 r.2.at_]) (.blk bo [.bool r.2.ok]) : Chunk)) (.two (.blk ba [.int .i64 r.2.at_]) (.blk bo [.bool r.2.ok]) : Chunk) ∧ (∀ b, Chunk.own' (.two (.blk ba [.int .i64 r.2.at_]) (.blk bo [.bool r.2.ok]) : Chunk) b → b < w0.heap.size → Chunk.own' (.two (.blk ba [(.int .i64 (sx.at_))]) (.blk bo [(.bool (sx.ok))]) : Chunk) b) ∧ fH eP w' (fun b => M b ∨ Chunk.own' (.two (.blk ba [.int .i64 r.2.at_]) (.blk bo [.bool r.2.ok]) : Chunk) b) u0 r.1) := by
 intro N
 induction N with
 | zero => intro w0 M hM hT ba bo bw bwd bf be bb sx hC hap vW W Zg vF F Zh hbw RV JR Gb hbf RX hbe Yb hbb Yc a hG r hs; cases hs
 | succ N ih =>
 intro w0 M hM hT ba bo bw bwd bf be bb sx hC hap vW W Zg vF F Zh hbw RV JR Gb hbf RX hbe Yb hbb Yc a hG r hs
 replace hs : wy N (uD N) sx W F a = some r := hs
 generalize uD N = F0 at hs ih
 refine aS (args := [(.int .i64 (a)), (.pointer (some ⟨bwd, 0, none⟩)), (.pointer (some ⟨bo, 0, none⟩)), (.pointer (some ⟨be, 0, none⟩)), (.pointer (some ⟨bb, 0, none⟩))]) Tryz.func109 rfl Tryz.ntmps109 (Nat.le_of_ble_eq_true rfl) ?_
 have h := SH.EJ hM hC hap
 replace h := h.Bw 3 Zg zo
 replace h := h.QX 4 Zh (rX zo)
 replace h := h.yK 5 (cs := [vW]) hbw RV (wT (rX zo))
 replace h := h.yK 6 (cs := [(.func (.func 103) #[] #[(.pointer (some ⟨ba, 0, none⟩)), (.pointer (some ⟨bw, 0, none⟩)), (.pointer (some ⟨bo, 0, none⟩))])]) JR Gb (qm (wT (rX zo)))
 replace h := h.yK 7 (cs := [vF]) hbf RX (qm (qm (wT (rX zo))))
 replace h := h.yK 8 (cs := [(.func (.func 104) #[] #[(.pointer (some ⟨bo, 0, none⟩)), (.pointer (some ⟨bwd, 0, none⟩)), (.pointer (some ⟨bf, 0, none⟩))])]) hbe Yb (qm (qm (qm (wT (rX zo)))))
 replace h := h.yK 9 (cs := [(.func (.func 109) #[] #[(.pointer (some ⟨bwd, 0, none⟩)), (.pointer (some ⟨bo, 0, none⟩)), (.pointer (some ⟨be, 0, none⟩)), (.pointer (some ⟨bb, 0, none⟩))])]) hbb Yc (qm (qm (qm (qm (wT (rX zo))))))
 have MP := RV
 have Gc := Gb
 have MQ := RX
 have Xe := Yb
 have Xf := Yc
 generalize zt : (.two (.blk ba [(.int .i64 (sx.at_))]) (.blk bo [(.bool (sx.ok))]) : Chunk).own' = K0 at h MP Gc MQ Xe Xf hG
 replace h := h.bX 1 2 (by decide) rfl rfl
 refine ai (ag (ae (aj (v := (.slice none 0 0)) rfl) (ah (aa (cz (σ := Int × Bool) (inl [10, 11, 12, 13, 14, 15, 16]) (fun ⟨y1, y2⟩ => []) (fun ⟨y1, y2⟩ w => SH w0 M K0 w (hset [(1, .blk ba [(.int .i64 (y1))]), (2, .blk bo [(.bool (y2))]), (3, .rd nJ vW W), (4, .sr iY vF F), (5, .pt bw 0 [vW]), (6, .pt bwd 0 [(.func (.func 103) #[] #[(.pointer (some ⟨ba, 0, none⟩)), (.pointer (some ⟨bw, 0, none⟩)), (.pointer (some ⟨bo, 0, none⟩))])]), (7, .pt bf 0 [vF]), (8, .pt be 0 [(.func (.func 104) #[] #[(.pointer (some ⟨bo, 0, none⟩)), (.pointer (some ⟨bwd, 0, none⟩)), (.pointer (some ⟨bf, 0, none⟩))])]), (9, .pt bb 0 [(.func (.func 109) #[] #[(.pointer (some ⟨bwd, 0, none⟩)), (.pointer (some ⟨bo, 0, none⟩)), (.pointer (some ⟨be, 0, none⟩)), (.pointer (some ⟨bb, 0, none⟩))])])]) ∧ uC N F0 W F a y1 y2 = some r) ?_ ?_)))))
 rintro ⟨y1, y2⟩ w dD ⟨h, hs⟩
 refine ai (ag (ae (aj (v := (.slice none 0 0)) rfl) (ah (aa (ai (aU ?_))))))
 replace h := h.yF (R := eP) (E := 147) 13
 refine gP (σ := Nat × Value × List bI × Int × Bool) (inl [6, 7, 8, 9, 17, 18, 19, 20, 21, 22, 23, 24, 25, 26, 27, 28, 29, 30, 31, 32, 33, 34, 35, 36, 37, 38, 39, 40, 41, 42, 43, 44, 45, 46, 47, 48, 49, 50, 51, 52, 53, 54, 55, 56, 57, 58, 59, 60, 61, 62, 63, 64, 65, 66, 67, 68, 69, 70, 71, 72, 73, 74, 75, 76, 77, 78, 79, 80, 81, 82]) (fun ⟨m22, v15, mK, Fe, Ho⟩ => [(7, v15)]) (fun ⟨m22, v15, mK, Fe, Ho⟩ w => SH w0 M K0 w (hset [(1, .blk ba [(.int .i64 (Fe))]), (2, .blk bo [(.bool (Ho))]), (3, .rd nJ vW W), (4, .sr iY vF F), (5, .pt bw 0 [vW]), (6, .pt bwd 0 [(.func (.func 103) #[] #[(.pointer (some ⟨ba, 0, none⟩)), (.pointer (some ⟨bw, 0, none⟩)), (.pointer (some ⟨bo, 0, none⟩))])]), (7, .pt bf 0 [vF]), (8, .pt be 0 [(.func (.func 104) #[] #[(.pointer (some ⟨bo, 0, none⟩)), (.pointer (some ⟨bwd, 0, none⟩)), (.pointer (some ⟨bf, 0, none⟩))])]), (9, .pt bb 0 [(.func (.func 109) #[] #[(.pointer (some ⟨bwd, 0, none⟩)), (.pointer (some ⟨bo, 0, none⟩)), (.pointer (some ⟨be, 0, none⟩)), (.pointer (some ⟨bb, 0, none⟩))])]), (13, .own eP 147 v15 mK)]) ∧ again (sK N F0 W F a) m22 (mK, Fe, Ho) = some r) (fun ⟨m22, v15, mK, Fe, Ho⟩ => m22) ⟨N, (.slice none 0 0), [], y1, y2⟩ ⟨rfl, trivial⟩ ?_ ?_
 exact ⟨h.cn _, hs⟩
 rintro ⟨m22, v15, mK, Fe, Ho⟩ w dD ⟨h, hs⟩
 obtain ⟨Zk, m22e, m22h⟩ := rf hs
 subst m22e
 replace hs := m22h
 generalize K3 : again (sK N F0 W F a) Zk = jM at hs
 refine ai (ai (ag (ae (aD h 2 rfl wL rfl rfl) (ah (aa (aN hs rfl (fun c26 hs => ?_) (fun c26 hs => ?_)))))))
 refine aG (aa (aU (cz (σ := Str × Int × Bool) (inl [8, 18, 19]) (fun ⟨x27, y28, y29⟩ => [(8, (bz x27))]) (fun ⟨x27, y28, y29⟩ w => SH w0 M K0 w (hset [(1, .blk ba [(.int .i64 (y28))]), (2, .blk bo [(.bool (y29))]), (3, .rd nJ vW W), (4, .sr iY vF F), (5, .pt bw 0 [vW]), (6, .pt bwd 0 [(.func (.func 103) #[] #[(.pointer (some ⟨ba, 0, none⟩)), (.pointer (some ⟨bw, 0, none⟩)), (.pointer (some ⟨bo, 0, none⟩))])]), (7, .pt bf 0 [vF]), (8, .pt be 0 [(.func (.func 104) #[] #[(.pointer (some ⟨bo, 0, none⟩)), (.pointer (some ⟨bwd, 0, none⟩)), (.pointer (some ⟨bf, 0, none⟩))])]), (9, .pt bb 0 [(.func (.func 109) #[] #[(.pointer (some ⟨bwd, 0, none⟩)), (.pointer (some ⟨bo, 0, none⟩)), (.pointer (some ⟨be, 0, none⟩)), (.pointer (some ⟨bb, 0, none⟩))])]), (13, .own eP 147 v15 mK)]) ∧ sJ N F0 mK W F a jM x27 y28 y29 = some r) ?_ ?_)))
 rintro ⟨x27, y28, y29⟩ w dD ⟨h, hs⟩
 refine ai (ai (ag (ae (au (v := (bz x27)) rfl) (ae (Du rfl rfl) (ah (aa (aN hs rfl (fun c30 hs => ?_) (fun c30 hs => ?_))))))))
 refine ai (ag (ae (au (v := v15) rfl) (ae (aj (v := v15) rfl) (ah (aa (aK (aC (aH (aC (aH (aC (cu (v := v15) Tryz.results109 rfl ?_))))))))))))
 replace h := h.freeze 13 rfl
 replace h := h.pair 1 2 (by decide)
 obtain rfl := Option.some.inj hs
 subst zt
 obtain ⟨o1, o2, o3⟩ := h.qD 1 (C := (.two (.blk ba [(.int .i64 (y28))]) (.blk bo [(.bool (y29))]) : Chunk)) rfl ⟨trivial, trivial⟩
 exact ⟨o2, v15, rfl, o1, o3, h.Mo 1 13 rfl rfl⟩
 refine aG (aa (ai (ag ?_)))
 obtain ⟨y31, e32, hs⟩ := aQ hs
 refine bA Oe rfl rfl (xU _ _ h.lt (hT.QO h.keep hG) [115, 101, 116, 32, 112, 117, 116, 32, 115, 97, 121, 32, 112, 97, 117, 115, 101, 32, 103, 111, 32, 105, 102, 32, 119, 104, 105, 108, 101, 32, 114, 101, 116, 117, 114, 110] _ e32) ?_
 rintro _ w ⟨k35, u33, rfl, Zb⟩
 refine ⟨_, rfl, ?_⟩
 replace h := h.Ie 14 k35 Zb
 refine ae (au (v := (bz x27)) rfl) ?_
 obtain ⟨lQ, e37, hs⟩ := aQ hs
 refine bA Um rfl rfl (zq _ _ h.lt u33 y31 (h.mH 14 rfl) x27 _ e37) ?_
 rintro _ w ⟨Zc, rfl⟩
 refine ⟨_, rfl, ?_⟩
 replace h := h.grow Zc
 obtain ⟨a39, hs⟩ := bM hs
 refine ae (dH rfl rfl a39) (ae (dV (pv := [(0, (.int .i64 ((lQ + 1))))]) (out := [(.int .i64 ((lQ + 1))), (.int .i64 (0)), (.slice none 0 0), (.slice none 0 0), (.slice none 0 0), (.slice none 0 0)]) Pg rfl ⟨0, 1, [(.int .i64 ((lQ + 1)))], rfl, rfl, rfl, Nat.le_of_ble_eq_true rfl, rfl⟩) (bY h 15 nQ fun w Zl h => dB (vs := [(.int .i64 ((lQ + 1))), (.int .i64 (0)), (.slice none 0 0), (.slice none 0 0), (.slice none 0 0), (.slice none 0 0)]) h 15 [(.int .i64 ((lQ + 1))), (.int .i64 (0)), (.slice none 0 0), (.slice none 0 0), (.slice none 0 0), (.slice none 0 0)] rfl nQ rfl rfl rfl rfl rfl (ay rfl (ay rfl (ay rfl (ay rfl (ay rfl (ay rfl bg)))))) fun w h => ah (aa (ai (ai (ag (ae (aD h 2 rfl wL rfl rfl) (ae (au (v := (.bool (y29))) rfl) (aF rfl rfl (fun q => ak jP rfl) (aF rfl rfl (fun q => aD h 15 rfl aZ (dA q) rfl) (aF rfl rfl (fun q => j6 (dA q) rfl) (ae (fV rfl rfl ma) (fJ h 2 [(.bool ((y29 && decide ((0 : Int) < (lQ + 1)))))] rfl wL rfl rfl rfl rfl rfl fun w h => ah (aa (ai (ag (ae (aD h 2 rfl wL rfl rfl) (ae (gZ rfl) (ah (aa ?_))))))))))))))))))))
 refine aN hs rfl (fun WS hs => ?_) (fun WS hs => ?_)
 refine dh (aO (vV (by decide) (aO (bE (aa (ai (ag (ae (aj (v := (.slice none 0 0)) rfl) (ah (aa (aK (cu (v := (.slice none 0 0)) Tryz.results109 rfl ?_))))))))))))
 replace h := h.pair 1 2 (by decide)
 obtain rfl := Option.some.inj hs
 subst zt
 obtain ⟨o1, o2, o3⟩ := h.qD 1 (C := (.two (.blk ba [(.int .i64 (y28))]) (.blk bo [(.bool ((y29 && decide ((0 : Int) < (lQ + 1)))))]) : Chunk)) rfl ⟨trivial, trivial⟩
 exact ⟨o2, .slice none 0 0, rfl, o1, o3, gL.nil⟩
 refine aG (aa (cz (σ := Int × Bool × Int) (inl [36, 37, 38, 39, 40, 41, 42, 43, 44, 45]) (fun ⟨wu, yQ, xC⟩ => []) (fun ⟨wu, yQ, xC⟩ w => SH w0 M K0 w (hset [(1, .blk ba [(.int .i64 (wu))]), (2, .blk bo [(.bool (yQ))]), (3, .rd nJ vW W), (4, .sr iY vF F), (5, .pt bw 0 [vW]), (6, .pt bwd 0 [(.func (.func 103) #[] #[(.pointer (some ⟨ba, 0, none⟩)), (.pointer (some ⟨bw, 0, none⟩)), (.pointer (some ⟨bo, 0, none⟩))])]), (7, .pt bf 0 [vF]), (8, .pt be 0 [(.func (.func 104) #[] #[(.pointer (some ⟨bo, 0, none⟩)), (.pointer (some ⟨bwd, 0, none⟩)), (.pointer (some ⟨bf, 0, none⟩))])]), (9, .pt bb 0 [(.func (.func 109) #[] #[(.pointer (some ⟨bwd, 0, none⟩)), (.pointer (some ⟨bo, 0, none⟩)), (.pointer (some ⟨be, 0, none⟩)), (.pointer (some ⟨bb, 0, none⟩))])]), (13, .own eP 147 v15 mK), (15, .blk Zl [(.int .i64 ((lQ + 1))), (.int .i64 (xC)), (.slice none 0 0), (.slice none 0 0), (.slice none 0 0), (.slice none 0 0)])]) ∧ qw N F0 lQ W F a mK jM wu yQ xC = some r) ?_ ?_))
 rintro ⟨wu, yQ, xC⟩ w dD ⟨h, hs⟩
 refine cz (σ := Int × Bool × Value × List Tok) (inl [46, 47, 48, 49, 50, 51]) (fun ⟨MV, MW, v47, sW⟩ => []) (fun ⟨MV, MW, v47, sW⟩ w => SH w0 M K0 w (hset [(1, .blk ba [(.int .i64 (MV))]), (2, .blk bo [(.bool (MW))]), (3, .rd nJ vW W), (4, .sr iY vF F), (5, .pt bw 0 [vW]), (6, .pt bwd 0 [(.func (.func 103) #[] #[(.pointer (some ⟨ba, 0, none⟩)), (.pointer (some ⟨bw, 0, none⟩)), (.pointer (some ⟨bo, 0, none⟩))])]), (7, .pt bf 0 [vF]), (8, .pt be 0 [(.func (.func 104) #[] #[(.pointer (some ⟨bo, 0, none⟩)), (.pointer (some ⟨bwd, 0, none⟩)), (.pointer (some ⟨bf, 0, none⟩))])]), (9, .pt bb 0 [(.func (.func 109) #[] #[(.pointer (some ⟨bwd, 0, none⟩)), (.pointer (some ⟨bo, 0, none⟩)), (.pointer (some ⟨be, 0, none⟩)), (.pointer (some ⟨bb, 0, none⟩))])]), (13, .own eP 147 v15 mK), (15, .blk Zl [(.int .i64 ((lQ + 1))), (.int .i64 (xC)), v47, (.slice none 0 0), (.slice none 0 0), (.slice none 0 0)]), (16, .rd ku v47 sW)]) ∧ sI N F0 lQ W F a mK xC jM MV MW sW = some r) ?_ ?_
 rintro ⟨MV, MW, v47, sW⟩ w dD ⟨h, hs⟩
 refine cz (σ := Int × Bool × Value × List Tok) (inl [52, 53, 54, 55, 56, 57]) (fun ⟨HV, xR, v51, AL⟩ => []) (fun ⟨HV, xR, v51, AL⟩ w => SH w0 M K0 w (hset [(1, .blk ba [(.int .i64 (HV))]), (2, .blk bo [(.bool (xR))]), (3, .rd nJ vW W), (4, .sr iY vF F), (5, .pt bw 0 [vW]), (6, .pt bwd 0 [(.func (.func 103) #[] #[(.pointer (some ⟨ba, 0, none⟩)), (.pointer (some ⟨bw, 0, none⟩)), (.pointer (some ⟨bo, 0, none⟩))])]), (7, .pt bf 0 [vF]), (8, .pt be 0 [(.func (.func 104) #[] #[(.pointer (some ⟨bo, 0, none⟩)), (.pointer (some ⟨bwd, 0, none⟩)), (.pointer (some ⟨bf, 0, none⟩))])]), (9, .pt bb 0 [(.func (.func 109) #[] #[(.pointer (some ⟨bwd, 0, none⟩)), (.pointer (some ⟨bo, 0, none⟩)), (.pointer (some ⟨be, 0, none⟩)), (.pointer (some ⟨bb, 0, none⟩))])]), (13, .own eP 147 v15 mK), (15, .blk Zl [(.int .i64 ((lQ + 1))), (.int .i64 (xC)), v47, v51, (.slice none 0 0), (.slice none 0 0)]), (16, .rd ku v47 sW), (17, .rd ku v51 AL)]) ∧ sH F0 lQ a W F mK xC sW jM HV xR AL = some r) ?_ ?_
 rintro ⟨HV, xR, v51, AL⟩ w dD ⟨h, hs⟩
 refine cz (σ := Int × Bool × Value × List bI) (inl [58, 59, 60, 61, 62, 63, 64, 65, 66, 67, 68, 69, 70]) (fun ⟨KM, Qu, v55, MU⟩ => []) (fun ⟨KM, Qu, v55, MU⟩ w => SH w0 M K0 w (hset [(1, .blk ba [(.int .i64 (KM))]), (2, .blk bo [(.bool (Qu))]), (3, .rd nJ vW W), (4, .sr iY vF F), (5, .pt bw 0 [vW]), (6, .pt bwd 0 [(.func (.func 103) #[] #[(.pointer (some ⟨ba, 0, none⟩)), (.pointer (some ⟨bw, 0, none⟩)), (.pointer (some ⟨bo, 0, none⟩))])]), (7, .pt bf 0 [vF]), (8, .pt be 0 [(.func (.func 104) #[] #[(.pointer (some ⟨bo, 0, none⟩)), (.pointer (some ⟨bwd, 0, none⟩)), (.pointer (some ⟨bf, 0, none⟩))])]), (9, .pt bb 0 [(.func (.func 109) #[] #[(.pointer (some ⟨bwd, 0, none⟩)), (.pointer (some ⟨bo, 0, none⟩)), (.pointer (some ⟨be, 0, none⟩)), (.pointer (some ⟨bb, 0, none⟩))])]), (13, .own eP 147 v15 mK), (15, .blk Zl [(.int .i64 ((lQ + 1))), (.int .i64 (xC)), v47, v51, v55, (.slice none 0 0)]), (16, .rd ku v47 sW), (17, .rd ku v51 AL), (18, .rd eP v55 MU)]) ∧ yV F0 lQ a W F mK xC sW AL jM KM Qu MU = some r) ?_ ?_
 rintro ⟨KM, Qu, v55, MU⟩ w dD ⟨h, hs⟩
 refine cz (σ := Int × Bool × Value × List bI) (inl [71, 72, 73, 74, 75, 76, 77, 78]) (fun ⟨Xc, Xd, v59, sZ⟩ => []) (fun ⟨Xc, Xd, v59, sZ⟩ w => SH w0 M K0 w (hset [(1, .blk ba [(.int .i64 (Xc))]), (2, .blk bo [(.bool (Xd))]), (3, .rd nJ vW W), (4, .sr iY vF F), (5, .pt bw 0 [vW]), (6, .pt bwd 0 [(.func (.func 103) #[] #[(.pointer (some ⟨ba, 0, none⟩)), (.pointer (some ⟨bw, 0, none⟩)), (.pointer (some ⟨bo, 0, none⟩))])]), (7, .pt bf 0 [vF]), (8, .pt be 0 [(.func (.func 104) #[] #[(.pointer (some ⟨bo, 0, none⟩)), (.pointer (some ⟨bwd, 0, none⟩)), (.pointer (some ⟨bf, 0, none⟩))])]), (9, .pt bb 0 [(.func (.func 109) #[] #[(.pointer (some ⟨bwd, 0, none⟩)), (.pointer (some ⟨bo, 0, none⟩)), (.pointer (some ⟨be, 0, none⟩)), (.pointer (some ⟨bb, 0, none⟩))])]), (13, .own eP 147 v15 mK), (15, .blk Zl [(.int .i64 ((lQ + 1))), (.int .i64 (xC)), v47, v51, v55, v59]), (16, .rd ku v47 sW), (17, .rd ku v51 AL), (18, .rd eP v55 MU), (19, .rd eP v59 sZ)]) ∧ yU mK lQ xC sW AL MU jM Xc Xd sZ = some r) ?_ ?_
 rintro ⟨Xc, Xd, v59, sZ⟩ w dD ⟨h, hs⟩
 refine ag (ae (au (v := v15) rfl) (ae (dE (vs := [(.int .i64 ((lQ + 1))), (.int .i64 (xC)), v47, v51, v55, v59]) h 15 rfl nQ rfl rfl rfl) (tJ (R := eP) (vs := [(.agg #[(.int .i64 ((lQ + 1))), (.int .i64 (xC)), v47, v51, v55, v59])]) (xs := [(⟨(lQ + 1), xC, sW, AL, MU, sZ⟩ : bI)]) h 20 Iy rfl rfl rfl ⟨(QM ⟨_, _, _, _, rfl, (h.iq 16 rfl), (h.iq 17 rfl), (h.iq 18 rfl), (h.iq 19 rfl)⟩), trivial⟩ rfl fun w u61 h => ?_)))
 obtain ⟨a62, hs⟩ := bM hs
 refine mO (R := eP) (m := [(⟨(lQ + 1), xC, sW, AL, MU, sZ⟩ : bI)]) h 13 rfl (h.eF 20 rfl) Iy rfl rfl rfl a62.1 a62.2 fun w u63 h => ae (aj (v := u63) rfl) (ah (aA (az ?_)))
 subst K3
 exact jN ⟨Zk, u63, (mK ++ [(⟨(lQ + 1), xC, sW, AL, MU, sZ⟩ : bI)]), Xc, Xd⟩ ⟨h.cn _, hs⟩
 refine ai (ag (ae (ak jP rfl) (ae (aD h 15 rfl aZ rfl rfl) (ae (bJ rfl rfl) (ah (aa (aN hs rfl (fun c64 hs => ?_) (fun c64 hs => ?_))))))))
 refine ag (ae (eO (k := 0) h 9 rfl F3 rfl rfl) (ae (au (v := (.int .i64 (a))) rfl) ?_))
 obtain ⟨a65, hs⟩ := bM hs
 refine ae (dH rfl rfl a65) ?_
 replace h := h.pair 1 2 (by decide)
 obtain ⟨l66a, l66b, l66c⟩ := h.vY 1 (C := (.two (.blk ba [(.int .i64 (KM))]) (.blk bo [(.bool (Qu))]) : Chunk)) rfl ⟨trivial, trivial⟩
 obtain ⟨tY, Ux, hs⟩ := aQ hs
 refine bA JF rfl rfl (ih _ _ l66c (hT.QO h.keep hG) ba bo bw bwd bf be bb (⟨KM, Qu⟩ : dO) l66a l66b vW W (h.N9 1 3 rfl rfl) vF F (h.Ud 1 4 rfl rfl) (by obtain ⟨E, hE⟩ := hbw; exact ⟨E, h.keep.blk hE MP⟩) RV (by obtain ⟨E, hE⟩ := JR; exact ⟨E, h.keep.blk hE Gc⟩) Gb (by obtain ⟨E, hE⟩ := hbf; exact ⟨E, h.keep.blk hE MQ⟩) RX (by obtain ⟨E, hE⟩ := hbe; exact ⟨E, h.keep.blk hE Xe⟩) Yb (by obtain ⟨E, hE⟩ := hbb; exact ⟨E, h.keep.blk hE Xf⟩) Yc (a + 1) (h.FR hT hG 1 (C := (.two (.blk ba [(.int .i64 (KM))]) (.blk bo [(.bool (Qu))]) : Chunk)) rfl) _ Ux) ?_
 rintro _ w ⟨k71, u69, rfl, h72, h73, g70⟩
 refine ⟨_, rfl, ?_⟩
 replace h := h.back 1 (C := (.two (.blk ba [(.int .i64 (KM))]) (.blk bo [(.bool (Qu))]) : Chunk)) (C' := (.two (.blk ba [(.int .i64 (tY.2.at_))]) (.blk bo [(.bool (tY.2.ok))]) : Chunk)) rfl ⟨trivial, trivial⟩ h72 k71 h73
 replace h := h.di 21 (FV g70)
 replace h := h.bX 1 2 (by decide) rfl rfl
 refine ae (ak xN rfl) (fJ h 15 [(.int .i64 ((lQ + 1))), (.int .i64 (xC)), v47, v51, v55, u69] rfl oN rfl rfl rfl rfl (h.iq 21 rfl).one fun w h => ah (az ?_))
 replace h := h.NV 21 19 rfl
 exact bU (tY.2.at_, tY.2.ok, u69, tY.1) ⟨h.cn _, hs⟩
 refine aG (az ?_)
 replace h := h.di 19 (gL.nil (R := eP))
 exact bU (KM, Qu, (.slice none 0 0), []) ⟨h.cn _, hs⟩
 refine ai (ag (ae (ak jP rfl) (ae (aD h 15 rfl aZ rfl rfl) (ae (bJ rfl rfl) (ae (au (v := (.bool (decide (((lQ + 1) : Int) = 6)))) rfl) (aF rfl rfl (fun q => ak jP rfl) (aF rfl rfl (fun q => aD h 15 rfl aZ (dA q) rfl) (aF rfl rfl (fun q => bJ (dA q) rfl) (ae (ic rfl rfl ma) (ah (aa (aN hs rfl (fun Zm hs => ?_) (fun Zm hs => ?_)))))))))))))
 refine ag (ae (eO (k := 0) h 9 rfl F3 rfl rfl) (ae (au (v := (.int .i64 (a))) rfl) ?_))
 obtain ⟨a75, hs⟩ := bM hs
 refine ae (dH rfl rfl a75) ?_
 replace h := h.pair 1 2 (by decide)
 obtain ⟨l76a, l76b, l76c⟩ := h.vY 1 (C := (.two (.blk ba [(.int .i64 (HV))]) (.blk bo [(.bool (xR))]) : Chunk)) rfl ⟨trivial, trivial⟩
 obtain ⟨UB, Zn, hs⟩ := aQ hs
 refine bA JF rfl rfl (ih _ _ l76c (hT.QO h.keep hG) ba bo bw bwd bf be bb (⟨HV, xR⟩ : dO) l76a l76b vW W (h.N9 1 3 rfl rfl) vF F (h.Ud 1 4 rfl rfl) (by obtain ⟨E, hE⟩ := hbw; exact ⟨E, h.keep.blk hE MP⟩) RV (by obtain ⟨E, hE⟩ := JR; exact ⟨E, h.keep.blk hE Gc⟩) Gb (by obtain ⟨E, hE⟩ := hbf; exact ⟨E, h.keep.blk hE MQ⟩) RX (by obtain ⟨E, hE⟩ := hbe; exact ⟨E, h.keep.blk hE Xe⟩) Yb (by obtain ⟨E, hE⟩ := hbb; exact ⟨E, h.keep.blk hE Xf⟩) Yc (a + 1) (h.FR hT hG 1 (C := (.two (.blk ba [(.int .i64 (HV))]) (.blk bo [(.bool (xR))]) : Chunk)) rfl) _ Zn) ?_
 rintro _ w ⟨k81, u79, rfl, h82, h83, g80⟩
 refine ⟨_, rfl, ?_⟩
 replace h := h.back 1 (C := (.two (.blk ba [(.int .i64 (HV))]) (.blk bo [(.bool (xR))]) : Chunk)) (C' := (.two (.blk ba [(.int .i64 (UB.2.at_))]) (.blk bo [(.bool (UB.2.ok))]) : Chunk)) rfl ⟨trivial, trivial⟩ h82 k81 h83
 replace h := h.di 22 (FV g80)
 replace h := h.bX 1 2 (by decide) rfl rfl
 refine ae (ak xM rfl) (fJ h 15 [(.int .i64 ((lQ + 1))), (.int .i64 (xC)), v47, v51, u79, (.slice none 0 0)] rfl oN rfl rfl rfl rfl (h.iq 22 rfl).one fun w h => ah (az ?_))
 replace h := h.NV 22 18 rfl
 exact bU (UB.2.at_, UB.2.ok, u79, UB.1) ⟨h.cn _, hs⟩
 refine aG (az ?_)
 replace h := h.di 18 (gL.nil (R := eP))
 exact bU (HV, xR, (.slice none 0 0), []) ⟨h.cn _, hs⟩
 refine ai (ag (ae (ak jP rfl) (ae (aD h 15 rfl aZ rfl rfl) (ae (bJ rfl rfl) (ah (aa (aN hs rfl (fun c84 hs => ?_) (fun c84 hs => ?_))))))))
 refine ag (ae (eO (k := 0) h 8 rfl JK rfl rfl) ?_)
 replace h := h.pair 1 2 (by decide)
 obtain ⟨l85a, l85b, l85c⟩ := h.vY 1 (C := (.two (.blk ba [(.int .i64 (MV))]) (.blk bo [(.bool (MW))]) : Chunk)) rfl ⟨trivial, trivial⟩
 obtain ⟨JQ, e87, hs⟩ := aQ hs
 refine bA Oc rfl rfl (IG N _ _ l85c (hT.QO h.keep hG) ba bo bw bwd bf (⟨MV, MW⟩ : dO) l85a l85b vW W (h.N9 1 3 rfl rfl) vF F (h.Ud 1 4 rfl rfl) (by obtain ⟨E, hE⟩ := hbw; exact ⟨E, h.keep.blk hE MP⟩) RV (by obtain ⟨E, hE⟩ := JR; exact ⟨E, h.keep.blk hE Gc⟩) Gb (by obtain ⟨E, hE⟩ := hbf; exact ⟨E, h.keep.blk hE MQ⟩) RX (h.FR hT hG 1 (C := (.two (.blk ba [(.int .i64 (MV))]) (.blk bo [(.bool (MW))]) : Chunk)) rfl) _ e87) ?_
 rintro _ w ⟨k90, u88, rfl, h91, h92, g89⟩
 refine ⟨_, rfl, ?_⟩
 replace h := h.back 1 (C := (.two (.blk ba [(.int .i64 (MV))]) (.blk bo [(.bool (MW))]) : Chunk)) (C' := (.two (.blk ba [(.int .i64 (JQ.2.at_))]) (.blk bo [(.bool (JQ.2.ok))]) : Chunk)) rfl ⟨trivial, trivial⟩ h91 k90 h92
 replace h := h.di 23 (FV g89)
 replace h := h.bX 1 2 (by decide) rfl rfl
 refine ae (ak zO rfl) (fJ h 15 [(.int .i64 ((lQ + 1))), (.int .i64 (xC)), v47, u88, (.slice none 0 0), (.slice none 0 0)] rfl vZ rfl rfl rfl rfl (h.iq 23 rfl).one fun w h => ah (az ?_))
 replace h := h.NV 23 17 rfl
 exact bU (JQ.2.at_, JQ.2.ok, u88, JQ.1) ⟨h.cn _, hs⟩
 refine aG (az ?_)
 replace h := h.di 17 (gL.nil (R := ku))
 exact bU (MV, MW, (.slice none 0 0), []) ⟨h.cn _, hs⟩
 refine ai (ag (ae (ak jP rfl) (ae (aD h 15 rfl aZ rfl rfl) (ae (gu rfl rfl) (ah (aa (aN hs rfl (fun c93 hs => ?_) (fun c93 hs => ?_))))))))
 refine ag (ae (eO (k := 0) h 8 rfl JK rfl rfl) ?_)
 replace h := h.pair 1 2 (by decide)
 obtain ⟨l94a, l94b, l94c⟩ := h.vY 1 (C := (.two (.blk ba [(.int .i64 (wu))]) (.blk bo [(.bool (yQ))]) : Chunk)) rfl ⟨trivial, trivial⟩
 obtain ⟨y95, e96, hs⟩ := aQ hs
 refine bA Oc rfl rfl (IG N _ _ l94c (hT.QO h.keep hG) ba bo bw bwd bf (⟨wu, yQ⟩ : dO) l94a l94b vW W (h.N9 1 3 rfl rfl) vF F (h.Ud 1 4 rfl rfl) (by obtain ⟨E, hE⟩ := hbw; exact ⟨E, h.keep.blk hE MP⟩) RV (by obtain ⟨E, hE⟩ := JR; exact ⟨E, h.keep.blk hE Gc⟩) Gb (by obtain ⟨E, hE⟩ := hbf; exact ⟨E, h.keep.blk hE MQ⟩) RX (h.FR hT hG 1 (C := (.two (.blk ba [(.int .i64 (wu))]) (.blk bo [(.bool (yQ))]) : Chunk)) rfl) _ e96) ?_
 rintro _ w ⟨k99, RZ, rfl, h100, Xg, g98⟩
 refine ⟨_, rfl, ?_⟩
 replace h := h.back 1 (C := (.two (.blk ba [(.int .i64 (wu))]) (.blk bo [(.bool (yQ))]) : Chunk)) (C' := (.two (.blk ba [(.int .i64 (y95.2.at_))]) (.blk bo [(.bool (y95.2.ok))]) : Chunk)) rfl ⟨trivial, trivial⟩ h100 k99 Xg
 replace h := h.di 24 (FV g98)
 replace h := h.bX 1 2 (by decide) rfl rfl
 refine ae (ak xL rfl) (fJ h 15 [(.int .i64 ((lQ + 1))), (.int .i64 (xC)), RZ, (.slice none 0 0), (.slice none 0 0), (.slice none 0 0)] rfl vZ rfl rfl rfl rfl (h.iq 24 rfl).one fun w h => ah (az ?_))
 replace h := h.NV 24 16 rfl
 exact bU (y95.2.at_, y95.2.ok, RZ, y95.1) ⟨h.cn _, hs⟩
 refine aG (az ?_)
 replace h := h.di 16 (gL.nil (R := ku))
 exact bU (wu, yQ, (.slice none 0 0), []) ⟨h.cn _, hs⟩
 refine ai (ag (ae (ak jP rfl) (ae (aD h 15 rfl aZ rfl rfl) (ae (Cr rfl rfl) (ah (aa (aN hs rfl (fun R3 hs => ?_) (fun R3 hs => ?_))))))))
 refine ag (ae (eO (k := 0) h 6 rfl yP rfl rfl) (jE (args := [(.pointer (some ⟨ba, 0, none⟩)), (.pointer (some ⟨bw, 0, none⟩)), (.pointer (some ⟨bo, 0, none⟩))]) yN rfl rfl (aS (args := [(.pointer (some ⟨ba, 0, none⟩)), (.pointer (some ⟨bw, 0, none⟩)), (.pointer (some ⟨bo, 0, none⟩))]) Tryz.func103 rfl Tryz.ntmps103 (Nat.le_of_ble_eq_true rfl) (ai (ag (ae (aj (v := (bz [])) rfl) (ah (aa (ai (ai (ag (ae (aD h 1 rfl aZ rfl rfl) (ae (eO (k := 0) h 5 rfl mE rfl rfl) (ae (bW eQ rfl (h.mH 3 rfl)) (ae (oZ rfl rfl) (ah (aa (aN hs rfl (fun Xh hs => ?_) (fun Xh hs => ?_)))))))))))))))))))
 refine ai (ag (fJ h 2 [(.bool (false))] rfl wL rfl rfl rfl rfl rfl fun w h => ah (aa (ai (ag (ae (aj (v := (bz [])) rfl) (ah (aa (aK (aC (cu (v := (bz [])) Tryz.results103 rfl (⟨_, rfl, ?_⟩))))))))))))
 obtain ⟨y104, JU, hs⟩ := aQ hs
 refine bA CK rfl rfl (pM _ _ h.lt (hT.QO h.keep hG) [] _ JU) ?_
 rintro _ w ⟨HY, R4, rfl, Zo⟩
 refine ⟨_, rfl, ?_⟩
 replace h := h.grow HY
 refine ae (au (v := (.tuple #[(.int .i64 (y104.1)), R4])) rfl) (ae (bF rfl rfl) (ae (bF rfl rfl) (ae (ak uo rfl) (fJ h 15 [(.int .i64 ((lQ + 1))), (.int .i64 (y104.1)), (.slice none 0 0), (.slice none 0 0), (.slice none 0 0), (.slice none 0 0)] rfl aZ rfl rfl rfl rfl rfl fun w h => ah (az ?_)))))
 exact bU (y28, false, y104.1) ⟨h.cn _, hs⟩
 refine aG (aa (ai (ag (ae (aD h 1 rfl aZ rfl rfl) ?_))))
 obtain ⟨a109, hs⟩ := bM hs
 refine ae (dH rfl rfl a109) (fJ h 1 [(.int .i64 ((y28 + 1)))] rfl aZ rfl rfl rfl rfl rfl fun w h => ah (aa (ai (ag (ae (eO (k := 0) h 5 rfl mE rfl rfl) (ae (aD h 1 rfl aZ rfl rfl) ?_))))))
 obtain ⟨a110, hs⟩ := bM hs
 refine ae (oz rfl rfl a110) ?_
 obtain ⟨MX, Zp, hs⟩ := aQ hs
 obtain ⟨b114, o115, cs116, h, r117, i113⟩ := h.Dm 3 25 rfl eQ rfl (aI Zp).1 (aI Zp).2
 obtain rfl := r117
 refine ae (i113 _ _ _ _ _ _ _ _ _ rfl rfl) (ae (eO (k := 0) h 25 rfl xP rfl rfl) (ae (aj (v := (bz MX)) rfl) (ah (aa (aK (cu (v := (bz MX)) Tryz.results103 rfl (⟨_, rfl, ?_⟩)))))))
 obtain ⟨MZ, e119, hs⟩ := aQ hs
 refine bA CK rfl rfl (pM _ _ h.lt (hT.QO h.keep hG) MX _ e119) ?_
 rintro _ w ⟨k122, u120, rfl, g121⟩
 refine ⟨_, rfl, ?_⟩
 replace h := h.grow k122
 refine ae (au (v := (.tuple #[(.int .i64 (MZ.1)), u120])) rfl) (ae (bF rfl rfl) (ae (bF rfl rfl) (ae (ak uo rfl) (fJ h 15 [(.int .i64 ((lQ + 1))), (.int .i64 (MZ.1)), (.slice none 0 0), (.slice none 0 0), (.slice none 0 0), (.slice none 0 0)] rfl aZ rfl rfl rfl rfl rfl fun w h => ah (az ?_)))))
 exact bU ((y28 + 1), (y29 && decide ((0 : Int) < (lQ + 1))), MZ.1) ⟨h.cn _, hs⟩
 refine aG (az ?_)
 exact bU (y28, (y29 && decide ((0 : Int) < (lQ + 1))), 0) ⟨h.cn _, hs⟩
 refine ag (ae (eO (k := 0) h 6 rfl yP rfl rfl) (jE (args := [(.pointer (some ⟨ba, 0, none⟩)), (.pointer (some ⟨bw, 0, none⟩)), (.pointer (some ⟨bo, 0, none⟩))]) yN rfl rfl (aS (args := [(.pointer (some ⟨ba, 0, none⟩)), (.pointer (some ⟨bw, 0, none⟩)), (.pointer (some ⟨bo, 0, none⟩))]) Tryz.func103 rfl Tryz.ntmps103 (Nat.le_of_ble_eq_true rfl) (ai (ag (ae (aj (v := (bz [])) rfl) (ah (aa (ai (ai (ag (ae (aD h 1 rfl aZ rfl rfl) (ae (eO (k := 0) h 5 rfl mE rfl rfl) (ae (bW eQ rfl (h.mH 3 rfl)) (ae (oZ rfl rfl) (ah (aa (aN hs rfl (fun c123 hs => ?_) (fun c123 hs => ?_)))))))))))))))))))
 refine ai (ag (fJ h 2 [(.bool (false))] rfl wL rfl rfl rfl rfl rfl fun w h => ah (aa (ai (ag (ae (aj (v := (bz [])) rfl) (ah (aa (aK (aC (cu (v := (bz [])) Tryz.results103 rfl (⟨_, rfl, ?_⟩))))))))))))
 refine ae (aj (v := (bz [])) rfl) (ah (az ?_))
 exact bU ([], Fe, false) ⟨h.cn _, hs⟩
 refine aG (aa (ai (ag (ae (aD h 1 rfl aZ rfl rfl) ?_))))
 obtain ⟨a124, hs⟩ := bM hs
 refine ae (dH rfl rfl a124) (fJ h 1 [(.int .i64 ((Fe + 1)))] rfl aZ rfl rfl rfl rfl rfl fun w h => ah (aa (ai (ag (ae (eO (k := 0) h 5 rfl mE rfl rfl) (ae (aD h 1 rfl aZ rfl rfl) ?_))))))
 obtain ⟨a125, hs⟩ := bM hs
 refine ae (oz rfl rfl a125) ?_
 obtain ⟨Gd, e127, hs⟩ := aQ hs
 obtain ⟨b129, o130, Zq, h, Xi, i128⟩ := h.Dm 3 26 rfl eQ rfl (aI e127).1 (aI e127).2
 obtain rfl := Xi
 refine ae (i128 _ _ _ _ _ _ _ _ _ rfl rfl) (ae (eO (k := 0) h 26 rfl xP rfl rfl) (ae (aj (v := (bz Gd)) rfl) (ah (aa (aK (cu (v := (bz Gd)) Tryz.results103 rfl (⟨_, rfl, ?_⟩)))))))
 refine ae (aj (v := (bz Gd)) rfl) (ah (az ?_))
 exact bU (Gd, (Fe + 1), Ho) ⟨h.cn _, hs⟩
 refine dh (aO (aO (bE (aa (ai (ag (ae (aj (v := (.slice none 0 0)) rfl) (ah (aa (aK (cu (v := (.slice none 0 0)) Tryz.results109 rfl ?_)))))))))))
 replace h := h.pair 1 2 (by decide)
 obtain rfl := Option.some.inj hs
 subst zt
 obtain ⟨o1, o2, o3⟩ := h.qD 1 (C := (.two (.blk ba [(.int .i64 (Fe))]) (.blk bo [(.bool (Ho))]) : Chunk)) rfl ⟨trivial, trivial⟩
 exact ⟨o2, .slice none 0 0, rfl, o1, o3, gL.nil⟩
 refine cz (σ := Bool × Int × Bool) (inl [10, 11, 12, 13, 14, 15, 16]) (fun ⟨BD, Ff, JS⟩ => [(16, (.bool (BD)))]) (fun ⟨BD, Ff, JS⟩ w => SH w0 M K0 w (hset [(1, .blk ba [(.int .i64 (Ff))]), (2, .blk bo [(.bool (JS))]), (3, .rd nJ vW W), (4, .sr iY vF F), (5, .pt bw 0 [vW]), (6, .pt bwd 0 [(.func (.func 103) #[] #[(.pointer (some ⟨ba, 0, none⟩)), (.pointer (some ⟨bw, 0, none⟩)), (.pointer (some ⟨bo, 0, none⟩))])]), (7, .pt bf 0 [vF]), (8, .pt be 0 [(.func (.func 104) #[] #[(.pointer (some ⟨bo, 0, none⟩)), (.pointer (some ⟨bwd, 0, none⟩)), (.pointer (some ⟨bf, 0, none⟩))])]), (9, .pt bb 0 [(.func (.func 109) #[] #[(.pointer (some ⟨bwd, 0, none⟩)), (.pointer (some ⟨bo, 0, none⟩)), (.pointer (some ⟨be, 0, none⟩)), (.pointer (some ⟨bb, 0, none⟩))])])]) ∧ sM N F0 W F a BD Ff JS = some r) ?_ ?_
 rintro ⟨BD, Ff, JS⟩ w dD ⟨h, hs⟩
 refine aN hs rfl (fun c136 hs => ?_) (fun c136 hs => ?_)
 refine ag (fJ h 2 [(.bool (false))] rfl wL rfl rfl rfl rfl rfl fun w h => ah (az ?_))
 exact bU (Ff, false) ⟨h.cn _, hs⟩
 refine aG (az ?_)
 exact bU (Ff, JS) ⟨h.cn _, hs⟩
 refine ag (ae (eO (k := 0) h 6 rfl yP rfl rfl) (jE (args := [(.pointer (some ⟨ba, 0, none⟩)), (.pointer (some ⟨bw, 0, none⟩)), (.pointer (some ⟨bo, 0, none⟩))]) yN rfl rfl (aS (args := [(.pointer (some ⟨ba, 0, none⟩)), (.pointer (some ⟨bw, 0, none⟩)), (.pointer (some ⟨bo, 0, none⟩))]) Tryz.func103 rfl Tryz.ntmps103 (Nat.le_of_ble_eq_true rfl) (ai (ag (ae (aj (v := (bz [])) rfl) (ah (aa (ai (ai (ag (ae (aD h 1 rfl aZ rfl rfl) (ae (eO (k := 0) h 5 rfl mE rfl rfl) (ae (bW eQ rfl (h.mH 3 rfl)) (ae (oZ rfl rfl) (ah (aa (aN hs rfl (fun c137 hs => ?_) (fun c137 hs => ?_)))))))))))))))))))
 refine ai (ag (fJ h 2 [(.bool (false))] rfl wL rfl rfl rfl rfl rfl fun w h => ah (aa (ai (ag (ae (aj (v := (bz [])) rfl) (ah (aa (aK (aC (cu (v := (bz [])) Tryz.results103 rfl (⟨_, rfl, ?_⟩))))))))))))
 refine ae (FP rfl rfl) (ae (au (v := (.bool (true))) rfl) (bH (b' := true) rfl rfl rfl (bH (b' := true) rfl rfl rfl (ae (cK (b := true) (v := (.bool (true))) rfl rfl) (ah (az ?_))))))
 exact bU (true, sx.at_, false) ⟨h.cn _, hs⟩
 refine aG (aa (ai (ag (ae (aD h 1 rfl aZ rfl rfl) ?_))))
 obtain ⟨a138, hs⟩ := bM hs
 refine ae (dH rfl rfl a138) (fJ h 1 [(.int .i64 ((sx.at_ + 1)))] rfl aZ rfl rfl rfl rfl rfl fun w h => ah (aa (ai (ag (ae (eO (k := 0) h 5 rfl mE rfl rfl) (ae (aD h 1 rfl aZ rfl rfl) ?_))))))
 obtain ⟨a139, hs⟩ := bM hs
 refine ae (oz rfl rfl a139) ?_
 obtain ⟨KZ, Zr, hs⟩ := aQ hs
 obtain ⟨b143, o144, cs145, h, r146, i142⟩ := h.Dm 3 27 rfl eQ rfl (aI Zr).1 (aI Zr).2
 obtain rfl := r146
 refine ae (i142 _ _ _ _ _ _ _ _ _ rfl rfl) (ae (eO (k := 0) h 27 rfl xP rfl rfl) (ae (aj (v := (bz KZ)) rfl) (ah (aa (aK (cu (v := (bz KZ)) Tryz.results103 rfl (⟨_, rfl, ?_⟩)))))))
 refine ae (FP rfl rfl) (ae (au (v := (.bool (decide ((KZ : Str) ≠ [123])))) rfl) (aF rfl rfl (fun q => au (v := (.int .i64 (a))) rfl) (aF rfl rfl (fun q => j6 (dA q) rfl) (ae (ic rfl rfl ma) (ah (az ?_))))))
 exact bU ((decide ((KZ : Str) ≠ [123]) || decide ((6 : Int) < a)), (sx.at_ + 1), sx.ok) ⟨h.cn _, hs⟩
def lC (HZ : List fB → Option (List fB × Int)) (y24 : List fB) : Option (List fB × Int) :=
  HZ y24
def lD (y1 : List Str) (i17 : Int) (vI : List fB) (HZ : List fB → Option (List fB × Int)) (x30 : Bool) : Option (List fB × Int) :=
  bif x30 then (idx y1 (i17 + 1)).bind fun x32 => (zJ x32).bind fun y39 => ib (jO (i17 + 2)) ((idx y1 (i17 + 2)).bind fun x45 => (zJ x45).bind fun AL => ib (Room 40 vI [(⟨y39.1, AL.1, []⟩ : fB)]) (lC HZ (vI ++ [(⟨y39.1, AL.1, []⟩ : fB)]))) else lC HZ vI
def iA (N : Nat) (y1 : List Str) (qI : List fB) (i101 : Int) (kH : (List fB × Int × Bool) → Option (List fB × Int)) (Fg : Int) (y112 : Bool) : Option (List fB × Int) :=
  (uD N (⟨Fg, y112⟩ : dO) y1 qI 1).bind fun jY => (idx qI i101).bind fun vS => kH ((qI.set (i101).toNat { vS with body := jY.1 }), jY.2.at_, jY.2.ok)
def iB (N : Nat) (y1 : List Str) (qI : List fB) (i101 : Int) (kH : (List fB × Int × Bool) → Option (List fB × Int)) (xq : Int) (JV : Bool) : Option (List fB × Int) :=
  bif decide (((y1.length : Int) : Int) ≤ xq) then iA N y1 qI i101 kH xq false else ib (jO (xq + 1)) (ib (jO ((xq + 1) - 1)) ((idx y1 ((xq + 1) - 1)).bind fun UC => iA N y1 qI i101 kH (xq + 1) JV))
def iC (N : Nat) (y1 : List Str) (qI : List fB) (i101 : Int) (kH : (List fB × Int × Bool) → Option (List fB × Int)) (oI : Int) (JW : Bool) : Option (List fB × Int) :=
  bif decide (((y1.length : Int) : Int) ≤ oI) then iB N y1 qI i101 kH oI false else ib (jO (oI + 1)) (ib (jO ((oI + 1) - 1)) ((idx y1 ((oI + 1) - 1)).bind fun UD => iB N y1 qI i101 kH (oI + 1) JW))
def iD (N : Nat) (y1 : List Str) (qI : List fB) (i101 : Int) (kH : (List fB × Int × Bool) → Option (List fB × Int)) (K4 : Bool) (Fh : Int) (JX : Bool) : Option (List fB × Int) :=
  bif K4 then iC N y1 qI i101 kH Fh false else iC N y1 qI i101 kH Fh JX
def jk (qI : List fB) (x159 : Bool) : Option (List fB × Int) :=
  bif x159 then some ([], 1) else some (qI, 0)
def iE (N : Nat) (y1 : List Str) (i101 : Int) (s : List fB × Int × Bool) (kH : List fB × Int × Bool → Option (List fB × Int)) : Option (List fB × Int) :=
  match s with | (qI, y98, y99) => bif decide (((y1.length : Int) : Int) ≤ y98) then iD N y1 qI i101 kH true y98 false else ib (jO (y98 + 1)) (ib (jO ((y98 + 1) - 1)) ((idx y1 ((y98 + 1) - 1)).bind fun x152 => iD N y1 qI i101 kH (decide ((x152 : Str) ≠ [102, 117, 110])) (y98 + 1) y99))
def jl (N : Nat) (y1 : List Str) (a : Str) (s : List fB × Int × Bool) : Option (List fB × Int) :=
  match s with | (qI, y98, y99) => bif ((!y99) || decide ((y98 : Int) < (y1.length : Int))) then jk qI true else (rC N qI).bind fun R5 => bif decide ((R5 : Int) ≠ 0) then jk qI true else (su N qI).bind fun UE => jk qI (decide ((UE : Str) ≠ a))
def jm (vI : List fB) (i64 : Int) (s : Unit) (Zt : Unit → Option (List fB × Int)) : Option (List fB × Int) :=
  (idx vI i64).bind fun UF => bif (!(bC UF.params 0 3)) then some ([], 1) else Zt ()
def iF (N : Nat) (y1 : List Str) (a : Str) (vI : List fB) (s : Unit) : Option (List fB × Int) :=
  upto (iE N y1) (jl N y1 a) 0 ((vI.length : Int)).toNat (vI, 0, true)
def jo (y1 : List Str) (i17 : Int) (yB : Str) (vI : List fB) (HZ : List fB → Option (List fB × Int)) : Option (List fB × Int) :=
  bif decide ((yB : Str) = [102, 117, 110]) then ib (jO (i17 + 2)) (lD y1 i17 vI HZ (decide (((i17 + 2) : Int) < (y1.length : Int)))) else lD y1 i17 vI HZ false
def iG (N : Nat) (y1 : List Str) (a : Str) (vI : List fB) : Option (List fB × Int) :=
  bif (decide (((vI.length : Int) : Int) = 0) || decide ((4 : Int) < (vI.length : Int))) then some ([], 1) else upto (jm vI) (iF N y1 a vI) 0 ((vI.length : Int)).toNat ()
def ky (N : Nat) (a : Str) : Option (List fB × Int) :=
  (Jt a [32]).bind fun y1 => dU (jo y1) (iG N y1 a) 0 y1 []
end
end Go.Proofs.YtfclkapelkhlpaaGreatDoor
