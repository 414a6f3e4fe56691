/-
  What the law VmKeeps needs of our own library and of the walks, no more.
-/
import Derived.Test.YtfclkapelkhlpaaGreatDoorProg
import Derived.Test.YtfclkapelkhlpaaGreatDoorVmKeepsTb
set_option linter.unusedSimpArgs false
set_option linter.unusedVariables false
set_option maxRecDepth 10000
namespace Go.Proofs.YtfclkapelkhlpaaGreatDoor
open Go Go.Proofs Go.LX
noncomputable section
theorem Ie : ny Tryz.prog 111 147 6 112 := ⟨Tryz.underlying111, rM (z := (.agg #[(.int .i64 (0)), (.int .i64 (0)), (.slice none 0 0), (.slice none 0 0), (.slice none 0 0), (.slice none 0 0)])) (by kernel_rfl) rfl⟩
theorem Ig : ny Tryz.prog 145 160 2 16 := ⟨Tryz.underlying145, rM (z := (.agg #[(.int .i64 (0)), (.int .i64 (0))])) (by kernel_rfl) rfl⟩
theorem Ih : ny Tryz.prog 153 9 1 16 := ⟨Tryz.underlying153, rM (z := (bg [])) (by kernel_rfl) rfl⟩
theorem Oz : ny Tryz.prog 204 111 1 24 := ⟨Tryz.underlying204, rM (z := (.slice none 0 0)) (by kernel_rfl) rfl⟩
theorem Kv : ny Tryz.prog 22 57 3 40 := ⟨Tryz.underlying22, rM (z := (.agg #[(.int .i64 (0)), (.int .i64 (0)), (.slice none 0 0)])) (by kernel_rfl) rfl⟩
theorem oV : ny Tryz.prog 23 49 4 48 := ⟨Tryz.underlying23, rM (z := (.agg #[(.int .i64 (0)), (.int .i64 (0)), (.slice none 0 0), (.int .i64 (0))])) (by kernel_rfl) rfl⟩
theorem qC : ny Tryz.prog 24 47 1 24 := ⟨Tryz.underlying24, rM (z := (.slice none 0 0)) (by kernel_rfl) rfl⟩
theorem kg : ny Tryz.prog 27 3 1 8 := ⟨Tryz.underlying27, rM (z := (.int .i64 (0))) (by kernel_rfl) rfl⟩
theorem uj : ny Tryz.prog 47 51 2 16 := ⟨Tryz.underlying47, rM (z := (.agg #[(.int .i64 (0)), (.int .i64 (0))])) (by kernel_rfl) rfl⟩
theorem eT : ny Tryz.prog 55 93 5 56 := ⟨Tryz.underlying55, rM (z := (.agg #[(.int .i64 (0)), (.int .i64 (0)), (.int .i64 (0)), (.int .i64 (0)), (.slice none 0 0)])) (by kernel_rfl) rfl⟩
theorem Kw : ny Tryz.prog 67 113 3 40 := ⟨Tryz.underlying67, rM (z := (.agg #[(.int .i64 (0)), (.int .i64 (0)), (.slice none 0 0)])) (by kernel_rfl) rfl⟩
theorem QK : fF Tryz.prog 101 0 0 := ⟨_, _, 0, Tryz.underlying101, rfl, rfl, by kernel_rfl⟩
theorem QL : fF Tryz.prog 101 1 1 := ⟨_, _, 0, Tryz.underlying101, rfl, rfl, by kernel_rfl⟩
theorem FQ : fF Tryz.prog 101 2 2 := ⟨_, _, 0, Tryz.underlying101, rfl, rfl, by kernel_rfl⟩
theorem uk : fF Tryz.prog 113 0 0 := ⟨_, _, 0, Tryz.underlying113, rfl, rfl, by kernel_rfl⟩
theorem xE : fF Tryz.prog 113 1 1 := ⟨_, _, 0, Tryz.underlying113, rfl, rfl, by kernel_rfl⟩
theorem zR : fF Tryz.prog 113 2 2 := ⟨_, _, 0, Tryz.underlying113, rfl, rfl, by kernel_rfl⟩
theorem jC : fF Tryz.prog 147 0 0 := ⟨_, _, 0, Tryz.underlying147, rfl, rfl, by kernel_rfl⟩
theorem um : fF Tryz.prog 147 1 1 := ⟨_, _, 0, Tryz.underlying147, rfl, rfl, by kernel_rfl⟩
theorem xG : fF Tryz.prog 147 2 2 := ⟨_, _, 0, Tryz.underlying147, rfl, rfl, by kernel_rfl⟩
theorem zS : fF Tryz.prog 147 3 3 := ⟨_, _, 0, Tryz.underlying147, rfl, rfl, by kernel_rfl⟩
theorem xH : fF Tryz.prog 147 4 4 := ⟨_, _, 0, Tryz.underlying147, rfl, rfl, by kernel_rfl⟩
theorem xI : fF Tryz.prog 147 5 5 := ⟨_, _, 0, Tryz.underlying147, rfl, rfl, by kernel_rfl⟩
theorem Cz : fF Tryz.prog 160 0 0 := ⟨_, _, 0, Tryz.underlying160, rfl, rfl, by kernel_rfl⟩
theorem mq : fF Tryz.prog 160 1 1 := ⟨_, _, 0, Tryz.underlying160, rfl, rfl, by kernel_rfl⟩
theorem eH : fF Tryz.prog 26 0 0 := ⟨_, _, 0, Tryz.underlying26, rfl, rfl, by kernel_rfl⟩
theorem jy : fF Tryz.prog 26 1 1 := ⟨_, _, 0, Tryz.underlying26, rfl, rfl, by kernel_rfl⟩
theorem oM : fF Tryz.prog 26 2 2 := ⟨_, _, 0, Tryz.underlying26, rfl, rfl, by kernel_rfl⟩
theorem yO : fF Tryz.prog 26 3 3 := ⟨_, _, 0, Tryz.underlying26, rfl, rfl, by kernel_rfl⟩
theorem wS : fF Tryz.prog 49 0 0 := ⟨_, _, 0, Tryz.underlying49, rfl, rfl, by kernel_rfl⟩
theorem tV : fF Tryz.prog 49 1 1 := ⟨_, _, 0, Tryz.underlying49, rfl, rfl, by kernel_rfl⟩
theorem l8 : fF Tryz.prog 49 2 2 := ⟨_, _, 0, Tryz.underlying49, rfl, rfl, by kernel_rfl⟩
theorem AL : fF Tryz.prog 49 3 3 := ⟨_, _, 0, Tryz.underlying49, rfl, rfl, by kernel_rfl⟩
theorem rR : fF Tryz.prog 51 0 0 := ⟨_, _, 0, Tryz.underlying51, rfl, rfl, by kernel_rfl⟩
theorem ik : fF Tryz.prog 51 1 1 := ⟨_, _, 0, Tryz.underlying51, rfl, rfl, by kernel_rfl⟩
theorem CB : fF Tryz.prog 57 0 0 := ⟨_, _, 0, Tryz.underlying57, rfl, rfl, by kernel_rfl⟩
theorem yP : fF Tryz.prog 57 1 1 := ⟨_, _, 0, Tryz.underlying57, rfl, rfl, by kernel_rfl⟩
theorem qM : fF Tryz.prog 57 2 2 := ⟨_, _, 0, Tryz.underlying57, rfl, rfl, by kernel_rfl⟩
theorem oN : fF Tryz.prog 93 0 0 := ⟨_, _, 0, Tryz.underlying93, rfl, rfl, by kernel_rfl⟩
theorem jV : fF Tryz.prog 93 1 1 := ⟨_, _, 0, Tryz.underlying93, rfl, rfl, by kernel_rfl⟩
theorem iF : fF Tryz.prog 93 2 2 := ⟨_, _, 0, Tryz.underlying93, rfl, rfl, by kernel_rfl⟩
theorem qa : fF Tryz.prog 93 3 3 := ⟨_, _, 0, Tryz.underlying93, rfl, rfl, by kernel_rfl⟩
theorem vD : fF Tryz.prog 93 4 4 := ⟨_, _, 0, Tryz.underlying93, rfl, rfl, by kernel_rfl⟩
theorem Jp : gG Tryz.prog 100 := ⟨_, Tryz.func100, by kernel_rfl, rfl⟩
theorem TM : gG Tryz.prog 101 := ⟨_, Tryz.func101, by kernel_rfl, rfl⟩
theorem CE : gG Tryz.prog 102 := ⟨_, Tryz.func102, by kernel_rfl, rfl⟩
theorem yQ : gG Tryz.prog 103 := ⟨_, Tryz.func103, by kernel_rfl, rfl⟩
theorem NB : gG Tryz.prog 104 := ⟨_, Tryz.func104, by kernel_rfl, rfl⟩
theorem TN : gG Tryz.prog 105 := ⟨_, Tryz.func105, by kernel_rfl, rfl⟩
theorem Jq : gG Tryz.prog 106 := ⟨_, Tryz.func106, by kernel_rfl, rfl⟩
theorem NC : gG Tryz.prog 107 := ⟨_, Tryz.func107, by kernel_rfl, rfl⟩
theorem Jr : gG Tryz.prog 108 := ⟨_, Tryz.func108, by kernel_rfl, rfl⟩
theorem Js : gG Tryz.prog 109 := ⟨_, Tryz.func109, by kernel_rfl, rfl⟩
theorem TP : gG Tryz.prog 110 := ⟨_, Tryz.func110, by kernel_rfl, rfl⟩
theorem ND : gG Tryz.prog 111 := ⟨_, Tryz.func111, by kernel_rfl, rfl⟩
theorem TQ : gG Tryz.prog 112 := ⟨_, Tryz.func112, by kernel_rfl, rfl⟩
theorem TR : gG Tryz.prog 113 := ⟨_, Tryz.func113, by kernel_rfl, rfl⟩
theorem TS : gG Tryz.prog 114 := ⟨_, Tryz.func114, by kernel_rfl, rfl⟩
theorem TT : gG Tryz.prog 115 := ⟨_, Tryz.func115, by kernel_rfl, rfl⟩
theorem Fg : gG Tryz.prog 116 := ⟨_, Tryz.func116, by kernel_rfl, rfl⟩
theorem NF : gG Tryz.prog 117 := ⟨_, Tryz.func117, by kernel_rfl, rfl⟩
theorem TU : gG Tryz.prog 124 := ⟨_, Tryz.func124, by kernel_rfl, rfl⟩
theorem Fh : gG Tryz.prog 125 := ⟨_, Tryz.func125, by kernel_rfl, rfl⟩
theorem NG : gG Tryz.prog 128 := ⟨_, Tryz.func128, by kernel_rfl, rfl⟩
theorem Jt : gG Tryz.prog 129 := ⟨_, Tryz.func129, by kernel_rfl, rfl⟩
theorem Ju : gG Tryz.prog 130 := ⟨_, Tryz.func130, by kernel_rfl, rfl⟩
theorem TV : gG Tryz.prog 131 := ⟨_, Tryz.func131, by kernel_rfl, rfl⟩
theorem TW : gG Tryz.prog 141 := ⟨_, Tryz.func141, by kernel_rfl, rfl⟩
theorem yR : gG Tryz.prog 144 := ⟨_, Tryz.func144, by kernel_rfl, rfl⟩
theorem AO : gG Tryz.prog 145 := ⟨_, Tryz.func145, by kernel_rfl, rfl⟩
theorem NH : gG Tryz.prog 146 := ⟨_, Tryz.func146, by kernel_rfl, rfl⟩
theorem NI : gG Tryz.prog 147 := ⟨_, Tryz.func147, by kernel_rfl, rfl⟩
theorem TY : gG Tryz.prog 164 := ⟨_, Tryz.func164, by kernel_rfl, rfl⟩
theorem QM : gG Tryz.prog 18 := ⟨_, Tryz.func18, by kernel_rfl, rfl⟩
theorem VP : gG Tryz.prog 19 := ⟨_, Tryz.func19, by kernel_rfl, rfl⟩
theorem VQ : gG Tryz.prog 20 := ⟨_, Tryz.func20, by kernel_rfl, rfl⟩
theorem QN : gG Tryz.prog 26 := ⟨_, Tryz.func26, by kernel_rfl, rfl⟩
theorem Jv : gG Tryz.prog 27 := ⟨_, Tryz.func27, by kernel_rfl, rfl⟩
theorem FR : gG Tryz.prog 28 := ⟨_, Tryz.func28, by kernel_rfl, rfl⟩
theorem VR : gG Tryz.prog 29 := ⟨_, Tryz.func29, by kernel_rfl, rfl⟩
theorem VS : gG Tryz.prog 30 := ⟨_, Tryz.func30, by kernel_rfl, rfl⟩
theorem VT : gG Tryz.prog 39 := ⟨_, Tryz.func39, by kernel_rfl, rfl⟩
theorem VU : gG Tryz.prog 40 := ⟨_, Tryz.func40, by kernel_rfl, rfl⟩
theorem VV : gG Tryz.prog 44 := ⟨_, Tryz.func44, by kernel_rfl, rfl⟩
theorem VW : gG Tryz.prog 45 := ⟨_, Tryz.func45, by kernel_rfl, rfl⟩
theorem VX : gG Tryz.prog 46 := ⟨_, Tryz.func46, by kernel_rfl, rfl⟩
theorem QO : gG Tryz.prog 47 := ⟨_, Tryz.func47, by kernel_rfl, rfl⟩
theorem VY : gG Tryz.prog 48 := ⟨_, Tryz.func48, by kernel_rfl, rfl⟩
theorem Jw : gG Tryz.prog 49 := ⟨_, Tryz.func49, by kernel_rfl, rfl⟩
theorem QP : gG Tryz.prog 50 := ⟨_, Tryz.func50, by kernel_rfl, rfl⟩
theorem xc : gG Tryz.prog 51 := ⟨_, Tryz.func51, by kernel_rfl, rfl⟩
theorem VZ : gG Tryz.prog 53 := ⟨_, Tryz.func53, by kernel_rfl, rfl⟩
theorem L6 : gG Tryz.prog 55 := ⟨_, Tryz.func55, by kernel_rfl, rfl⟩
theorem QQ : gG Tryz.prog 63 := ⟨_, Tryz.func63, by kernel_rfl, rfl⟩
theorem V3 : gG Tryz.prog 64 := ⟨_, Tryz.func64, by kernel_rfl, rfl⟩
theorem V4 : gG Tryz.prog 65 := ⟨_, Tryz.func65, by kernel_rfl, rfl⟩
theorem Jy : gG Tryz.prog 76 := ⟨_, Tryz.func76, by kernel_rfl, rfl⟩
theorem V5 : gG Tryz.prog 77 := ⟨_, Tryz.func77, by kernel_rfl, rfl⟩
theorem V6 : gG Tryz.prog 78 := ⟨_, Tryz.func78, by kernel_rfl, rfl⟩
theorem V7 : gG Tryz.prog 79 := ⟨_, Tryz.func79, by kernel_rfl, rfl⟩
theorem QR : gG Tryz.prog 80 := ⟨_, Tryz.func80, by kernel_rfl, rfl⟩
theorem L8 : gG Tryz.prog 81 := ⟨_, Tryz.func81, by kernel_rfl, rfl⟩
theorem QS : gG Tryz.prog 82 := ⟨_, Tryz.func82, by kernel_rfl, rfl⟩
theorem L9 : gG Tryz.prog 83 := ⟨_, Tryz.func83, by kernel_rfl, rfl⟩
theorem Ma : gG Tryz.prog 84 := ⟨_, Tryz.func84, by kernel_rfl, rfl⟩
theorem QT : gG Tryz.prog 85 := ⟨_, Tryz.func85, by kernel_rfl, rfl⟩
theorem V8 : gG Tryz.prog 86 := ⟨_, Tryz.func86, by kernel_rfl, rfl⟩
theorem QU : gG Tryz.prog 87 := ⟨_, Tryz.func87, by kernel_rfl, rfl⟩
theorem QV : gG Tryz.prog 88 := ⟨_, Tryz.func88, by kernel_rfl, rfl⟩
theorem QW : gG Tryz.prog 89 := ⟨_, Tryz.func89, by kernel_rfl, rfl⟩
theorem QX : gG Tryz.prog 90 := ⟨_, Tryz.func90, by kernel_rfl, rfl⟩
theorem V9 : gG Tryz.prog 91 := ⟨_, Tryz.func91, by kernel_rfl, rfl⟩
theorem OA : Qr Tryz.prog 156 := ⟨by kernel_rfl⟩
theorem fP : uR Tryz.prog 101 [(.bool (false)), (.int .i64 (0)), (.bool (false))] := ⟨⟨_, Tryz.underlying101, trivial⟩, by kernel_rfl⟩
theorem ll : uR Tryz.prog 113 [(.int .i64 (0)), (.int .i64 (0)), (.slice none 0 0)] := ⟨⟨_, Tryz.underlying113, trivial⟩, by kernel_rfl⟩
theorem nA : uR Tryz.prog 147 [(.int .i64 (0)), (.int .i64 (0)), (.slice none 0 0), (.slice none 0 0), (.slice none 0 0), (.slice none 0 0)] := ⟨⟨_, Tryz.underlying147, trivial⟩, by kernel_rfl⟩
theorem jI : uR Tryz.prog 160 [(.int .i64 (0)), (.int .i64 (0))] := ⟨⟨_, Tryz.underlying160, trivial⟩, by kernel_rfl⟩
theorem cZ : uR Tryz.prog 26 [(.slice none 0 0), (.slice none 0 0), (.int .i64 (0)), (.int .i64 (0))] := ⟨⟨_, Tryz.underlying26, trivial⟩, by kernel_rfl⟩
theorem iU : uR Tryz.prog 49 [(.int .i64 (0)), (.int .i64 (0)), (.slice none 0 0), (.int .i64 (0))] := ⟨⟨_, Tryz.underlying49, trivial⟩, by kernel_rfl⟩
theorem bT : uR Tryz.prog 51 [(.int .i64 (0)), (.int .i64 (0))] := ⟨⟨_, Tryz.underlying51, trivial⟩, by kernel_rfl⟩
theorem uS : uR Tryz.prog 57 [(.int .i64 (0)), (.int .i64 (0)), (.slice none 0 0)] := ⟨⟨_, Tryz.underlying57, trivial⟩, by kernel_rfl⟩
theorem oW : uR Tryz.prog 93 [(.int .i64 (0)), (.int .i64 (0)), (.int .i64 (0)), (.int .i64 (0)), (.slice none 0 0)] := ⟨⟨_, Tryz.underlying93, trivial⟩, by kernel_rfl⟩
theorem CF : MapOf Tryz.prog 125 (.bool (false)) := ⟨_, _, Tryz.underlying125, Tryz.underlying3, by kernel_rfl⟩
theorem ko : MapOf Tryz.prog 131 (bg []) := ⟨_, _, Tryz.underlying131, Tryz.underlying3, by kernel_rfl⟩
theorem NJ : MapOf Tryz.prog 89 (.int .i64 (0)) := ⟨_, _, Tryz.underlying89, Tryz.underlying3, by kernel_rfl⟩
theorem ow : One Tryz.prog 111 (.slice none 0 0) := ⟨⟨_, Tryz.underlying111, trivial⟩, by kernel_rfl, rfl⟩
theorem Dy : One Tryz.prog 125 (.map none) := ⟨⟨_, Tryz.underlying125, trivial⟩, by kernel_rfl, rfl⟩
theorem vU : One Tryz.prog 145 (.slice none 0 0) := ⟨⟨_, Tryz.underlying145, trivial⟩, by kernel_rfl, rfl⟩
theorem lZ : One Tryz.prog 153 (.slice none 0 0) := ⟨⟨_, Tryz.underlying153, trivial⟩, by kernel_rfl, rfl⟩
theorem yS : One Tryz.prog 159 .nilFunc := ⟨⟨_, Tryz.underlying159, trivial⟩, by kernel_rfl, rfl⟩
theorem Jz : One Tryz.prog 165 .nilFunc := ⟨⟨_, Tryz.underlying165, trivial⟩, by kernel_rfl, rfl⟩
theorem FT : One Tryz.prog 166 .nilFunc := ⟨⟨_, Tryz.underlying166, trivial⟩, by kernel_rfl, rfl⟩
theorem iR : One Tryz.prog 23 (.slice none 0 0) := ⟨⟨_, Tryz.underlying23, trivial⟩, by kernel_rfl, rfl⟩
theorem og : One Tryz.prog 24 (.slice none 0 0) := ⟨⟨_, Tryz.underlying24, trivial⟩, by kernel_rfl, rfl⟩
theorem uo : One Tryz.prog 27 (.slice none 0 0) := ⟨⟨_, Tryz.underlying27, trivial⟩, by kernel_rfl, rfl⟩
theorem bz : One Tryz.prog 3 (.int .i64 (0)) := ⟨⟨_, Tryz.underlying3, trivial⟩, by kernel_rfl, rfl⟩
theorem wI : One Tryz.prog 4 (.bool (false)) := ⟨⟨_, Tryz.underlying4, trivial⟩, by kernel_rfl, rfl⟩
theorem mr : One Tryz.prog 47 (.slice none 0 0) := ⟨⟨_, Tryz.underlying47, trivial⟩, by kernel_rfl, rfl⟩
theorem zq : One Tryz.prog 55 (.slice none 0 0) := ⟨⟨_, Tryz.underlying55, trivial⟩, by kernel_rfl, rfl⟩
theorem xJ : One Tryz.prog 67 (.slice none 0 0) := ⟨⟨_, Tryz.underlying67, trivial⟩, by kernel_rfl, rfl⟩
theorem NK : One Tryz.prog 89 (.map none) := ⟨⟨_, Tryz.underlying89, trivial⟩, by kernel_rfl, rfl⟩
theorem xK : One Tryz.prog 9 (bg []) := ⟨⟨_, Tryz.underlying9, trivial⟩, by kernel_rfl, rfl⟩
theorem NL : Nr Tryz.prog 51 := ⟨⟨_, _, Tryz.underlying51, by decide, by decide, rfl, rfl, Tryz.underlying3, Tryz.underlying3, by kernel_rfl, by kernel_rfl⟩, by kernel_rfl, by kernel_rfl⟩
theorem kr : SliceOf Tryz.prog 111 147 6 := ⟨Tryz.underlying111, by kernel_rfl⟩
theorem jQ : SliceOf Tryz.prog 145 160 2 := ⟨Tryz.underlying145, by kernel_rfl⟩
theorem eB : SliceOf Tryz.prog 153 9 1 := ⟨Tryz.underlying153, by kernel_rfl⟩
theorem FU : SliceOf Tryz.prog 204 111 1 := ⟨Tryz.underlying204, by kernel_rfl⟩
theorem jq : SliceOf Tryz.prog 22 57 3 := ⟨Tryz.underlying22, by kernel_rfl⟩
theorem dw : SliceOf Tryz.prog 23 49 4 := ⟨Tryz.underlying23, by kernel_rfl⟩
theorem eY : SliceOf Tryz.prog 24 47 1 := ⟨Tryz.underlying24, by kernel_rfl⟩
theorem dh : SliceOf Tryz.prog 27 3 1 := ⟨Tryz.underlying27, by kernel_rfl⟩
theorem bR : SliceOf Tryz.prog 47 51 2 := ⟨Tryz.underlying47, by kernel_rfl⟩
theorem jf : SliceOf Tryz.prog 55 93 5 := ⟨Tryz.underlying55, by kernel_rfl⟩
theorem il : SliceOf Tryz.prog 67 113 3 := ⟨Tryz.underlying67, by kernel_rfl⟩
theorem OB : Struct Tryz.prog 101 [(.bool (false)), (.int .i64 (0)), (.bool (false))] [(0, 1), (1, 1), (2, 1)] := ⟨by kernel_rfl, _, Tryz.underlying101, by kernel_rfl⟩
theorem OC : Struct Tryz.prog 113 [(.int .i64 (0)), (.int .i64 (0)), (.slice none 0 0)] [(0, 1), (1, 1), (2, 1)] := ⟨by kernel_rfl, _, Tryz.underlying113, by kernel_rfl⟩
theorem OD : Struct Tryz.prog 147 [(.int .i64 (0)), (.int .i64 (0)), (.slice none 0 0), (.slice none 0 0), (.slice none 0 0), (.slice none 0 0)] [(0, 1), (1, 1), (2, 1), (3, 1), (4, 1), (5, 1)] := ⟨by kernel_rfl, _, Tryz.underlying147, by kernel_rfl⟩
theorem xL : Struct Tryz.prog 160 [(.int .i64 (0)), (.int .i64 (0))] [(0, 1), (1, 1)] := ⟨by kernel_rfl, _, Tryz.underlying160, by kernel_rfl⟩
theorem vV : Struct Tryz.prog 26 [(.slice none 0 0), (.slice none 0 0), (.int .i64 (0)), (.int .i64 (0))] [(0, 1), (1, 1), (2, 1), (3, 1)] := ⟨by kernel_rfl, _, Tryz.underlying26, by kernel_rfl⟩
theorem FV : Struct Tryz.prog 49 [(.int .i64 (0)), (.int .i64 (0)), (.slice none 0 0), (.int .i64 (0))] [(0, 1), (1, 1), (2, 1), (3, 1)] := ⟨by kernel_rfl, _, Tryz.underlying49, by kernel_rfl⟩
theorem uq : Struct Tryz.prog 51 [(.int .i64 (0)), (.int .i64 (0))] [(0, 1), (1, 1)] := ⟨by kernel_rfl, _, Tryz.underlying51, by kernel_rfl⟩
theorem QY : Struct Tryz.prog 57 [(.int .i64 (0)), (.int .i64 (0)), (.slice none 0 0)] [(0, 1), (1, 1), (2, 1)] := ⟨by kernel_rfl, _, Tryz.underlying57, by kernel_rfl⟩
theorem lT : Struct Tryz.prog 93 [(.int .i64 (0)), (.int .i64 (0)), (.int .i64 (0)), (.int .i64 (0)), (.slice none 0 0)] [(0, 1), (1, 1), (2, 1), (3, 1), (4, 1)] := ⟨by kernel_rfl, _, Tryz.underlying93, by kernel_rfl⟩
theorem mixed : Tryz.prog.follows .mixedOrders = true := by kernel_rfl
theorem EW (w0 : World) (M : BS) (hM : ∀ b, M b → b < w0.heap.size) (hT : uh Tryz.prog 4 w0) (a : Str) (b : Str) (r : List Str) (hs : Jg a b = some r) :
    Calls Tryz.prog 101 #[bg a, bg b] w0 (fun e w' => Grow w0 w' ∧ ∃ u, e = .returned u ∧ fo ni w' M u r) :=
  Tz Tryz.strings_Split hM hT hs
theorem oZ (w0 : World) (M : BS) (hM : ∀ b, M b → b < w0.heap.size) (hT : uh Tryz.prog 4 w0) (a : Str) (r : Int × Bool) (hs : zN a = some r) :
    Calls Tryz.prog 102 #[bg a] w0 (fun e w' => Grow w0 w' ∧ ∃ u, e = .returned (.tuple #[.int .i64 r.1, u]) ∧ Kl u r.2) :=
  VA Tryz.strconv_Atoi_ok Tryz.strconv_Atoi_syntax_var Tryz.strconv_Atoi_range_var hT hs
def bC (a : Int) (b : Int) (c : Int) : Bool :=
  (decide ((b : Int) ≤ a) && decide ((a : Int) ≤ c))
theorem gH (w0 : World) (M : BS) (hM : ∀ b, M b → b < w0.heap.size) (a : Int) (b : Int) (c : Int) (r : Bool) (hs : bC a b c = r) :
    Calls Tryz.prog 51 #[(.int .i64 (a)), (.int .i64 (b)), (.int .i64 (c))] w0 (fun e w' => Grow w0 w' ∧ e = .returned (.bool r)) := by
 refine aQ (args := [(.int .i64 (a)), (.int .i64 (b)), (.int .i64 (c))]) Tryz.func51 rfl Tryz.ntmps51 (Nat.le_of_ble_eq_true rfl) ?_
 have h := SH.init hM
 refine ai (ag (ae (aj (v := (.bool (false))) rfl) (ah (aa (ai (ag (ae (au (v := (.int .i64 (b))) rfl) (ae (au (v := (.int .i64 (a))) rfl) (ae (Cn rfl rfl) (ae (au (v := (.bool (decide ((b : Int) ≤ a)))) rfl) (aD rfl rfl (fun q => au (v := (.int .i64 (a))) rfl) (aD rfl rfl (fun q => au (v := (.int .i64 (c))) rfl) (aD rfl rfl (fun q => Cn (dx q) (dx q)) (ae (fT rfl rfl lQ) (ae (aj (v := (.bool ((decide ((b : Int) ≤ a) && decide ((a : Int) ≤ c))))) rfl) (ah (aa (aI (bV (v := (.bool ((decide ((b : Int) ≤ a) && decide ((a : Int) ≤ c))))) Tryz.results51 rfl ?_)))))))))))))))))))
 obtain rfl := hs
 exact ⟨h.grown, rfl⟩
def nC (OE : Int → Option (Int × Bool)) (x40 : Int) : Option (Int × Bool) :=
  OE x40
def nD (F0 : List bG → Int → Option (Int × Bool)) (b : Int) (xy : List bG) (x32 : Int) (OE : Int → Option (Int × Bool)) : Option (Int × Bool) :=
  bif decide ((0 : Int) < (xy.length : Int)) then gQ (jB (b - 1)) ((F0 xy (b - 1)).bind fun xM => gQ (jB (x32 + xM.1)) (bif ((!xM.2) || decide ((30 : Int) < (x32 + xM.1))) then some (0, false) else nC OE (x32 + xM.1))) else nC OE x32
def nE (OG : Int → Option (Int × Bool)) (x32 : Int) : Option (Int × Bool) :=
  bif decide ((30 : Int) < x32) then some (0, false) else OG x32
def nG (F0 : List bG → Int → Option (Int × Bool)) (b : Int) (a : List bG) (x8 : bG) (x5 : Int) (OG : Int → Option (Int × Bool)) : Option (Int × Bool) :=
  gQ (jB (x5 + 1)) (each (nD F0 b) (nE OG) [x8.a, x8.b] (x5 + 1))
def nH (x5 : Int) : Option (Int × Bool) :=
  some (x5, true)
def vv (F0 : List bG → Int → Option (Int × Bool)) (a : List bG) (b : Int) : Option (Int × Bool) :=
  bif decide ((b : Int) < 1) then some (0, false) else each (nG F0 b a) nH a 0
def lU : Nat → List bG → Int → Option (Int × Bool)
  | 0 => fun _ _ => none
  | N + 1 => vv (lU N)
theorem Bh : ∀ (N : Nat) (w0 : World) (M : BS) (hM : ∀ b, M b → b < w0.heap.size) (va : Value) (a : List bG) (ha : gp eu w0 BE M va a) (b : Int) (r : Int × Bool) (hs : lU N a b = some r),
    Calls Tryz.prog 128 #[va, (.int .i64 (b))] w0 (fun e w' => Grow w0 w' ∧ e = .returned (.tuple #[.int .i64 r.1, .bool r.2])) := by
 intro N
 induction N with
 | zero => intro w0 M hM va a ha b r hs; cases hs
 | succ N ih =>
 intro w0 M hM va a ha b r hs
 replace hs : vv (lU N) a b = some r := hs
 generalize lU N = F0 at hs ih
 refine aQ (args := [va, (.int .i64 (b))]) Tryz.func128 rfl Tryz.ntmps128 (Nat.le_of_ble_eq_true rfl) ?_
 have h := SH.init hM
 replace h := h.fC 1 ha bJ
 have uu := ha.bZ
 refine ai (ag (ae (aj (v := (.int .i64 (0))) rfl) (ae (aj (v := (.bool (false))) rfl) (ah (aa (ai (ai (ag (ae (au (v := (.int .i64 (b))) rfl) (ae (dS rfl rfl) (ah (aa (aK hs rfl (fun c1 hs => ?_) (fun c1 hs => ?_))))))))))))))
 refine ai (ag (ae (aj (v := (.int .i64 (0))) rfl) (ae (aj (v := (.bool (false))) rfl) (ah (aa (aI (aC (Dm (v1 := (.int .i64 (0))) (v2 := (.bool (false))) Tryz.results128 rfl rfl ?_))))))))
 obtain rfl := Option.some.inj hs
 exact ⟨h.grown, rfl⟩
 refine aG (aa (ai (ag (ae (aj (v := (.int .i64 (0))) rfl) (ah (aa (ai (ai (ag (ae (au (v := va) rfl) (ae (bU kr rfl (h.iw 1 rfl)) (ae (au (v := (.int .i64 (0))) rfl) (ah (aa (aT (gL (σ := Nat × Int × Int) (inl [4, 5, 6, 8, 10, 11, 12, 17, 18, 19, 20, 21, 22, 23, 24, 25, 26, 27, 28, 29, 30, 31, 32, 33, 34, 35, 36, 37, 38, 39, 40, 41, 42, 43, 44, 45, 46, 47, 48, 49, 50, 51, 52, 53, 54, 55]) (fun ⟨k6, i7, x5⟩ => [(6, (.int .i64 (x5))), (17, (.int .i64 (i7)))]) (fun ⟨k6, i7, x5⟩ w => SH w0 M BE w (hset [(1, .sr eu va a)]) ∧ i7 = (k6 : Int) ∧ each (nG F0 b a) nH (a.drop k6) x5 = some r) (fun ⟨k6, i7, x5⟩ => a.length - k6) ⟨0, 0, 0⟩ ⟨rfl, rfl, trivial⟩ ?_ ?_))))))))))))))))
 exact ⟨h.cn _, rfl, hs⟩
 rintro ⟨k6, i7, x5⟩ w dD ⟨h, hik, hs⟩
 refine ai (ag ?_)
 refine ae (dS rfl rfl) (ah (aa ?_))
 refine ai (iy rfl (fun e11 => ?_) (fun e11 => ?_))
 refine aG (aa ?_)
 obtain ⟨x8, e12a, e12b⟩ := gy (hik ▸ e11)
 rw [e12b, dP] at hs
 generalize Yu : each (nG F0 b a) nH (a.drop (k6 + 1)) = OG at hs
 have e12r := gD ((h.iw 1 rfl)).bZ hik e11
 refine ai (aT (ai (ag ?_)))
 obtain ⟨b14, o15, cs16, h, r17, i13⟩ := h.yE 1 2 rfl kr rfl (iQ hik) (gB hik e12a)
 obtain ⟨P6, u20, u22, u24, rfl, g19, g21, g23, g25⟩ := yK r17
 replace h := h.cO 3 g19.up
 replace h := h.cO 4 g21.up.up
 replace h := h.cO 5 g23.up.up.up
 replace h := h.cO 6 g25.up.up.up.up
 refine ae (i13 _ _ _ _ _ _ _ _ _ rfl rfl) (ae (ji (k := 0) (vs := [(.int .i64 (x8.kind)), (.int .i64 (x8.n)), P6, u20, u22, u24]) h 2 rfl nA rfl rfl rfl (Nat.le_of_ble_eq_true rfl)) (bW h 7 nA fun w Wd h => dA (vs := [(.int .i64 (x8.kind)), (.int .i64 (x8.n)), P6, u20, u22, u24]) h 7 [(.int .i64 (x8.kind)), (.int .i64 (x8.n)), P6, u20, u22, u24] rfl nA rfl rfl rfl rfl rfl (ax rfl (ax rfl (ax (h.gF 3 rfl).one (ax (h.gF 4 rfl).one (ax (h.gF 5 rfl).one (ax (h.gF 6 rfl).one bu)))))) fun w h => ah (aa (ai (ag (ae (au (v := (.int .i64 (x5))) rfl) ?_))))))
 obtain ⟨a27, hs⟩ := bI hs
 refine ae (dC rfl rfl a27) (ae (aj (v := (.int .i64 ((x5 + 1)))) rfl) (ah (aa (ai (ai (ag (ae (ak xH rfl) (ae (aF h 7 rfl ow rfl rfl) (ae (ak xI rfl) (ae (aF h 7 rfl ow rfl rfl) (sZ (R := (qV eu)) (vs := [u22, u24]) (xs := [x8.a, x8.b]) h 8 Oz rfl rfl rfl ⟨(h.gF 5 rfl).rdc, ⟨(h.gF 6 rfl).rdc, trivial⟩⟩ rfl fun w u28 h => ae (bU FU rfl (h.ed 8 rfl)) (ae (au (v := (.int .i64 (0))) rfl) (ah (aa (aT ?_)))))))))))))))
 replace h := h.freeze 8 rfl
 refine gL (σ := Nat × Int × Int) (inl [4, 5, 6, 10, 11, 12, 29, 30, 31, 32, 33, 34, 35, 36, 37, 38, 39, 40, 41, 42, 43, 44, 45, 46, 47, 48, 49, 50, 51, 52]) (fun ⟨Te, i34, x32⟩ => [(6, (.int .i64 (x32))), (29, (.int .i64 (i34)))]) (fun ⟨Te, i34, x32⟩ w => SH w0 M BE w (hset [(1, .sr eu va a), (8, .rd (qV eu) u28 [x8.a, x8.b])]) ∧ i34 = (Te : Int) ∧ each (nD F0 b) (nE OG) ([x8.a, x8.b].drop Te) x32 = some r) (fun ⟨Te, i34, x32⟩ => [x8.a, x8.b].length - Te) ⟨0, 0, (x5 + 1)⟩ ⟨rfl, rfl, trivial⟩ ?_ ?_
 exact ⟨h.cn _, rfl, hs⟩
 rintro ⟨Te, i34, x32⟩ w dD ⟨h, hik, hs⟩
 refine ai (ag ?_)
 refine ae (dS rfl rfl) (ah (aa ?_))
 refine ai (iy rfl (fun e38 => ?_) (fun e38 => ?_))
 refine aG (aa ?_)
 obtain ⟨xy, e39a, e39b⟩ := gy (hik ▸ e38)
 rw [e39b, dP] at hs
 generalize Yv : each (nD F0 b) (nE OG) ([x8.a, x8.b].drop (Te + 1)) = OE at hs
 have e39r := gD ((h.lY 8 rfl)).bZ hik e38
 refine bY (σ := Int) (inl [4, 5, 6, 10, 11, 12, 31, 32, 33, 34, 35, 36, 37, 38, 39, 40, 41, 42, 43, 44, 45, 46, 47, 48, 49, 50, 51]) (fun x40 => [(6, (.int .i64 (x40)))]) (fun x40 w => SH w0 M BE w (hset [(1, .sr eu va a), (8, .rd (qV eu) u28 [x8.a, x8.b])]) ∧ nC OE x40 = some r) ?_ ?_
 rintro x40 w dD ⟨h, hs⟩
 refine ag (ae (dC rfl rfl e39r) (ae (au (v := (.int .i64 ((i34 + 1)))) rfl) (ah (az ?_))))
 subst Yv
 exact jN ⟨Te + 1, i34 + 1, x40⟩ ⟨h.cn _, by omega, hs⟩ (by have := of_decide_eq_true e38; dsimp only; omega)
 refine aT (ai (ag ?_))
 obtain ⟨b42, o43, cs44, h, r45, i41⟩ := h.Dl 8 9 rfl FU rfl (iQ hik) (gB hik e39a)
 obtain ⟨u46, rfl, g47⟩ := r45
 replace h := h.cO 10 g47.up
 refine ae (i41 _ _ _ _ _ _ _ _ _ rfl rfl) (ae (ek (k := 0) h 9 rfl ow rfl rfl) (ae (aj (v := u46) rfl) (ah (aa (ai (ag (ae (au (v := u46) rfl) (ae (bU kr rfl (h.lY 10 rfl)) (ae (jA rfl rfl) (ah (aa (aK hs rfl (fun c48 hs => ?_) (fun c48 hs => ?_)))))))))))))
 refine ai (ag (ae (au (v := u46) rfl) (ae (au (v := (.int .i64 (b))) rfl) ?_)))
 obtain ⟨a49, hs⟩ := bI hs
 refine ae (nW rfl rfl a49) ?_
 obtain ⟨xM, e51, hs⟩ := aP hs
 refine bA NG rfl rfl (ih _ _ h.lt u46 xy (h.lY 10 rfl) (b - 1) _ e51) ?_
 rintro _ w ⟨k52, rfl⟩
 refine ⟨_, rfl, ?_⟩
 replace h := h.grow k52
 refine ae (au (v := (.tuple #[(.int .i64 (xM.1)), (.bool (xM.2))])) rfl) (ae (bB rfl rfl) (ae (bB rfl rfl) (ae (aj (v := (.int .i64 (xM.1))) rfl) (ae (aj (v := (.bool (xM.2))) rfl) (ah (aa (ai (ag (ae (au (v := (.int .i64 (x32))) rfl) (ae (au (v := (.int .i64 (xM.1))) rfl) ?_))))))))))
 obtain ⟨a53, hs⟩ := bI hs
 refine ae (dC rfl rfl a53) (ae (aj (v := (.int .i64 ((x32 + xM.1)))) rfl) (ah (aa (ai (ag (ae (au (v := (.bool (xM.2))) rfl) (ae (gP rfl) (ae (au (v := (.bool ((!xM.2)))) rfl) (aD rfl rfl (fun q => au (v := (.int .i64 ((x32 + xM.1)))) rfl) (aD rfl rfl (fun q => jA (dx q) rfl) (ae (gK rfl rfl lQ) (ah (aa (aK hs rfl (fun c54 hs => ?_) (fun c54 hs => ?_)))))))))))))))
 refine ai (ag (ae (aj (v := (.int .i64 (0))) rfl) (ae (aj (v := (.bool (false))) rfl) (ah (aa (aI (aH (aC (aC (aH (aC (aH (aC (aC (aH (aC (Dm (v1 := (.int .i64 (0))) (v2 := (.bool (false))) Tryz.results128 rfl rfl ?_)))))))))))))))))
 obtain rfl := Option.some.inj hs
 exact ⟨h.grown, rfl⟩
 refine aG (aA (az ?_))
 exact bS (x32 + xM.1) ⟨h.cn _, hs⟩
 refine aG (aA (az ?_))
 exact bS x32 ⟨h.cn _, hs⟩
 rw [gz (hik ▸ e38), gU] at hs
 refine df (aO (aO (bF (aa (ai (ag (ae (au (v := (.int .i64 (x32))) rfl) (ae (jA rfl rfl) (ah (aa (aK hs rfl (fun c55 hs => ?_) (fun c55 hs => ?_))))))))))))
 refine ai (ag (ae (aj (v := (.int .i64 (0))) rfl) (ae (aj (v := (.bool (false))) rfl) (ah (aa (aI (aH (aC (aC (aH (aC (Dm (v1 := (.int .i64 (0))) (v2 := (.bool (false))) Tryz.results128 rfl rfl ?_))))))))))))
 obtain rfl := Option.some.inj hs
 exact ⟨h.grown, rfl⟩
 refine aG (aA (aa (ag (ae (dC rfl rfl e12r) (ae (au (v := (.int .i64 ((i7 + 1)))) rfl) (ah (az ?_)))))))
 subst Yu
 exact jN ⟨k6 + 1, i7 + 1, x32⟩ ⟨h.cn _, by omega, hs⟩ (by have := of_decide_eq_true e11; dsimp only; omega)
 rw [gz (hik ▸ e11), gU] at hs
 refine df (aO (aO (bF (aa (ai (ag (ae (au (v := (.int .i64 (x5))) rfl) (ae (aj (v := (.int .i64 (x5))) rfl) (ae (aj (v := (.bool (true))) rfl) (ah (aa (aI (Dm (v1 := (.int .i64 (x5))) (v2 := (.bool (true))) Tryz.results128 rfl rfl ?_)))))))))))))
 obtain rfl := Option.some.inj hs
 exact ⟨h.grown, rfl⟩
theorem jr (w0 : World) (M : BS) (hM : ∀ b, M b → b < w0.heap.size) (a : Str) (b : UInt8) (r : Bool) (hs : hasB a b = r) :
    Calls Tryz.prog 145 #[(bg a), (bg [b])] w0 (fun e w' => Grow w0 w' ∧ e = .returned (.bool r)) := by
  refine (Tryz.strings_Contains_one ⟨a.toArray⟩ b w0).mono ?_
  rintro e w' ⟨rfl, rfl⟩
  subst hs
  exact ⟨aS.refl _ _, by simp [hasB]⟩
def aY (a : Int) (b : Int) : Bool :=
  (decide ((0 : Int) ≤ a) && decide ((a : Int) < b))
theorem qw (w0 : World) (M : BS) (hM : ∀ b, M b → b < w0.heap.size) (a : Int) (b : Int) (r : Bool) (hs : aY a b = r) :
    Calls Tryz.prog 55 #[(.int .i64 (a)), (.int .i64 (b))] w0 (fun e w' => Grow w0 w' ∧ e = .returned (.bool r)) := by
 refine aQ (args := [(.int .i64 (a)), (.int .i64 (b))]) Tryz.func55 rfl Tryz.ntmps55 (Nat.le_of_ble_eq_true rfl) ?_
 have h := SH.init hM
 refine ai (ag (ae (aj (v := (.bool (false))) rfl) (ah (aa (ai (ag (ae (au (v := (.int .i64 (a))) rfl) (ae (oI rfl rfl) (ae (au (v := (.bool (decide ((0 : Int) ≤ a)))) rfl) (aD rfl rfl (fun q => au (v := (.int .i64 (a))) rfl) (aD rfl rfl (fun q => au (v := (.int .i64 (b))) rfl) (aD rfl rfl (fun q => dS (dx q) (dx q)) (ae (fT rfl rfl lQ) (ae (aj (v := (.bool ((decide ((0 : Int) ≤ a) && decide ((a : Int) < b))))) rfl) (ah (aa (aI (bV (v := (.bool ((decide ((0 : Int) ≤ a) && decide ((a : Int) < b))))) Tryz.results55 rfl ?_))))))))))))))))))
 obtain rfl := hs
 exact ⟨h.grown, rfl⟩
def eZ (a : Int) : Bool :=
  (bC a (-1000000000) 1000000000)
theorem BA (w0 : World) (M : BS) (hM : ∀ b, M b → b < w0.heap.size) (a : Int) (r : Bool) (hs : eZ a = r) :
    Calls Tryz.prog 53 #[(.int .i64 (a))] w0 (fun e w' => Grow w0 w' ∧ e = .returned (.bool r)) := by
 refine aQ (args := [(.int .i64 (a))]) Tryz.func53 rfl Tryz.ntmps53 (Nat.le_of_ble_eq_true rfl) ?_
 have h := SH.init hM
 refine ai (ag (ae (aj (v := (.bool (false))) rfl) (ah (aa (ai (ag (ae (au (v := (.int .i64 (a))) rfl) (bA xc rfl rfl (gH _ _ h.lt a (-1000000000) 1000000000 _ rfl) ?_))))))))
 rintro _ w ⟨k1, rfl⟩
 refine ⟨_, rfl, ?_⟩
 replace h := h.grow k1
 refine ae (aj (v := (.bool ((bC a (-1000000000) 1000000000)))) rfl) (ah (aa (aI (bV (v := (.bool ((bC a (-1000000000) 1000000000)))) Tryz.results53 rfl ?_))))
 obtain rfl := hs
 exact ⟨h.grown, rfl⟩
def fJ (x2 : Bool) : Int :=
  bif (!x2) then 3 else 0
def dY (a : Tok) (b : List eX) (c : Int) : Int :=
  bif decide ((a.kind : Int) = 1) then fJ (eZ a.n) else bif decide ((a.kind : Int) = 2) then fJ (aY a.n c) else bif decide ((a.kind : Int) = 3) then fJ (bC a.n 1 5) else bif decide ((a.kind : Int) = 4) then fJ (bC a.n 0 3) else bif decide ((a.kind : Int) = 5) then fJ (bC a.n 1 4) else bif decide ((a.kind : Int) = 6) then bif (!(aY a.n (b.length : Int))) then 5 else fJ true else 4
theorem rT (w0 : World) (M : BS) (hM : ∀ b, M b → b < w0.heap.size) (a : Tok) (vb : Value) (b : List eX) (hb : gp iH w0 BE M vb b) (c : Int) (r : Int) (hs : dY a b c = r) :
    Calls Tryz.prog 107 #[(.agg #[(.int .i64 (a.kind)), (.int .i64 (a.n))]), vb, (.int .i64 (c))] w0 (fun e w' => Grow w0 w' ∧ e = .returned (.int .i64 r)) := by
 refine aQ (args := [(.agg #[(.int .i64 (a.kind)), (.int .i64 (a.n))]), vb, (.int .i64 (c))]) Tryz.func107 rfl Tryz.ntmps107 (Nat.le_of_ble_eq_true rfl) ?_
 have h := SH.init hM
 replace h := h.fC 1 hb bJ
 have JA := hb.bZ
 refine ai (ag (nX (cs := [(.int .i64 (a.kind)), (.int .i64 (a.n))]) h 2 rfl rfl fun w b1 h => ae (aj (v := (.int .i64 (0))) rfl) (ah (aa (ai (ag (ae (aj (v := (.bool (false))) rfl) (ah (aa (bY (σ := Bool) (inl [6, 7, 8, 9, 10, 11, 12, 13, 14, 15, 16, 17, 18, 19, 20, 21, 22, 23, 24, 25, 26, 27, 28, 29, 30, 31, 32, 33, 34, 35, 36, 37, 38, 39, 40, 41, 42, 43]) (fun x2 => [(7, (.bool (x2)))]) (fun x2 w => SH w0 M BE w (hset []) ∧ fJ x2 = r) ?_ ?_))))))))))
 rintro x2 w dD ⟨h, hs⟩
 refine ai (ai (ag (ae (au (v := (.bool (x2))) rfl) (ae (gP rfl) (ah (aa (aK hs rfl (fun c3 hs => ?_) (fun c3 hs => ?_))))))))
 refine ai (ag (ae (aj (v := (.int .i64 (3))) rfl) (ah (aa (aI (aC (bV (v := (.int .i64 (3))) Tryz.results107 rfl ?_)))))))
 obtain rfl := hs
 exact ⟨h.grown, rfl⟩
 refine aG (aa (ai (ag (ae (aj (v := (.int .i64 (0))) rfl) (ah (aa (aI (bV (v := (.int .i64 (0))) Tryz.results107 rfl ?_))))))))
 obtain rfl := hs
 exact ⟨h.grown, rfl⟩
 refine ai (ag (ae (ak Cz rfl) (ae (aF h 2 rfl bz rfl rfl) (ah (aa (aT (ai (ag (ae (bH rfl rfl) (ae (aj (v := (.bool (decide ((a.kind : Int) = 1)))) rfl) (ah (aa (aK hs rfl (fun c4 hs => ?_) (fun c4 hs => ?_))))))))))))))
 refine ag (ae (ak mq rfl) (ae (aF h 2 rfl bz rfl rfl) (bA VZ rfl rfl (BA _ _ h.lt a.n _ rfl) ?_)))
 rintro _ w ⟨k5, rfl⟩
 refine ⟨_, rfl, ?_⟩
 replace h := h.grow k5
 refine ae (aj (v := (.bool ((eZ a.n)))) rfl) (ah (aA (az ?_)))
 exact bS (eZ a.n) ⟨h.cn _, hs⟩
 refine ai (ag (ae (bH rfl rfl) (ae (aj (v := (.bool (decide ((a.kind : Int) = 2)))) rfl) (ah (aa (aK hs rfl (fun c6 hs => ?_) (fun c6 hs => ?_)))))))
 refine ag (ae (ak mq rfl) (ae (aF h 2 rfl bz rfl rfl) (ae (au (v := (.int .i64 (c))) rfl) (bA L6 rfl rfl (qw _ _ h.lt a.n c _ rfl) ?_))))
 rintro _ w ⟨k7, rfl⟩
 refine ⟨_, rfl, ?_⟩
 replace h := h.grow k7
 refine ae (aj (v := (.bool ((aY a.n c)))) rfl) (ah (aA (az ?_)))
 exact bS (aY a.n c) ⟨h.cn _, hs⟩
 refine ai (ag (ae (bH rfl rfl) (ae (aj (v := (.bool (decide ((a.kind : Int) = 3)))) rfl) (ah (aa (aK hs rfl (fun c8 hs => ?_) (fun c8 hs => ?_)))))))
 refine ag (ae (ak mq rfl) (ae (aF h 2 rfl bz rfl rfl) (bA xc rfl rfl (gH _ _ h.lt a.n 1 5 _ rfl) ?_)))
 rintro _ w ⟨k9, rfl⟩
 refine ⟨_, rfl, ?_⟩
 replace h := h.grow k9
 refine ae (aj (v := (.bool ((bC a.n 1 5)))) rfl) (ah (aA (az ?_)))
 exact bS (bC a.n 1 5) ⟨h.cn _, hs⟩
 refine ai (ag (ae (bH rfl rfl) (ae (aj (v := (.bool (decide ((a.kind : Int) = 4)))) rfl) (ah (aa (aK hs rfl (fun c10 hs => ?_) (fun c10 hs => ?_)))))))
 refine ag (ae (ak mq rfl) (ae (aF h 2 rfl bz rfl rfl) (bA xc rfl rfl (gH _ _ h.lt a.n 0 3 _ rfl) ?_)))
 rintro _ w ⟨k11, rfl⟩
 refine ⟨_, rfl, ?_⟩
 replace h := h.grow k11
 refine ae (aj (v := (.bool ((bC a.n 0 3)))) rfl) (ah (aA (az ?_)))
 exact bS (bC a.n 0 3) ⟨h.cn _, hs⟩
 refine ai (ag (ae (bH rfl rfl) (ae (aj (v := (.bool (decide ((a.kind : Int) = 5)))) rfl) (ah (aa (aK hs rfl (fun c12 hs => ?_) (fun c12 hs => ?_)))))))
 refine ag (ae (ak mq rfl) (ae (aF h 2 rfl bz rfl rfl) (bA xc rfl rfl (gH _ _ h.lt a.n 1 4 _ rfl) ?_)))
 rintro _ w ⟨k13, rfl⟩
 refine ⟨_, rfl, ?_⟩
 replace h := h.grow k13
 refine ae (aj (v := (.bool ((bC a.n 1 4)))) rfl) (ah (aA (az ?_)))
 exact bS (bC a.n 1 4) ⟨h.cn _, hs⟩
 refine ai (ag (ae (bH rfl rfl) (ae (aj (v := (.bool (decide ((a.kind : Int) = 6)))) rfl) (ah (aa (aK hs rfl (fun c14 hs => ?_) (fun c14 hs => ?_)))))))
 refine ai (ai (ag (ae (ak mq rfl) (ae (aF h 2 rfl bz rfl rfl) (ae (au (v := vb) rfl) (ae (bU il rfl (h.iw 1 rfl)) (bA L6 rfl rfl (qw _ _ h.lt a.n (b.length : Int) _ rfl) ?_)))))))
 rintro _ w ⟨k15, rfl⟩
 refine ⟨_, rfl, ?_⟩
 replace h := h.grow k15
 refine ae (gP rfl) (ah (aa (aK hs rfl (fun c16 hs => ?_) (fun c16 hs => ?_))))
 refine ai (ag (ae (aj (v := (.int .i64 (5))) rfl) (ah (aa (aI (aC (aH (aC (bV (v := (.int .i64 (5))) Tryz.results107 rfl ?_)))))))))
 obtain rfl := hs
 exact ⟨h.grown, rfl⟩
 refine aG (aa (ag (ae (aj (v := (.bool (true))) rfl) (ah (aA (az ?_))))))
 exact bS true ⟨h.cn _, hs⟩
 refine ai (ag (ae (aj (v := (.int .i64 (4))) rfl) (ah (aa (aI (aH (aC (bV (v := (.int .i64 (4))) Tryz.results107 rfl ?_))))))))
 obtain rfl := hs
 exact ⟨h.grown, rfl⟩
def qb (a : Tok) (b : List eX) : Option Int :=
  bif decide ((a.kind : Int) = 3) then some 2 else bif decide ((a.kind : Int) = 4) then some 1 else bif decide ((a.kind : Int) = 6) then (idx b a.n).bind fun x5 => some x5.params else some 0
theorem qP (w0 : World) (M : BS) (hM : ∀ b, M b → b < w0.heap.size) (a : Tok) (vb : Value) (b : List eX) (hb : gp iH w0 BE M vb b) (r : Int) (hs : qb a b = some r) :
    Calls Tryz.prog 108 #[(.agg #[(.int .i64 (a.kind)), (.int .i64 (a.n))]), vb] w0 (fun e w' => Grow w0 w' ∧ e = .returned (.int .i64 r)) := by
 refine aQ (args := [(.agg #[(.int .i64 (a.kind)), (.int .i64 (a.n))]), vb]) Tryz.func108 rfl Tryz.ntmps108 (Nat.le_of_ble_eq_true rfl) ?_
 have h := SH.init hM
 replace h := h.fC 1 hb bJ
 have JA := hb.bZ
 refine ai (ag (nX (cs := [(.int .i64 (a.kind)), (.int .i64 (a.n))]) h 2 rfl rfl fun w b1 h => ae (aj (v := (.int .i64 (0))) rfl) (ah (aa (ai (ai (ag (ae (ak Cz rfl) (ae (aF h 2 rfl bz rfl rfl) (ah (aa (aT (ai (ag (ae (bH rfl rfl) (ae (aj (v := (.bool (decide ((a.kind : Int) = 3)))) rfl) (ah (aa (aK hs rfl (fun c2 hs => ?_) (fun c2 hs => ?_))))))))))))))))))))
 refine ai (ag (ae (aj (v := (.int .i64 (2))) rfl) (ah (aa (aI (aH (aC (bV (v := (.int .i64 (2))) Tryz.results108 rfl ?_))))))))
 obtain rfl := Option.some.inj hs
 exact ⟨h.grown, rfl⟩
 refine ai (ag (ae (bH rfl rfl) (ae (aj (v := (.bool (decide ((a.kind : Int) = 4)))) rfl) (ah (aa (aK hs rfl (fun c3 hs => ?_) (fun c3 hs => ?_)))))))
 refine ai (ag (ae (aj (v := (.int .i64 (1))) rfl) (ah (aa (aI (aH (aC (bV (v := (.int .i64 (1))) Tryz.results108 rfl ?_))))))))
 obtain rfl := Option.some.inj hs
 exact ⟨h.grown, rfl⟩
 refine ai (ag (ae (bH rfl rfl) (ae (aj (v := (.bool (decide ((a.kind : Int) = 6)))) rfl) (ah (aa (aK hs rfl (fun c4 hs => ?_) (fun c4 hs => ?_)))))))
 refine ai (ag (ae (au (v := vb) rfl) (ae (ak mq rfl) (ae (aF h 2 rfl bz rfl rfl) ?_))))
 obtain ⟨x5, e6, hs⟩ := aP hs
 obtain ⟨b8, o9, cs10, h, r11, i7⟩ := h.yE 1 3 rfl il rfl (aJ e6).1 (aJ e6).2
 obtain ⟨Tf, rfl, g13⟩ := qY r11
 replace h := h.cO 4 g13.up
 refine ae (i7 _ _ _ _ _ _ _ _ _ rfl rfl) (ae (ak uk rfl) (ae (ek (k := 0) h 3 rfl bz rfl rfl) (ae (aj (v := (.int .i64 (x5.params))) rfl) (ah (aa (aI (aH (aC (bV (v := (.int .i64 (x5.params))) Tryz.results108 rfl ?_)))))))))
 obtain rfl := Option.some.inj hs
 exact ⟨h.grown, rfl⟩
 refine aG (aA (aa (ai (ag (ae (aj (v := (.int .i64 (0))) rfl) (ah (aa (aI (bV (v := (.int .i64 (0))) Tryz.results108 rfl ?_)))))))))
 obtain rfl := Option.some.inj hs
 exact ⟨h.grown, rfl⟩
def rU (a : List Int) (s : Int × Int) (QZ : Int × Int → Option Int) : Option Int :=
  match s with | (Dj, l9) => bif decide ((l9 : Int) < (a.length : Int)) then (idx a l9).bind fun x25 => gQ (jB (l9 + 1)) (QZ ((max Dj x25), (l9 + 1))) else some Dj
def slices_Max_int (N : Nat) (a : List Int) : Option Int :=
  bif decide (((a.length : Int) : Int) < 1) then none else (idx a 0).bind fun x2 => again (rU a) N (x2, 1)
theorem Dz (N : Nat) (w0 : World) (M : BS) (hM : ∀ b, M b → b < w0.heap.size) (va : Value) (a : List Int) (ha : gp fH w0 BE M va a) (r : Int) (hs : slices_Max_int N a = some r) :
    Calls Tryz.prog 164 #[va] w0 (fun e w' => Grow w0 w' ∧ e = .returned (.int .i64 r)) := by
 refine aQ (args := [va]) Tryz.func164 rfl Tryz.ntmps164 (Nat.le_of_ble_eq_true rfl) ?_
 have h := SH.init hM
 replace h := h.fC 1 ha bJ
 have uu := ha.bZ
 refine ai (ag (ae (aj (v := (.int .i64 (0))) rfl) (ah (aa (ai (ai (ag (ae (au (v := va) rfl) (ae (bU dh rfl (h.iw 1 rfl)) (ae (dS rfl rfl) (ah (aa (aK hs rfl (fun c1 hs => ?_) (fun c1 hs => ?_))))))))))))))
 cases hs
 refine aG (aa (ai (ag (ae (au (v := va) rfl) ?_))))
 obtain ⟨x2, e3, hs⟩ := aP hs
 obtain ⟨b5, o6, cs7, h, r8, i4⟩ := h.yE 1 2 rfl dh rfl (aJ e3).1 (aJ e3).2
 obtain rfl := r8
 refine ae (i4 _ _ _ _ _ _ _ _ _ rfl rfl) (ae (ek (k := 0) h 2 rfl bz rfl rfl) (ae (aj (v := (.int .i64 (x2))) rfl) (ah (aa (ai (ai (ag (ae (aj (v := (.int .i64 (1))) rfl) (ah (aa (aT (gL (σ := Nat × Int × Int) (inl [3, 4, 12, 13, 14, 15, 16, 17, 18, 19, 20, 21, 22, 23]) (fun ⟨m20, Dj, l9⟩ => [(3, (.int .i64 (Dj))), (4, (.int .i64 (l9)))]) (fun ⟨m20, Dj, l9⟩ w => SH w0 M BE w (hset [(1, .sr fH va a)]) ∧ again (rU a) m20 (Dj, l9) = some r) (fun ⟨m20, Dj, l9⟩ => m20) ⟨N, x2, 1⟩ ⟨rfl, rfl, trivial⟩ ?_ ?_))))))))))))
 exact ⟨h.cn _, hs⟩
 rintro ⟨m20, Dj, l9⟩ w dD ⟨h, hs⟩
 obtain ⟨Yw, m20e, m20h⟩ := qW hs
 subst m20e
 replace hs := m20h
 generalize Q0 : again (rU a) Yw = QZ at hs
 refine ai (ai (ag (ae (au (v := (.int .i64 (l9))) rfl) (ae (au (v := va) rfl) (ae (bU dh rfl (h.iw 1 rfl)) (ae (dS rfl rfl) (ah (aa (aK hs rfl (fun c24 hs => ?_) (fun c24 hs => ?_))))))))))
 refine aG (aa (ai (aT (ag (ae (au (v := (.int .i64 (Dj))) rfl) (ae (au (v := va) rfl) (ae (au (v := (.int .i64 (l9))) rfl) ?_)))))))
 obtain ⟨x25, e26, hs⟩ := aP hs
 obtain ⟨b28, o29, cs30, h, r31, i27⟩ := h.yE 1 3 rfl dh rfl (aJ e26).1 (aJ e26).2
 obtain rfl := r31
 refine ae (i27 _ _ _ _ _ _ _ _ _ rfl rfl) (ae (ek (k := 0) h 3 rfl bz rfl rfl) (ae (Yh rfl rfl) (ae (aj (v := (.int .i64 ((max Dj x25)))) rfl) (ah (aA (aa (ag (ae (au (v := (.int .i64 (l9))) rfl) ?_))))))))
 obtain ⟨a32, hs⟩ := bI hs
 refine ae (dC rfl rfl a32) (ae (aj (v := (.int .i64 ((l9 + 1)))) rfl) (ah (az ?_)))
 subst Q0
 exact jN ⟨Yw, (max Dj x25), (l9 + 1)⟩ ⟨h.cn _, hs⟩
 refine df (aO (aO (bF (aa (ai (ag (ae (au (v := (.int .i64 (Dj))) rfl) (ae (aj (v := (.int .i64 (Dj))) rfl) (ah (aa (aI (bV (v := (.int .i64 (Dj))) Tryz.results164 rfl ?_))))))))))))
 obtain rfl := Option.some.inj hs
 exact ⟨h.grown, rfl⟩
def ku (x29 : Tok) (b : List eX) (CG : List Int → Option Int) (x66 : List Int) : Option Int :=
  (qb x29 b).bind fun tX => gQ (Room 8 x66 [tX]) (CG (x66 ++ [tX]))
def kv (AP : List Int) (OH : List Int → Option Int) (i28 : Int) (x29 : Tok) (b : List eX) (CG : List Int → Option Int) (XD : Bool) : Option Int :=
  bif XD then gQ (jB ((AP.length : Int) - 1)) ((sub? AP 0 ((AP.length : Int) - 1)).bind fun x60 => OH (AP.take (((AP.length : Int) - 1)).toNat)) else bif (decide ((0 : Int) < i28) && decide (((AP.length : Int) : Int) = 0)) then some 4 else bif decide ((0 : Int) < i28) then gQ (jB ((AP.length : Int) - 1)) ((idx AP ((AP.length : Int) - 1)).bind fun Yx => gQ (jB (Yx - 1)) (ku x29 b CG (AP.set (((AP.length : Int) - 1)).toNat (Yx - 1)))) else ku x29 b CG AP
def ky (i28 : Int) (x29 : Tok) (b : List eX) (CG : List Int → Option Int) (AP : List Int) (OH : List Int → Option Int) : Option Int :=
  bif decide ((0 : Int) < (AP.length : Int)) then gQ (jB ((AP.length : Int) - 1)) ((idx AP ((AP.length : Int) - 1)).bind fun x89 => kv AP OH i28 x29 b CG (decide ((x89 : Int) = 0))) else kv AP OH i28 x29 b CG false
def kz (DC : Bool) : Option Int :=
  bif DC then some 4 else some 0
def kC (N : Nat) (b : List eX) (c : Int) (i28 : Int) (x29 : Tok) (OI : List Int) (CG : List Int → Option Int) : Option Int :=
  bif decide (((dY x29 b c) : Int) ≠ 0) then some (dY x29 b c) else again (ky i28 x29 b CG) N OI
def kD (N : Nat) (a : List Tok) (OI : List Int) : Option Int :=
  bif decide (((a.length : Int) : Int) = 0) then kz true else gQ (Room 8 [0] OI) ((slices_Max_int N ([0] ++ OI)).bind fun TZ => kz (decide ((0 : Int) < TZ)))
def kE (x4 : eX) (s : Unit) (EX : Unit → Option Int) : Option Int :=
  bif (!(bC x4.params 0 3)) then some 3 else EX ()
def kF (N : Nat) (b : List eX) (c : Int) (a : List Tok) (s : Unit) : Option Int :=
  eO (kC N b c) (kD N a) 0 a []
def oz (N : Nat) (a : List Tok) (b : List eX) (c : Int) : Option Int :=
  bif decide ((24 : Int) < (a.length : Int)) then some 2 else each kE (kF N b c a) b ()
theorem qZ (N : Nat) (w0 : World) (M : BS) (hM : ∀ b, M b → b < w0.heap.size) (va : Value) (a : List Tok) (ha : gp jU w0 BE M va a) (vb : Value) (b : List eX) (hb : gp iH w0 BE M vb b) (c : Int) (r : Int) (hs : oz N a b c = some r) :
    Calls Tryz.prog 146 #[va, vb, (.int .i64 (c))] w0 (fun e w' => Grow w0 w' ∧ e = .returned (.int .i64 r)) := by
 refine aQ (args := [va, vb, (.int .i64 (c))]) Tryz.func146 rfl Tryz.ntmps146 (Nat.le_of_ble_eq_true rfl) ?_
 have h := SH.init hM
 replace h := h.fC 1 ha bJ
 replace h := h.fC 2 hb (di bJ)
 have uu := ha.bZ
 have JA := hb.bZ
 refine ai (ag (ae (aj (v := (.int .i64 (0))) rfl) (ah (aa (ai (ai (ag (ae (au (v := va) rfl) (ae (bU jQ rfl (h.iw 1 rfl)) (ae (jA rfl rfl) (ah (aa (aK hs rfl (fun c1 hs => ?_) (fun c1 hs => ?_))))))))))))))
 refine ai (ag (ae (aj (v := (.int .i64 (2))) rfl) (ah (aa (aI (aC (bV (v := (.int .i64 (2))) Tryz.results146 rfl ?_)))))))
 obtain rfl := Option.some.inj hs
 exact ⟨h.grown, rfl⟩
 refine aG (aa (ai (ai (ag (ae (au (v := vb) rfl) (ae (bU il rfl (h.iw 2 rfl)) (ae (au (v := (.int .i64 (0))) rfl) (ah (aa (aT (gL (σ := Nat × Int) (inl [6, 8, 18, 19, 20, 21, 22, 23, 24, 25, 26]) (fun ⟨k2, i3⟩ => [(18, (.int .i64 (i3)))]) (fun ⟨k2, i3⟩ w => SH w0 M BE w (hset [(1, .sr jU va a), (2, .sr iH vb b)]) ∧ i3 = (k2 : Int) ∧ each kE (kF N b c a) (b.drop k2) () = some r) (fun ⟨k2, i3⟩ => b.length - k2) ⟨0, 0⟩ ⟨rfl, trivial⟩ ?_ ?_)))))))))))
 exact ⟨h.cn _, rfl, hs⟩
 rintro ⟨k2, i3⟩ w dD ⟨h, hik, hs⟩
 refine ai (ag ?_)
 refine ae (dS rfl rfl) (ah (aa ?_))
 refine ai (iy rfl (fun e7 => ?_) (fun e7 => ?_))
 refine aG (aa ?_)
 obtain ⟨x4, We, Wh⟩ := gy (hik ▸ e7)
 rw [Wh, dP] at hs
 generalize FW : each kE (kF N b c a) (b.drop (k2 + 1)) = EX at hs
 have Q3 := gD ((h.iw 2 rfl)).bZ hik e7
 refine ai (aT (ai (ag ?_)))
 obtain ⟨b10, o11, Wi, h, Wj, i9⟩ := h.yE 2 3 rfl il rfl (iQ hik) (gB hik We)
 obtain ⟨Ii, rfl, g15⟩ := qY Wj
 replace h := h.cO 4 g15.up
 refine ae (i9 _ _ _ _ _ _ _ _ _ rfl rfl) (ae (ji (k := 0) (vs := [(.int .i64 (x4.params)), (.int .i64 (x4.locals)), Ii]) h 3 rfl ll rfl rfl rfl (Nat.le_of_ble_eq_true rfl)) (bW h 5 ll fun w b16 h => dA (vs := [(.int .i64 (x4.params)), (.int .i64 (x4.locals)), Ii]) h 5 [(.int .i64 (x4.params)), (.int .i64 (x4.locals)), Ii] rfl ll rfl rfl rfl rfl rfl (ax rfl (ax rfl (ax (h.gF 4 rfl).one bu))) fun w h => ah (aa (ai (ag (ae (ak uk rfl) (ae (aF h 5 rfl bz rfl rfl) (bA xc rfl rfl (gH _ _ h.lt x4.params 0 3 _ rfl) ?_))))))))
 rintro _ w ⟨k17, rfl⟩
 refine ⟨_, rfl, ?_⟩
 replace h := h.grow k17
 refine ae (gP rfl) (ah (aa (aK hs rfl (fun c18 hs => ?_) (fun c18 hs => ?_))))
 refine ai (ag (ae (aj (v := (.int .i64 (3))) rfl) (ah (aa (aI (aH (aC (aC (aH (aC (bV (v := (.int .i64 (3))) Tryz.results146 rfl ?_)))))))))))
 obtain rfl := Option.some.inj hs
 exact ⟨h.grown, rfl⟩
 refine aG (aA (aa (ag (ae (dC rfl rfl Q3) (ae (au (v := (.int .i64 ((i3 + 1)))) rfl) (ah (az ?_)))))))
 subst FW
 exact jN ⟨k2 + 1, i3 + 1⟩ ⟨h.cn _, by omega, hs⟩ (by have := of_decide_eq_true e7; dsimp only; omega)
 rw [gz (hik ▸ e7), gU] at hs
 refine df (aO (aO (bF (aa (ai (ag (ae (aj (v := (.slice none 0 0)) rfl) (ah (aa (ai (ai (ag (ae (au (v := va) rfl) (ae (bU jQ rfl (h.iw 1 rfl)) (ae (au (v := (.int .i64 (0))) rfl) (ah (aa (aT ?_))))))))))))))))))
 replace h := h.yF (R := fH) (E := 3) 9
 refine gL (σ := Nat × Int × Value × List Int) (inl [6, 9, 10, 11, 12, 29, 30, 31, 32, 33, 34, 35, 36, 37, 38, 39, 40, 41, 42, 43, 44, 45, 46, 47, 48, 49, 50, 51, 52, 53, 54, 55, 56, 57, 58, 59, 60, 61, 62, 63, 64, 65, 66, 67, 68, 69, 70, 71, 72, 73, 74, 75, 76, 77, 78, 79, 80, 81]) (fun ⟨k27, i28, v25, OI⟩ => [(9, v25), (29, (.int .i64 (i28)))]) (fun ⟨k27, i28, v25, OI⟩ w => SH w0 M BE w (hset [(1, .sr jU va a), (2, .sr iH vb b), (9, .own fH 3 v25 OI)]) ∧ i28 = (k27 : Int) ∧ eO (kC N b c) (kD N a) i28 (a.drop k27) OI = some r) (fun ⟨k27, i28, v25, OI⟩ => a.length - k27) ⟨0, 0, (.slice none 0 0), []⟩ ⟨rfl, rfl, trivial⟩ ?_ ?_
 exact ⟨h.cn _, rfl, hs⟩
 rintro ⟨k27, i28, v25, OI⟩ w dD ⟨h, hik, hs⟩
 refine ai (ag ?_)
 refine ae (dS rfl rfl) (ah (aa ?_))
 refine ai (iy rfl (fun e32 => ?_) (fun e32 => ?_))
 refine aG (aa ?_)
 obtain ⟨x29, e33a, e33b⟩ := gy (hik ▸ e32)
 rw [e33b, iG] at hs
 generalize Yy : eO (kC N b c) (kD N a) (i28 + 1) (a.drop (k27 + 1)) = CG at hs
 have e33r := gD ((h.iw 1 rfl)).bZ hik e32
 refine ai (aT (ai (ag (ae (au (v := (.int .i64 (i28))) rfl) ?_))))
 obtain ⟨b35, o36, cs37, h, r38, i34⟩ := h.yE 1 10 rfl jQ rfl (iQ hik) (gB hik e33a)
 obtain rfl := r38
 refine ae (i34 _ _ _ _ _ _ _ _ _ rfl rfl) (ae (ji (k := 0) (vs := [(.int .i64 (x29.kind)), (.int .i64 (x29.n))]) h 10 rfl jI rfl rfl rfl (Nat.le_of_ble_eq_true rfl)) (bW h 11 jI fun w b39 h => ae (aj (v := (.int .i64 (i28))) rfl) (dA (vs := [(.int .i64 (x29.kind)), (.int .i64 (x29.n))]) h 11 [(.int .i64 (x29.kind)), (.int .i64 (x29.n))] rfl jI rfl rfl rfl rfl rfl (ax rfl (ax rfl bu)) fun w h => ah (aa (ai (ai (ag (ae (dz (vs := [(.int .i64 (x29.kind)), (.int .i64 (x29.n))]) h 11 rfl jI rfl rfl rfl) (ae (au (v := vb) rfl) (ae (au (v := (.int .i64 (c))) rfl) (bA NC rfl rfl (rT _ _ h.lt x29 vb b (h.iw 2 rfl) c _ rfl) ?_)))))))))))
 rintro _ w ⟨k40, rfl⟩
 refine ⟨_, rfl, ?_⟩
 replace h := h.grow k40
 refine ae (aj (v := (.int .i64 ((dY x29 b c)))) rfl) (ah (aa (ai (ag (ae (au (v := (.int .i64 ((dY x29 b c)))) rfl) (ae (iA rfl rfl) (ah (aa (aK hs rfl (fun Wl hs => ?_) (fun Wl hs => ?_))))))))))
 refine ai (ag (ae (au (v := (.int .i64 ((dY x29 b c)))) rfl) (ae (aj (v := (.int .i64 ((dY x29 b c)))) rfl) (ah (aa (aI (aC (aH (aC (aC (aH (aC (bV (v := (.int .i64 ((dY x29 b c)))) Tryz.results146 rfl ?_)))))))))))))
 obtain rfl := Option.some.inj hs
 exact ⟨h.grown, rfl⟩
 refine aG (aa (ai (aT (gL (σ := Nat × Value × List Int) (inl [9, 41, 42, 43, 44, 45, 46, 47, 48, 49, 50, 51, 52, 53, 54, 55, 56, 57]) (fun ⟨Yz, v48, AP⟩ => [(9, v48)]) (fun ⟨Yz, v48, AP⟩ w => SH w0 M BE w (hset [(1, .sr jU va a), (2, .sr iH vb b), (9, .own fH 3 v48 AP), (11, .blk b39 [(.int .i64 (x29.kind)), (.int .i64 (x29.n))])]) ∧ again (ky i28 x29 b CG) Yz AP = some r) (fun ⟨Yz, v48, AP⟩ => Yz) ⟨N, v25, OI⟩ ⟨rfl, trivial⟩ ?_ ?_))))
 exact ⟨h.cn _, hs⟩
 rintro ⟨Yz, v48, AP⟩ w dD ⟨h, hs⟩
 obtain ⟨YA, m53e, m53h⟩ := qW hs
 subst m53e
 replace hs := m53h
 generalize YB : again (ky i28 x29 b CG) YA = OH at hs
 refine ai (bY (σ := Bool) (inl [41, 42, 43, 44, 45, 46, 47, 48, 49, 50, 51, 52]) (fun XD => [(52, (.bool (XD)))]) (fun XD w => SH w0 M BE w (hset [(1, .sr jU va a), (2, .sr iH vb b), (9, .own fH 3 v48 AP), (11, .blk b39 [(.int .i64 (x29.kind)), (.int .i64 (x29.n))])]) ∧ kv AP OH i28 x29 b CG XD = some r) ?_ ?_)
 rintro XD w dD ⟨h, hs⟩
 refine aK hs rfl (fun c58 hs => ?_) (fun c58 hs => ?_)
 refine aG (aa (aT (ag (ae (au (v := v48) rfl) (ae (au (v := v48) rfl) (ae (bU dh rfl (h.ed 9 rfl)) ?_))))))
 obtain ⟨a59, hs⟩ := bI hs
 refine ae (nW rfl rfl a59) ?_
 obtain ⟨x60, e61, hs⟩ := aP hs
 obtain ⟨e64, e64a, e64b, e64c⟩ := Qe e61
 obtain ⟨XE, h, i63⟩ := h.Yg 9 rfl dh rfl e64b e64c
 refine ae (i63 _ _ _ _ _ _ _ _ _ _ rfl (.inl ⟨rfl, rfl⟩) (.inr (congrArg some rfl))) (ae (aj (v := XE) rfl) (ah (aA (az ?_))))
 subst YB
 exact jN ⟨YA, XE, (AP.take (((AP.length : Int) - 1)).toNat)⟩ ⟨h.cn _, hs⟩
 refine df (aO (aO (bF (aa (ai (ai (ag (ae (au (v := (.int .i64 (i28))) rfl) (ae (jA rfl rfl) (ae (au (v := (.bool (decide ((0 : Int) < i28)))) rfl) (aD rfl rfl (fun q => au (v := v48) rfl) (aD rfl rfl (fun q => bU dh (dx q) (h.ed 9 rfl)) (aD rfl rfl (fun q => bH (dx q) rfl) (ae (fT rfl rfl lQ) (ah (aa (aK hs rfl (fun Bi hs => ?_) (fun Bi hs => ?_))))))))))))))))))
 refine ai (ag (ae (aj (v := (.int .i64 (4))) rfl) (ah (aa (aI (aC (aH (aC (aC (aH (aC (bV (v := (.int .i64 (4))) Tryz.results146 rfl ?_))))))))))))
 obtain rfl := Option.some.inj hs
 exact ⟨h.grown, rfl⟩
 refine aG (aa (bY (σ := List Int) (inl [65, 66, 67, 68, 69, 70, 71, 72, 73, 74]) (fun x66 => []) (fun x66 w => SH w0 M BE w (hset [(1, .sr jU va a), (2, .sr iH vb b), (9, .own fH 3 v48 x66), (11, .blk b39 [(.int .i64 (x29.kind)), (.int .i64 (x29.n))])]) ∧ ku x29 b CG x66 = some r) ?_ ?_))
 rintro x66 w dD ⟨h, hs⟩
 refine ag (ae (au (v := v48) rfl) (ae (dz (vs := [(.int .i64 (x29.kind)), (.int .i64 (x29.n))]) h 11 rfl jI rfl rfl rfl) (ae (au (v := vb) rfl) ?_)))
 obtain ⟨tX, T9, hs⟩ := aP hs
 refine bA Jr rfl rfl (qP _ _ h.lt x29 vb b (h.iw 2 rfl) _ T9) ?_
 rintro _ w ⟨k69, rfl⟩
 refine ⟨_, rfl, ?_⟩
 replace h := h.grow k69
 refine sZ (R := fH) (vs := [(.int .i64 (tX))]) (xs := [tX]) h 13 kg rfl rfl rfl ⟨rfl, trivial⟩ rfl fun w u70 h => ?_
 obtain ⟨a71, hs⟩ := bI hs
 refine mf (R := fH) (m := [tX]) h 9 rfl (h.ed 13 rfl) kg rfl rfl rfl a71.1 a71.2 fun w u72 h => ae (aj (v := u72) rfl) (ah (aA (aa (ag (ae (dC rfl rfl e33r) (ae (au (v := (.int .i64 ((i28 + 1)))) rfl) (ah (az ?_))))))))
 subst Yy
 exact jN ⟨k27 + 1, i28 + 1, u72, (x66 ++ [tX])⟩ ⟨h.cn _, by omega, hs⟩ (by have := of_decide_eq_true e32; dsimp only; omega)
 refine ai (ag (ae (au (v := (.int .i64 (i28))) rfl) (ae (jA rfl rfl) (ah (aa (aK hs rfl (fun c73 hs => ?_) (fun c73 hs => ?_)))))))
 refine ag (ae (au (v := v48) rfl) (ae (au (v := v48) rfl) (ae (bU dh rfl (h.ed 9 rfl)) ?_)))
 obtain ⟨a74, hs⟩ := bI hs
 refine ae (nW rfl rfl a74) ?_
 obtain ⟨Yx, XF, hs⟩ := aP hs
 obtain ⟨b78, q79, i77⟩ := h.vN 9 rfl dh rfl (aJ XF).1 (aJ XF).2
 refine ae (i77 _ _ _ _ _ _ _ _ _ rfl rfl) ?_
 obtain ⟨cs80, m81, r82⟩ := h.yx 9 rfl q79 (aJ XF).2
 obtain rfl := r82
 refine ae (oJ (k := 0) m81 bz rfl rfl) ?_
 obtain ⟨a83, hs⟩ := bI hs
 refine ae (nW rfl rfl a83) ?_
 obtain ⟨G5, q86, i84⟩ := h.vN 9 rfl dh rfl (aJ XF).1 (aJ XF).2
 refine ae (i84 _ _ _ _ _ _ _ _ _ rfl rfl) (HZ (off := 0) (a' := (Yx - 1)) h 9 rfl q86 rfl (aJ XF).2 bz rfl rfl rfl rfl (fun cs hq => set1 rfl hq rfl rfl) fun w h => ah (az ?_))
 exact bS (AP.set (((AP.length : Int) - 1)).toNat (Yx - 1)) ⟨h.cn _, hs⟩
 refine aG (az ?_)
 exact bS AP ⟨h.cn _, hs⟩
 refine ag (ae (au (v := v48) rfl) (ae (bU dh rfl (h.ed 9 rfl)) (ae (jA rfl rfl) (ae (au (v := (.bool (decide ((0 : Int) < (AP.length : Int))))) rfl) (jH (b := decide ((0 : Int) < (AP.length : Int))) hs (fun c87 hs => ?_) (fun c87 hs => ?_))))))
 refine dn rfl (congrArg Value.bool c87) (ae (au (v := v48) rfl) (dn rfl (congrArg Value.bool c87) (ae (au (v := v48) rfl) (dn rfl (congrArg Value.bool c87) (ae (bU dh rfl (h.ed 9 rfl)) (dn rfl (congrArg Value.bool c87) ?_))))))
 obtain ⟨a88, hs⟩ := bI hs
 refine ae (nW rfl rfl a88) (dn rfl (congrArg Value.bool c87) ?_)
 obtain ⟨x89, YC, hs⟩ := aP hs
 obtain ⟨b92, q93, i91⟩ := h.vN 9 rfl dh rfl (aJ YC).1 (aJ YC).2
 refine ae (i91 _ _ _ _ _ _ _ _ _ rfl rfl) (dn rfl (congrArg Value.bool c87) ?_)
 obtain ⟨cs94, m95, r96⟩ := h.yx 9 rfl q93 (aJ YC).2
 obtain rfl := r96
 refine ae (oJ (k := 0) m95 bz rfl rfl) (dn rfl (congrArg Value.bool c87) (ae (bH rfl rfl) (ae (dL (b := true) (v := (.bool (decide ((x89 : Int) = 0)))) (congrArg Value.bool c87) rfl) (ah (az ?_)))))
 exact bS (decide ((x89 : Int) = 0)) ⟨h.cn _, hs⟩
 refine bE (b' := false) rfl (congrArg Value.bool c87) rfl (bE (b' := false) rfl (congrArg Value.bool c87) rfl (bE (b' := false) rfl (congrArg Value.bool c87) rfl (bE (b' := false) rfl (congrArg Value.bool c87) rfl (bE (b' := false) rfl (congrArg Value.bool c87) rfl (bE (b' := false) rfl (congrArg Value.bool c87) rfl (bE (b' := false) rfl (congrArg Value.bool c87) rfl (ae (dL (b := false) (v := (.bool (false))) (congrArg Value.bool c87) rfl) (ah (az ?_)))))))))
 exact bS false ⟨h.cn _, hs⟩
 rw [gz (hik ▸ e32), mh] at hs
 refine df (aO (aO (bF (aa (ai (bY (σ := Bool) (inl [82, 83, 84, 85, 86, 87, 88, 89, 90, 91]) (fun DC => [(91, (.bool (DC)))]) (fun DC w => SH w0 M BE w (hset []) ∧ kz DC = some r) ?_ ?_))))))
 rintro DC w dD ⟨h, hs⟩
 refine aK hs rfl (fun c98 hs => ?_) (fun c98 hs => ?_)
 refine ai (ag (ae (aj (v := (.int .i64 (4))) rfl) (ah (aa (aI (aC (bV (v := (.int .i64 (4))) Tryz.results146 rfl ?_)))))))
 obtain rfl := Option.some.inj hs
 exact ⟨h.grown, rfl⟩
 refine aG (aa (ai (ag (ae (aj (v := (.int .i64 (0))) rfl) (ah (aa (aI (bV (v := (.int .i64 (0))) Tryz.results146 rfl ?_))))))))
 obtain rfl := Option.some.inj hs
 exact ⟨h.grown, rfl⟩
 refine ag (ae (au (v := va) rfl) (ae (bU jQ rfl (h.iw 1 rfl)) (ae (bH rfl rfl) (ae (au (v := (.bool (decide (((a.length : Int) : Int) = 0)))) rfl) (jH (b := decide (((a.length : Int) : Int) = 0)) hs (fun OJ hs => ?_) (fun OJ hs => ?_))))))
 refine bE (b' := true) rfl (congrArg Value.bool OJ) rfl (bE (b' := true) rfl (congrArg Value.bool OJ) rfl (bE (b' := true) rfl (congrArg Value.bool OJ) rfl (bE (b' := true) rfl (congrArg Value.bool OJ) rfl (bE (b' := true) rfl (congrArg Value.bool OJ) rfl (ae (dL (b := true) (v := (.bool (true))) (congrArg Value.bool OJ) rfl) (ah (az ?_)))))))
 exact bS true ⟨h.cn _, hs⟩
 refine dn rfl (congrArg Value.bool OJ) (sZ (R := fH) (vs := [(.int .i64 (0))]) (xs := [0]) h 14 kg rfl rfl rfl ⟨rfl, trivial⟩ rfl fun w Wm h => dn rfl (congrArg Value.bool OJ) (ae (au (v := v25) rfl) (dn rfl (congrArg Value.bool OJ) ?_)))
 obtain ⟨Ua, hs⟩ := bI hs
 refine mf (R := fH) (m := OI) h 14 rfl (h.ed 9 rfl) kg rfl rfl rfl Ua.1 Ua.2 fun w u102 h => dn rfl (congrArg Value.bool OJ) ?_
 obtain ⟨TZ, Ub, hs⟩ := aP hs
 refine bA TY rfl rfl (Dz N _ _ h.lt u102 ([0] ++ OI) (h.ed 14 rfl) _ Ub) ?_
 rintro _ w ⟨k105, rfl⟩
 refine ⟨_, rfl, ?_⟩
 replace h := h.grow k105
 refine dn rfl (congrArg Value.bool OJ) (ae (jA rfl rfl) (ae (dL (b := false) (v := (.bool (decide ((0 : Int) < TZ)))) (congrArg Value.bool OJ) rfl) (ah (az ?_))))
 exact bS (decide ((0 : Int) < TZ)) ⟨h.cn _, hs⟩
def bD (jG : Str) : Bool :=
  (hasB jG 78)
theorem uw (w0 : World) (M : BS) (hM : ∀ b, M b → b < w0.heap.size) (jG : Str) (q0 : Nat) (hq0 : ∃ E, w0.heap[q0]? = some (.cells #[(bg jG)] E (0, 0))) (r : Bool) (hs : bD jG = r) :
    Calls Tryz.prog 144 #[(bg [78]), (.pointer (some ⟨q0, 0, none⟩))] w0 (fun e w' => Grow w0 w' ∧ e = .returned (.bool r)) := by
 refine aQ (args := [(bg [78]), (.pointer (some ⟨q0, 0, none⟩))]) Tryz.func144 rfl Tryz.ntmps144 (Nat.le_of_ble_eq_true rfl) ?_
 have h := SH.init hM
 replace h := h.H6 1 (cs := [(bg jG)]) hq0 bJ
 refine ai (ag (ae (aj (v := (.bool (false))) rfl) (ah (aa (ai (ag (ae (ek (k := 0) h 1 rfl xK rfl rfl) (ae (au (v := (bg [78])) rfl) (bA AO rfl rfl (jr _ _ h.lt jG 78 _ rfl) ?_)))))))))
 rintro _ w ⟨k1, rfl⟩
 refine ⟨_, rfl, ?_⟩
 replace h := h.grow k1
 refine ae (aj (v := (.bool ((hasB jG 78)))) rfl) (ah (aa (aI (bV (v := (.bool ((hasB jG 78)))) Tryz.results144 rfl ?_))))
 obtain rfl := hs
 exact ⟨h.grown, rfl⟩
def bN (jG : Str) : Bool :=
  (hasB jG 69)
theorem uy (w0 : World) (M : BS) (hM : ∀ b, M b → b < w0.heap.size) (jG : Str) (q0 : Nat) (hq0 : ∃ E, w0.heap[q0]? = some (.cells #[(bg jG)] E (0, 0))) (r : Bool) (hs : bN jG = r) :
    Calls Tryz.prog 144 #[(bg [69]), (.pointer (some ⟨q0, 0, none⟩))] w0 (fun e w' => Grow w0 w' ∧ e = .returned (.bool r)) := by
 refine aQ (args := [(bg [69]), (.pointer (some ⟨q0, 0, none⟩))]) Tryz.func144 rfl Tryz.ntmps144 (Nat.le_of_ble_eq_true rfl) ?_
 have h := SH.init hM
 replace h := h.H6 1 (cs := [(bg jG)]) hq0 bJ
 refine ai (ag (ae (aj (v := (.bool (false))) rfl) (ah (aa (ai (ag (ae (ek (k := 0) h 1 rfl xK rfl rfl) (ae (au (v := (bg [69])) rfl) (bA AO rfl rfl (jr _ _ h.lt jG 69 _ rfl) ?_)))))))))
 rintro _ w ⟨k1, rfl⟩
 refine ⟨_, rfl, ?_⟩
 replace h := h.grow k1
 refine ae (aj (v := (.bool ((hasB jG 69)))) rfl) (ah (aa (aI (bV (v := (.bool ((hasB jG 69)))) Tryz.results144 rfl ?_))))
 obtain rfl := hs
 exact ⟨h.grown, rfl⟩
def cB (jG : Str) : Bool :=
  (hasB jG 70)
theorem nu (w0 : World) (M : BS) (hM : ∀ b, M b → b < w0.heap.size) (jG : Str) (q0 : Nat) (hq0 : ∃ E, w0.heap[q0]? = some (.cells #[(bg jG)] E (0, 0))) (r : Bool) (hs : cB jG = r) :
    Calls Tryz.prog 144 #[(bg [70]), (.pointer (some ⟨q0, 0, none⟩))] w0 (fun e w' => Grow w0 w' ∧ e = .returned (.bool r)) := by
 refine aQ (args := [(bg [70]), (.pointer (some ⟨q0, 0, none⟩))]) Tryz.func144 rfl Tryz.ntmps144 (Nat.le_of_ble_eq_true rfl) ?_
 have h := SH.init hM
 replace h := h.H6 1 (cs := [(bg jG)]) hq0 bJ
 refine ai (ag (ae (aj (v := (.bool (false))) rfl) (ah (aa (ai (ag (ae (ek (k := 0) h 1 rfl xK rfl rfl) (ae (au (v := (bg [70])) rfl) (bA AO rfl rfl (jr _ _ h.lt jG 70 _ rfl) ?_)))))))))
 rintro _ w ⟨k1, rfl⟩
 refine ⟨_, rfl, ?_⟩
 replace h := h.grow k1
 refine ae (aj (v := (.bool ((hasB jG 70)))) rfl) (ah (aa (aI (bV (v := (.bool ((hasB jG 70)))) Tryz.results144 rfl ?_))))
 obtain rfl := hs
 exact ⟨h.grown, rfl⟩
def fu (jG : Str) : Bool :=
  (hasB jG 65)
theorem uz (w0 : World) (M : BS) (hM : ∀ b, M b → b < w0.heap.size) (jG : Str) (q0 : Nat) (hq0 : ∃ E, w0.heap[q0]? = some (.cells #[(bg jG)] E (0, 0))) (r : Bool) (hs : fu jG = r) :
    Calls Tryz.prog 144 #[(bg [65]), (.pointer (some ⟨q0, 0, none⟩))] w0 (fun e w' => Grow w0 w' ∧ e = .returned (.bool r)) := by
 refine aQ (args := [(bg [65]), (.pointer (some ⟨q0, 0, none⟩))]) Tryz.func144 rfl Tryz.ntmps144 (Nat.le_of_ble_eq_true rfl) ?_
 have h := SH.init hM
 replace h := h.H6 1 (cs := [(bg jG)]) hq0 bJ
 refine ai (ag (ae (aj (v := (.bool (false))) rfl) (ah (aa (ai (ag (ae (ek (k := 0) h 1 rfl xK rfl rfl) (ae (au (v := (bg [65])) rfl) (bA AO rfl rfl (jr _ _ h.lt jG 65 _ rfl) ?_)))))))))
 rintro _ w ⟨k1, rfl⟩
 refine ⟨_, rfl, ?_⟩
 replace h := h.grow k1
 refine ae (aj (v := (.bool ((hasB jG 65)))) rfl) (ah (aa (aI (bV (v := (.bool ((hasB jG 65)))) Tryz.results144 rfl ?_))))
 obtain rfl := hs
 exact ⟨h.grown, rfl⟩
def oO (jG : Str) : Bool :=
  (hasB jG 66)
theorem uA (w0 : World) (M : BS) (hM : ∀ b, M b → b < w0.heap.size) (jG : Str) (q0 : Nat) (hq0 : ∃ E, w0.heap[q0]? = some (.cells #[(bg jG)] E (0, 0))) (r : Bool) (hs : oO jG = r) :
    Calls Tryz.prog 144 #[(bg [66]), (.pointer (some ⟨q0, 0, none⟩))] w0 (fun e w' => Grow w0 w' ∧ e = .returned (.bool r)) := by
 refine aQ (args := [(bg [66]), (.pointer (some ⟨q0, 0, none⟩))]) Tryz.func144 rfl Tryz.ntmps144 (Nat.le_of_ble_eq_true rfl) ?_
 have h := SH.init hM
 replace h := h.H6 1 (cs := [(bg jG)]) hq0 bJ
 refine ai (ag (ae (aj (v := (.bool (false))) rfl) (ah (aa (ai (ag (ae (ek (k := 0) h 1 rfl xK rfl rfl) (ae (au (v := (bg [66])) rfl) (bA AO rfl rfl (jr _ _ h.lt jG 66 _ rfl) ?_)))))))))
 rintro _ w ⟨k1, rfl⟩
 refine ⟨_, rfl, ?_⟩
 replace h := h.grow k1
 refine ae (aj (v := (.bool ((hasB jG 66)))) rfl) (ah (aa (aI (bV (v := (.bool ((hasB jG 66)))) Tryz.results144 rfl ?_))))
 obtain rfl := hs
 exact ⟨h.grown, rfl⟩
def kG (Hd : Unit → Option Int) (rV : Int) : Option Int :=
  bif decide ((rV : Int) ≠ 0) then some rV else Hd ()
def kH (F0 : List bG → List eX → Int → Option Int) (x3 : bG) (b : List eX) (c : Int) (Hd : Unit → Option Int) (xy : Int) : Option Int :=
  bif decide ((xy : Int) = 0) then (F0 x3.b b c).bind fun y39 => kG Hd y39 else kG Hd xy
def kI (F0 : List bG → List eX → Int → Option Int) (x3 : bG) (a : List bG) (b : List eX) (c : Int) (Hd : Unit → Option Int) (x34 : Int) : Option Int :=
  bif decide ((x34 : Int) = 0) then (F0 x3.a b c).bind fun yT => kH F0 x3 b c Hd yT else kH F0 x3 b c Hd x34
def kJ (N : Nat) (F0 : List bG → List eX → Int → Option Int) (x3 : bG) (b : List eX) (c : Int) (a : List bG) (Hd : Unit → Option Int) (xN : Int) : Option Int :=
  bif (decide ((xN : Int) = 0) && (cB ((lk x3.kind ([(1, [78, 69]), (2, [78, 69, 70]), (3, [69]), (4, []), (5, [69]), (6, [69, 65, 66]), (7, [69, 65]), (8, [69])] : List (Int × Str))).getD []))) then (oz N x3.f b c).bind fun sQ => kI F0 x3 a b c Hd sQ else kI F0 x3 a b c Hd xN
def kK (N : Nat) (F0 : List bG → List eX → Int → Option Int) (a : List bG) (b : List eX) (c : Int) (x3 : bG) (s : Unit) (Hd : Unit → Option Int) : Option Int :=
  bif ((((((!(lk x3.kind ([(1, [78, 69]), (2, [78, 69, 70]), (3, [69]), (4, []), (5, [69]), (6, [69, 65, 66]), (7, [69, 65]), (8, [69])] : List (Int × Str))).isSome) || (decide ((x3.n : Int) ≠ 0) && (!(bD ((lk x3.kind ([(1, [78, 69]), (2, [78, 69, 70]), (3, [69]), (4, []), (5, [69]), (6, [69, 65, 66]), (7, [69, 65]), (8, [69])] : List (Int × Str))).getD []))))) || (decide ((0 : Int) < (x3.e.length : Int)) && (!(bN ((lk x3.kind ([(1, [78, 69]), (2, [78, 69, 70]), (3, [69]), (4, []), (5, [69]), (6, [69, 65, 66]), (7, [69, 65]), (8, [69])] : List (Int × Str))).getD []))))) || (decide ((0 : Int) < (x3.f.length : Int)) && (!(cB ((lk x3.kind ([(1, [78, 69]), (2, [78, 69, 70]), (3, [69]), (4, []), (5, [69]), (6, [69, 65, 66]), (7, [69, 65]), (8, [69])] : List (Int × Str))).getD []))))) || (decide ((0 : Int) < (x3.a.length : Int)) && (!(fu ((lk x3.kind ([(1, [78, 69]), (2, [78, 69, 70]), (3, [69]), (4, []), (5, [69]), (6, [69, 65, 66]), (7, [69, 65]), (8, [69])] : List (Int × Str))).getD []))))) || (decide ((0 : Int) < (x3.b.length : Int)) && (!(oO ((lk x3.kind ([(1, [78, 69]), (2, [78, 69, 70]), (3, [69]), (4, []), (5, [69]), (6, [69, 65, 66]), (7, [69, 65]), (8, [69])] : List (Int × Str))).getD []))))) then some 4 else bif ((decide ((x3.kind : Int) = 1) && (!(aY x3.n c))) || (decide ((x3.kind : Int) = 2) && (!(bC x3.n 0 3)))) then some 3 else bif (hasB ((lk x3.kind ([(1, [78, 69]), (2, [78, 69, 70]), (3, [69]), (4, []), (5, [69]), (6, [69, 65, 66]), (7, [69, 65]), (8, [69])] : List (Int × Str))).getD []) 69) then (oz N x3.e b c).bind fun Ky => kJ N F0 x3 b c a Hd Ky else kJ N F0 x3 b c a Hd 0
def kL (s : Unit) : Option Int :=
  some 0
def qD (N : Nat) (F0 : List bG → List eX → Int → Option Int) (a : List bG) (b : List eX) (c : Int) : Option Int :=
  each (kK N F0 a b c) kL a ()
def iV : Nat → List bG → List eX → Int → Option Int
  | 0 => fun _ _ _ => none
  | N + 1 => qD N (iV N)
theorem xe : ∀ (N : Nat) (w0 : World) (M : BS) (hM : ∀ b, M b → b < w0.heap.size) (va : Value) (a : List bG) (ha : gp eu w0 BE M va a) (vb : Value) (b : List eX) (hb : gp iH w0 BE M vb b) (c : Int) (r : Int) (hs : iV N a b c = some r),
    Calls Tryz.prog 129 #[va, vb, (.int .i64 (c))] w0 (fun e w' => Grow w0 w' ∧ e = .returned (.int .i64 r)) := by
 intro N
 induction N with
 | zero => intro w0 M hM va a ha vb b hb c r hs; cases hs
 | succ N ih =>
 intro w0 M hM va a ha vb b hb c r hs
 replace hs : qD N (iV N) a b c = some r := hs
 generalize iV N = F0 at hs ih
 refine aQ (args := [va, vb, (.int .i64 (c))]) Tryz.func129 rfl Tryz.ntmps129 (Nat.le_of_ble_eq_true rfl) ?_
 have h := SH.init hM
 replace h := h.fC 1 ha bJ
 replace h := h.fC 2 hb (di bJ)
 have uu := ha.bZ
 have JA := hb.bZ
 refine ai (ag (ae (aj (v := (.int .i64 (0))) rfl) (ah (aa (ai (ai (ag (ae (au (v := va) rfl) (ae (bU kr rfl (h.iw 1 rfl)) (ae (au (v := (.int .i64 (0))) rfl) (ah (aa (aT (gL (σ := Nat × Int) (inl [6, 8, 9, 10, 11, 12, 15, 16, 17, 18, 19, 20, 21, 22, 23, 24, 25, 26, 27, 28, 29, 30, 31, 32, 33, 34, 35, 36, 37, 38, 39, 40, 41, 42, 43, 44, 45, 46, 47, 48, 49, 50, 51, 52, 53, 54, 55, 56, 57, 58, 59, 60, 61, 62, 63, 64, 65, 66, 67, 68, 69, 70, 71, 72, 73, 74, 75, 76, 77, 78, 79, 80, 81, 82, 83, 84, 85, 86, 87, 88, 89, 90, 91, 92, 93, 94, 95, 96, 97, 98, 99, 100, 101, 102, 103, 104, 105, 106, 107, 108, 109, 110, 111, 112, 113, 114, 115, 116, 117, 118, 119, 120, 121, 122, 123, 124, 125, 126, 127, 128, 129, 130, 131, 132, 133, 134, 135, 136, 137, 138, 139, 140]) (fun ⟨k1, i2⟩ => [(15, (.int .i64 (i2)))]) (fun ⟨k1, i2⟩ w => SH w0 M BE w (hset [(1, .sr eu va a), (2, .sr iH vb b)]) ∧ i2 = (k1 : Int) ∧ each (kK N F0 a b c) kL (a.drop k1) () = some r) (fun ⟨k1, i2⟩ => a.length - k1) ⟨0, 0⟩ ⟨rfl, trivial⟩ ?_ ?_))))))))))))))
 exact ⟨h.cn _, rfl, hs⟩
 rintro ⟨k1, i2⟩ w dD ⟨h, hik, hs⟩
 refine ai (ag ?_)
 refine ae (dS rfl rfl) (ah (aa ?_))
 refine ai (iy rfl (fun e6 => ?_) (fun e6 => ?_))
 refine aG (aa ?_)
 obtain ⟨x3, e7a, YD⟩ := gy (hik ▸ e6)
 rw [YD, dP] at hs
 generalize Wn : each (kK N F0 a b c) kL (a.drop (k1 + 1)) = Hd at hs
 have e7r := gD ((h.iw 1 rfl)).bZ hik e6
 refine ai (aT (ai (ag ?_)))
 obtain ⟨b9, o10, cs11, h, YE, i8⟩ := h.yE 1 3 rfl kr rfl (iQ hik) (gB hik e7a)
 obtain ⟨LA, EY, Fj, Kz, rfl, g14, g16, g18, g20⟩ := yK YE
 replace h := h.cO 4 g14.up
 replace h := h.cO 5 g16.up.up
 replace h := h.cO 6 g18.up.up.up
 replace h := h.cO 7 g20.up.up.up.up
 refine ae (i8 _ _ _ _ _ _ _ _ _ rfl rfl) (ae (ji (k := 0) (vs := [(.int .i64 (x3.kind)), (.int .i64 (x3.n)), LA, EY, Fj, Kz]) h 3 rfl nA rfl rfl rfl (Nat.le_of_ble_eq_true rfl)) (bW h 8 nA fun w He h => dA (vs := [(.int .i64 (x3.kind)), (.int .i64 (x3.n)), LA, EY, Fj, Kz]) h 8 [(.int .i64 (x3.kind)), (.int .i64 (x3.n)), LA, EY, Fj, Kz] rfl nA rfl rfl rfl rfl rfl (ax rfl (ax rfl (ax (h.gF 4 rfl).one (ax (h.gF 5 rfl).one (ax (h.gF 6 rfl).one (ax (h.gF 7 rfl).one bu)))))) fun w h => ah (aa (ai (ag (Av h 9 fun w b22 h => mi (oK := [(1, (bg [78, 69]))]) h 9 rfl ko rfl rfl rfl rfl fun w h => mi (oK := [(1, (bg [78, 69])), (2, (bg [78, 69, 70]))]) h 9 rfl ko rfl rfl rfl rfl fun w h => mi (oK := [(1, (bg [78, 69])), (2, (bg [78, 69, 70])), (3, (bg [69]))]) h 9 rfl ko rfl rfl rfl rfl fun w h => mi (oK := [(1, (bg [78, 69])), (2, (bg [78, 69, 70])), (3, (bg [69])), (4, (bg []))]) h 9 rfl ko rfl rfl rfl rfl fun w h => mi (oK := [(1, (bg [78, 69])), (2, (bg [78, 69, 70])), (3, (bg [69])), (4, (bg [])), (5, (bg [69]))]) h 9 rfl ko rfl rfl rfl rfl fun w h => mi (oK := [(1, (bg [78, 69])), (2, (bg [78, 69, 70])), (3, (bg [69])), (4, (bg [])), (5, (bg [69])), (6, (bg [69, 65, 66]))]) h 9 rfl ko rfl rfl rfl rfl fun w h => mi (oK := [(1, (bg [78, 69])), (2, (bg [78, 69, 70])), (3, (bg [69])), (4, (bg [])), (5, (bg [69])), (6, (bg [69, 65, 66])), (7, (bg [69, 65]))]) h 9 rfl ko rfl rfl rfl rfl fun w h => mi (oK := [(1, (bg [78, 69])), (2, (bg [78, 69, 70])), (3, (bg [69])), (4, (bg [])), (5, (bg [69])), (6, (bg [69, 65, 66])), (7, (bg [69, 65])), (8, (bg [69]))]) h 9 rfl ko rfl rfl rfl rfl fun w h => ae (au (v := (.map (some b22))) rfl) (ae (ak jC rfl) (ae (aF h 8 rfl bz rfl rfl) (ae (Yk (f := bg) (zz := []) ([(1, [78, 69]), (2, [78, 69, 70]), (3, [69]), (4, []), (5, [69]), (6, [69, 65, 66]), (7, [69, 65]), (8, [69])] : List (Int × Str)) h 9 rfl ko rfl rfl rfl rfl) (ae (au (v := (.tuple #[(bg ((lk x3.kind ([(1, [78, 69]), (2, [78, 69, 70]), (3, [69]), (4, []), (5, [69]), (6, [69, 65, 66]), (7, [69, 65]), (8, [69])] : List (Int × Str))).getD [])), (.bool ((lk x3.kind ([(1, [78, 69]), (2, [78, 69, 70]), (3, [69]), (4, []), (5, [69]), (6, [69, 65, 66]), (7, [69, 65]), (8, [69])] : List (Int × Str))).isSome))])) rfl) (ae (bB rfl rfl) (ae (bB rfl rfl) ?_))))))))))))
 refine oQ h 10 xK fun w Bt h => fw h 10 [(bg ((lk x3.kind ([(1, [78, 69]), (2, [78, 69, 70]), (3, [69]), (4, []), (5, [69]), (6, [69, 65, 66]), (7, [69, 65]), (8, [69])] : List (Int × Str))).getD []))] rfl xK rfl rfl rfl rfl rfl fun w h => ae (aj (v := (.bool ((lk x3.kind ([(1, [78, 69]), (2, [78, 69, 70]), (3, [69]), (4, []), (5, [69]), (6, [69, 65, 66]), (7, [69, 65]), (8, [69])] : List (Int × Str))).isSome))) rfl) (ah (aa (ai (ag (ae (qN (c1 := []) (c2 := [(.pointer (some ⟨Bt, 0, none⟩))]) rfl rfl) (ae (aj (v := (.func (.func 144) #[] #[(.pointer (some ⟨Bt, 0, none⟩))])) rfl) (ah (aa (ai (ai (ag (ae (au (v := (.bool ((lk x3.kind ([(1, [78, 69]), (2, [78, 69, 70]), (3, [69]), (4, []), (5, [69]), (6, [69, 65, 66]), (7, [69, 65]), (8, [69])] : List (Int × Str))).isSome))) rfl) (ae (gP rfl) (ae (au (v := (.bool ((!(lk x3.kind ([(1, [78, 69]), (2, [78, 69, 70]), (3, [69]), (4, []), (5, [69]), (6, [69, 65, 66]), (7, [69, 65]), (8, [69])] : List (Int × Str))).isSome)))) rfl) (aD rfl rfl (fun q => ak um rfl) (aD rfl rfl (fun q => aF h 8 rfl bz (dx q) rfl) (aD rfl rfl (fun q => iA (dx q) rfl) (aD rfl rfl (fun q => au (v := (.bool (decide ((x3.n : Int) ≠ 0)))) (dx q)) (lN ((!(lk x3.kind ([(1, [78, 69]), (2, [78, 69, 70]), (3, [69]), (4, []), (5, [69]), (6, [69, 65, 66]), (7, [69, 65]), (8, [69])] : List (Int × Str))).isSome) == false) rfl rfl (fun q => au (v := (.func (.func 144) #[] #[(.pointer (some ⟨Bt, 0, none⟩))])) rfl) (Aw [(.pointer (some ⟨Bt, 0, none⟩))] ((!(lk x3.kind ([(1, [78, 69]), (2, [78, 69, 70]), (3, [69]), (4, []), (5, [69]), (6, [69, 65, 66]), (7, [69, 65]), (8, [69])] : List (Int × Str))).isSome) == false) rfl rfl yR (fun q => (dx q)) (fun q => lh rfl rfl) (uw _ _ h.lt ((lk x3.kind ([(1, [78, 69]), (2, [78, 69, 70]), (3, [69]), (4, []), (5, [69]), (6, [69, 65, 66]), (7, [69, 65]), (8, [69])] : List (Int × Str))).getD []) Bt (h.ql 10 rfl) _ rfl) fun w k24 => ?_))))))))))))))))))))
 replace h := h.grow k24
 refine lN ((!(lk x3.kind ([(1, [78, 69]), (2, [78, 69, 70]), (3, [69]), (4, []), (5, [69]), (6, [69, 65, 66]), (7, [69, 65]), (8, [69])] : List (Int × Str))).isSome) == false) rfl rfl (fun q => gP (dx q)) (aD rfl rfl (fun q => fT (dx q) (PZ q) lQ) (ae (gK rfl rfl lQ) (ae (au (v := (.bool (((!(lk x3.kind ([(1, [78, 69]), (2, [78, 69, 70]), (3, [69]), (4, []), (5, [69]), (6, [69, 65, 66]), (7, [69, 65]), (8, [69])] : List (Int × Str))).isSome) || (decide ((x3.n : Int) ≠ 0) && (!(bD ((lk x3.kind ([(1, [78, 69]), (2, [78, 69, 70]), (3, [69]), (4, []), (5, [69]), (6, [69, 65, 66]), (7, [69, 65]), (8, [69])] : List (Int × Str))).getD [])))))))) rfl) (aD rfl rfl (fun q => ak xG rfl) (aD rfl rfl (fun q => aF h 8 rfl vU (dx q) rfl) (aD rfl rfl (fun q => bU jQ (dx q) (h.lY 4 rfl)) (aD rfl rfl (fun q => jA (dx q) rfl) (aD rfl rfl (fun q => au (v := (.bool (decide ((0 : Int) < (x3.e.length : Int))))) (dx q)) (lN (((!(lk x3.kind ([(1, [78, 69]), (2, [78, 69, 70]), (3, [69]), (4, []), (5, [69]), (6, [69, 65, 66]), (7, [69, 65]), (8, [69])] : List (Int × Str))).isSome) || (decide ((x3.n : Int) ≠ 0) && (!(bD ((lk x3.kind ([(1, [78, 69]), (2, [78, 69, 70]), (3, [69]), (4, []), (5, [69]), (6, [69, 65, 66]), (7, [69, 65]), (8, [69])] : List (Int × Str))).getD []))))) == false) rfl rfl (fun q => au (v := (.func (.func 144) #[] #[(.pointer (some ⟨Bt, 0, none⟩))])) rfl) (Aw [(.pointer (some ⟨Bt, 0, none⟩))] (((!(lk x3.kind ([(1, [78, 69]), (2, [78, 69, 70]), (3, [69]), (4, []), (5, [69]), (6, [69, 65, 66]), (7, [69, 65]), (8, [69])] : List (Int × Str))).isSome) || (decide ((x3.n : Int) ≠ 0) && (!(bD ((lk x3.kind ([(1, [78, 69]), (2, [78, 69, 70]), (3, [69]), (4, []), (5, [69]), (6, [69, 65, 66]), (7, [69, 65]), (8, [69])] : List (Int × Str))).getD []))))) == false) rfl rfl yR (fun q => (dx q)) (fun q => lh rfl rfl) (uy _ _ h.lt ((lk x3.kind ([(1, [78, 69]), (2, [78, 69, 70]), (3, [69]), (4, []), (5, [69]), (6, [69, 65, 66]), (7, [69, 65]), (8, [69])] : List (Int × Str))).getD []) Bt (h.ql 10 rfl) _ rfl) fun w k25 => ?_))))))))))
 replace h := h.grow k25
 refine lN (((!(lk x3.kind ([(1, [78, 69]), (2, [78, 69, 70]), (3, [69]), (4, []), (5, [69]), (6, [69, 65, 66]), (7, [69, 65]), (8, [69])] : List (Int × Str))).isSome) || (decide ((x3.n : Int) ≠ 0) && (!(bD ((lk x3.kind ([(1, [78, 69]), (2, [78, 69, 70]), (3, [69]), (4, []), (5, [69]), (6, [69, 65, 66]), (7, [69, 65]), (8, [69])] : List (Int × Str))).getD []))))) == false) rfl rfl (fun q => gP (dx q)) (aD rfl rfl (fun q => fT (dx q) (PZ q) lQ) (ae (gK rfl rfl lQ) (ae (au (v := (.bool ((((!(lk x3.kind ([(1, [78, 69]), (2, [78, 69, 70]), (3, [69]), (4, []), (5, [69]), (6, [69, 65, 66]), (7, [69, 65]), (8, [69])] : List (Int × Str))).isSome) || (decide ((x3.n : Int) ≠ 0) && (!(bD ((lk x3.kind ([(1, [78, 69]), (2, [78, 69, 70]), (3, [69]), (4, []), (5, [69]), (6, [69, 65, 66]), (7, [69, 65]), (8, [69])] : List (Int × Str))).getD []))))) || (decide ((0 : Int) < (x3.e.length : Int)) && (!(bN ((lk x3.kind ([(1, [78, 69]), (2, [78, 69, 70]), (3, [69]), (4, []), (5, [69]), (6, [69, 65, 66]), (7, [69, 65]), (8, [69])] : List (Int × Str))).getD [])))))))) rfl) (aD rfl rfl (fun q => ak zS rfl) (aD rfl rfl (fun q => aF h 8 rfl vU (dx q) rfl) (aD rfl rfl (fun q => bU jQ (dx q) (h.lY 5 rfl)) (aD rfl rfl (fun q => jA (dx q) rfl) (aD rfl rfl (fun q => au (v := (.bool (decide ((0 : Int) < (x3.f.length : Int))))) (dx q)) (lN ((((!(lk x3.kind ([(1, [78, 69]), (2, [78, 69, 70]), (3, [69]), (4, []), (5, [69]), (6, [69, 65, 66]), (7, [69, 65]), (8, [69])] : List (Int × Str))).isSome) || (decide ((x3.n : Int) ≠ 0) && (!(bD ((lk x3.kind ([(1, [78, 69]), (2, [78, 69, 70]), (3, [69]), (4, []), (5, [69]), (6, [69, 65, 66]), (7, [69, 65]), (8, [69])] : List (Int × Str))).getD []))))) || (decide ((0 : Int) < (x3.e.length : Int)) && (!(bN ((lk x3.kind ([(1, [78, 69]), (2, [78, 69, 70]), (3, [69]), (4, []), (5, [69]), (6, [69, 65, 66]), (7, [69, 65]), (8, [69])] : List (Int × Str))).getD []))))) == false) rfl rfl (fun q => au (v := (.func (.func 144) #[] #[(.pointer (some ⟨Bt, 0, none⟩))])) rfl) (Aw [(.pointer (some ⟨Bt, 0, none⟩))] ((((!(lk x3.kind ([(1, [78, 69]), (2, [78, 69, 70]), (3, [69]), (4, []), (5, [69]), (6, [69, 65, 66]), (7, [69, 65]), (8, [69])] : List (Int × Str))).isSome) || (decide ((x3.n : Int) ≠ 0) && (!(bD ((lk x3.kind ([(1, [78, 69]), (2, [78, 69, 70]), (3, [69]), (4, []), (5, [69]), (6, [69, 65, 66]), (7, [69, 65]), (8, [69])] : List (Int × Str))).getD []))))) || (decide ((0 : Int) < (x3.e.length : Int)) && (!(bN ((lk x3.kind ([(1, [78, 69]), (2, [78, 69, 70]), (3, [69]), (4, []), (5, [69]), (6, [69, 65, 66]), (7, [69, 65]), (8, [69])] : List (Int × Str))).getD []))))) == false) rfl rfl yR (fun q => (dx q)) (fun q => lh rfl rfl) (nu _ _ h.lt ((lk x3.kind ([(1, [78, 69]), (2, [78, 69, 70]), (3, [69]), (4, []), (5, [69]), (6, [69, 65, 66]), (7, [69, 65]), (8, [69])] : List (Int × Str))).getD []) Bt (h.ql 10 rfl) _ rfl) fun w k26 => ?_))))))))))
 replace h := h.grow k26
 refine lN ((((!(lk x3.kind ([(1, [78, 69]), (2, [78, 69, 70]), (3, [69]), (4, []), (5, [69]), (6, [69, 65, 66]), (7, [69, 65]), (8, [69])] : List (Int × Str))).isSome) || (decide ((x3.n : Int) ≠ 0) && (!(bD ((lk x3.kind ([(1, [78, 69]), (2, [78, 69, 70]), (3, [69]), (4, []), (5, [69]), (6, [69, 65, 66]), (7, [69, 65]), (8, [69])] : List (Int × Str))).getD []))))) || (decide ((0 : Int) < (x3.e.length : Int)) && (!(bN ((lk x3.kind ([(1, [78, 69]), (2, [78, 69, 70]), (3, [69]), (4, []), (5, [69]), (6, [69, 65, 66]), (7, [69, 65]), (8, [69])] : List (Int × Str))).getD []))))) == false) rfl rfl (fun q => gP (dx q)) (aD rfl rfl (fun q => fT (dx q) (PZ q) lQ) (ae (gK rfl rfl lQ) (ae (au (v := (.bool (((((!(lk x3.kind ([(1, [78, 69]), (2, [78, 69, 70]), (3, [69]), (4, []), (5, [69]), (6, [69, 65, 66]), (7, [69, 65]), (8, [69])] : List (Int × Str))).isSome) || (decide ((x3.n : Int) ≠ 0) && (!(bD ((lk x3.kind ([(1, [78, 69]), (2, [78, 69, 70]), (3, [69]), (4, []), (5, [69]), (6, [69, 65, 66]), (7, [69, 65]), (8, [69])] : List (Int × Str))).getD []))))) || (decide ((0 : Int) < (x3.e.length : Int)) && (!(bN ((lk x3.kind ([(1, [78, 69]), (2, [78, 69, 70]), (3, [69]), (4, []), (5, [69]), (6, [69, 65, 66]), (7, [69, 65]), (8, [69])] : List (Int × Str))).getD []))))) || (decide ((0 : Int) < (x3.f.length : Int)) && (!(cB ((lk x3.kind ([(1, [78, 69]), (2, [78, 69, 70]), (3, [69]), (4, []), (5, [69]), (6, [69, 65, 66]), (7, [69, 65]), (8, [69])] : List (Int × Str))).getD [])))))))) rfl) (aD rfl rfl (fun q => ak xH rfl) (aD rfl rfl (fun q => aF h 8 rfl ow (dx q) rfl) (aD rfl rfl (fun q => bU kr (dx q) (h.lY 6 rfl)) (aD rfl rfl (fun q => jA (dx q) rfl) (aD rfl rfl (fun q => au (v := (.bool (decide ((0 : Int) < (x3.a.length : Int))))) (dx q)) (lN (((((!(lk x3.kind ([(1, [78, 69]), (2, [78, 69, 70]), (3, [69]), (4, []), (5, [69]), (6, [69, 65, 66]), (7, [69, 65]), (8, [69])] : List (Int × Str))).isSome) || (decide ((x3.n : Int) ≠ 0) && (!(bD ((lk x3.kind ([(1, [78, 69]), (2, [78, 69, 70]), (3, [69]), (4, []), (5, [69]), (6, [69, 65, 66]), (7, [69, 65]), (8, [69])] : List (Int × Str))).getD []))))) || (decide ((0 : Int) < (x3.e.length : Int)) && (!(bN ((lk x3.kind ([(1, [78, 69]), (2, [78, 69, 70]), (3, [69]), (4, []), (5, [69]), (6, [69, 65, 66]), (7, [69, 65]), (8, [69])] : List (Int × Str))).getD []))))) || (decide ((0 : Int) < (x3.f.length : Int)) && (!(cB ((lk x3.kind ([(1, [78, 69]), (2, [78, 69, 70]), (3, [69]), (4, []), (5, [69]), (6, [69, 65, 66]), (7, [69, 65]), (8, [69])] : List (Int × Str))).getD []))))) == false) rfl rfl (fun q => au (v := (.func (.func 144) #[] #[(.pointer (some ⟨Bt, 0, none⟩))])) rfl) (Aw [(.pointer (some ⟨Bt, 0, none⟩))] (((((!(lk x3.kind ([(1, [78, 69]), (2, [78, 69, 70]), (3, [69]), (4, []), (5, [69]), (6, [69, 65, 66]), (7, [69, 65]), (8, [69])] : List (Int × Str))).isSome) || (decide ((x3.n : Int) ≠ 0) && (!(bD ((lk x3.kind ([(1, [78, 69]), (2, [78, 69, 70]), (3, [69]), (4, []), (5, [69]), (6, [69, 65, 66]), (7, [69, 65]), (8, [69])] : List (Int × Str))).getD []))))) || (decide ((0 : Int) < (x3.e.length : Int)) && (!(bN ((lk x3.kind ([(1, [78, 69]), (2, [78, 69, 70]), (3, [69]), (4, []), (5, [69]), (6, [69, 65, 66]), (7, [69, 65]), (8, [69])] : List (Int × Str))).getD []))))) || (decide ((0 : Int) < (x3.f.length : Int)) && (!(cB ((lk x3.kind ([(1, [78, 69]), (2, [78, 69, 70]), (3, [69]), (4, []), (5, [69]), (6, [69, 65, 66]), (7, [69, 65]), (8, [69])] : List (Int × Str))).getD []))))) == false) rfl rfl yR (fun q => (dx q)) (fun q => lh rfl rfl) (uz _ _ h.lt ((lk x3.kind ([(1, [78, 69]), (2, [78, 69, 70]), (3, [69]), (4, []), (5, [69]), (6, [69, 65, 66]), (7, [69, 65]), (8, [69])] : List (Int × Str))).getD []) Bt (h.ql 10 rfl) _ rfl) fun w k27 => ?_))))))))))
 replace h := h.grow k27
 refine lN (((((!(lk x3.kind ([(1, [78, 69]), (2, [78, 69, 70]), (3, [69]), (4, []), (5, [69]), (6, [69, 65, 66]), (7, [69, 65]), (8, [69])] : List (Int × Str))).isSome) || (decide ((x3.n : Int) ≠ 0) && (!(bD ((lk x3.kind ([(1, [78, 69]), (2, [78, 69, 70]), (3, [69]), (4, []), (5, [69]), (6, [69, 65, 66]), (7, [69, 65]), (8, [69])] : List (Int × Str))).getD []))))) || (decide ((0 : Int) < (x3.e.length : Int)) && (!(bN ((lk x3.kind ([(1, [78, 69]), (2, [78, 69, 70]), (3, [69]), (4, []), (5, [69]), (6, [69, 65, 66]), (7, [69, 65]), (8, [69])] : List (Int × Str))).getD []))))) || (decide ((0 : Int) < (x3.f.length : Int)) && (!(cB ((lk x3.kind ([(1, [78, 69]), (2, [78, 69, 70]), (3, [69]), (4, []), (5, [69]), (6, [69, 65, 66]), (7, [69, 65]), (8, [69])] : List (Int × Str))).getD []))))) == false) rfl rfl (fun q => gP (dx q)) (aD rfl rfl (fun q => fT (dx q) (PZ q) lQ) (ae (gK rfl rfl lQ) (ae (au (v := (.bool ((((((!(lk x3.kind ([(1, [78, 69]), (2, [78, 69, 70]), (3, [69]), (4, []), (5, [69]), (6, [69, 65, 66]), (7, [69, 65]), (8, [69])] : List (Int × Str))).isSome) || (decide ((x3.n : Int) ≠ 0) && (!(bD ((lk x3.kind ([(1, [78, 69]), (2, [78, 69, 70]), (3, [69]), (4, []), (5, [69]), (6, [69, 65, 66]), (7, [69, 65]), (8, [69])] : List (Int × Str))).getD []))))) || (decide ((0 : Int) < (x3.e.length : Int)) && (!(bN ((lk x3.kind ([(1, [78, 69]), (2, [78, 69, 70]), (3, [69]), (4, []), (5, [69]), (6, [69, 65, 66]), (7, [69, 65]), (8, [69])] : List (Int × Str))).getD []))))) || (decide ((0 : Int) < (x3.f.length : Int)) && (!(cB ((lk x3.kind ([(1, [78, 69]), (2, [78, 69, 70]), (3, [69]), (4, []), (5, [69]), (6, [69, 65, 66]), (7, [69, 65]), (8, [69])] : List (Int × Str))).getD []))))) || (decide ((0 : Int) < (x3.a.length : Int)) && (!(fu ((lk x3.kind ([(1, [78, 69]), (2, [78, 69, 70]), (3, [69]), (4, []), (5, [69]), (6, [69, 65, 66]), (7, [69, 65]), (8, [69])] : List (Int × Str))).getD [])))))))) rfl) (aD rfl rfl (fun q => ak xI rfl) (aD rfl rfl (fun q => aF h 8 rfl ow (dx q) rfl) (aD rfl rfl (fun q => bU kr (dx q) (h.lY 7 rfl)) (aD rfl rfl (fun q => jA (dx q) rfl) (aD rfl rfl (fun q => au (v := (.bool (decide ((0 : Int) < (x3.b.length : Int))))) (dx q)) (lN ((((((!(lk x3.kind ([(1, [78, 69]), (2, [78, 69, 70]), (3, [69]), (4, []), (5, [69]), (6, [69, 65, 66]), (7, [69, 65]), (8, [69])] : List (Int × Str))).isSome) || (decide ((x3.n : Int) ≠ 0) && (!(bD ((lk x3.kind ([(1, [78, 69]), (2, [78, 69, 70]), (3, [69]), (4, []), (5, [69]), (6, [69, 65, 66]), (7, [69, 65]), (8, [69])] : List (Int × Str))).getD []))))) || (decide ((0 : Int) < (x3.e.length : Int)) && (!(bN ((lk x3.kind ([(1, [78, 69]), (2, [78, 69, 70]), (3, [69]), (4, []), (5, [69]), (6, [69, 65, 66]), (7, [69, 65]), (8, [69])] : List (Int × Str))).getD []))))) || (decide ((0 : Int) < (x3.f.length : Int)) && (!(cB ((lk x3.kind ([(1, [78, 69]), (2, [78, 69, 70]), (3, [69]), (4, []), (5, [69]), (6, [69, 65, 66]), (7, [69, 65]), (8, [69])] : List (Int × Str))).getD []))))) || (decide ((0 : Int) < (x3.a.length : Int)) && (!(fu ((lk x3.kind ([(1, [78, 69]), (2, [78, 69, 70]), (3, [69]), (4, []), (5, [69]), (6, [69, 65, 66]), (7, [69, 65]), (8, [69])] : List (Int × Str))).getD []))))) == false) rfl rfl (fun q => au (v := (.func (.func 144) #[] #[(.pointer (some ⟨Bt, 0, none⟩))])) rfl) (Aw [(.pointer (some ⟨Bt, 0, none⟩))] ((((((!(lk x3.kind ([(1, [78, 69]), (2, [78, 69, 70]), (3, [69]), (4, []), (5, [69]), (6, [69, 65, 66]), (7, [69, 65]), (8, [69])] : List (Int × Str))).isSome) || (decide ((x3.n : Int) ≠ 0) && (!(bD ((lk x3.kind ([(1, [78, 69]), (2, [78, 69, 70]), (3, [69]), (4, []), (5, [69]), (6, [69, 65, 66]), (7, [69, 65]), (8, [69])] : List (Int × Str))).getD []))))) || (decide ((0 : Int) < (x3.e.length : Int)) && (!(bN ((lk x3.kind ([(1, [78, 69]), (2, [78, 69, 70]), (3, [69]), (4, []), (5, [69]), (6, [69, 65, 66]), (7, [69, 65]), (8, [69])] : List (Int × Str))).getD []))))) || (decide ((0 : Int) < (x3.f.length : Int)) && (!(cB ((lk x3.kind ([(1, [78, 69]), (2, [78, 69, 70]), (3, [69]), (4, []), (5, [69]), (6, [69, 65, 66]), (7, [69, 65]), (8, [69])] : List (Int × Str))).getD []))))) || (decide ((0 : Int) < (x3.a.length : Int)) && (!(fu ((lk x3.kind ([(1, [78, 69]), (2, [78, 69, 70]), (3, [69]), (4, []), (5, [69]), (6, [69, 65, 66]), (7, [69, 65]), (8, [69])] : List (Int × Str))).getD []))))) == false) rfl rfl yR (fun q => (dx q)) (fun q => lh rfl rfl) (uA _ _ h.lt ((lk x3.kind ([(1, [78, 69]), (2, [78, 69, 70]), (3, [69]), (4, []), (5, [69]), (6, [69, 65, 66]), (7, [69, 65]), (8, [69])] : List (Int × Str))).getD []) Bt (h.ql 10 rfl) _ rfl) fun w k28 => ?_))))))))))
 replace h := h.grow k28
 refine lN ((((((!(lk x3.kind ([(1, [78, 69]), (2, [78, 69, 70]), (3, [69]), (4, []), (5, [69]), (6, [69, 65, 66]), (7, [69, 65]), (8, [69])] : List (Int × Str))).isSome) || (decide ((x3.n : Int) ≠ 0) && (!(bD ((lk x3.kind ([(1, [78, 69]), (2, [78, 69, 70]), (3, [69]), (4, []), (5, [69]), (6, [69, 65, 66]), (7, [69, 65]), (8, [69])] : List (Int × Str))).getD []))))) || (decide ((0 : Int) < (x3.e.length : Int)) && (!(bN ((lk x3.kind ([(1, [78, 69]), (2, [78, 69, 70]), (3, [69]), (4, []), (5, [69]), (6, [69, 65, 66]), (7, [69, 65]), (8, [69])] : List (Int × Str))).getD []))))) || (decide ((0 : Int) < (x3.f.length : Int)) && (!(cB ((lk x3.kind ([(1, [78, 69]), (2, [78, 69, 70]), (3, [69]), (4, []), (5, [69]), (6, [69, 65, 66]), (7, [69, 65]), (8, [69])] : List (Int × Str))).getD []))))) || (decide ((0 : Int) < (x3.a.length : Int)) && (!(fu ((lk x3.kind ([(1, [78, 69]), (2, [78, 69, 70]), (3, [69]), (4, []), (5, [69]), (6, [69, 65, 66]), (7, [69, 65]), (8, [69])] : List (Int × Str))).getD []))))) == false) rfl rfl (fun q => gP (dx q)) (aD rfl rfl (fun q => fT (dx q) (PZ q) lQ) (ae (gK rfl rfl lQ) (ah (aa (aK hs rfl (fun c29 hs => ?_) (fun c29 hs => ?_))))))
 refine ai (ag (ae (aj (v := (.int .i64 (4))) rfl) (ah (aa (aI (aC (aH (aC (aC (aH (aC (bV (v := (.int .i64 (4))) Tryz.results129 rfl ?_))))))))))))
 obtain rfl := Option.some.inj hs
 exact ⟨h.grown, rfl⟩
 refine aG (aa (ai (ai (ag (ae (ak jC rfl) (ae (aF h 8 rfl bz rfl rfl) (ae (bH rfl rfl) (ae (au (v := (.bool (decide ((x3.kind : Int) = 1)))) rfl) (aD rfl rfl (fun q => ak um rfl) (aD rfl rfl (fun q => aF h 8 rfl bz (dx q) rfl) (aD rfl rfl (fun q => au (v := (.int .i64 (c))) rfl) (Kh rfl rfl L6 rfl (fun q => lh (dx q) (lh (dx q) rfl)) (qw _ _ h.lt x3.n c _ rfl) fun w YF => ?_))))))))))))
 replace h := h.grow YF
 refine aD rfl rfl (fun q => gP (dx q)) (ae (fT rfl rfl lQ) (ae (au (v := (.bool ((decide ((x3.kind : Int) = 1) && (!(aY x3.n c)))))) rfl) (aD rfl rfl (fun q => ak jC rfl) (aD rfl rfl (fun q => aF h 8 rfl bz (dx q) rfl) (aD rfl rfl (fun q => bH (dx q) rfl) (aD rfl rfl (fun q => au (v := (.bool (decide ((x3.kind : Int) = 2)))) (dx q)) (lN ((decide ((x3.kind : Int) = 1) && (!(aY x3.n c))) == false) rfl rfl (fun q => ak um rfl) (lN ((decide ((x3.kind : Int) = 1) && (!(aY x3.n c))) == false) rfl rfl (fun q => aF h 8 rfl bz (dx q) rfl) (Np ((decide ((x3.kind : Int) = 1) && (!(aY x3.n c))) == false) rfl rfl xc rfl (fun q => lh (dx q) (lh rfl (lh rfl rfl))) (gH _ _ h.lt x3.n 0 3 _ rfl) fun w k31 => ?_)))))))))
 replace h := h.grow k31
 refine lN ((decide ((x3.kind : Int) = 1) && (!(aY x3.n c))) == false) rfl rfl (fun q => gP (dx q)) (aD rfl rfl (fun q => fT (dx q) (PZ q) lQ) (ae (gK rfl rfl lQ) (ah (aa (aK hs rfl (fun c32 hs => ?_) (fun c32 hs => ?_))))))
 refine ai (ag (ae (aj (v := (.int .i64 (3))) rfl) (ah (aa (aI (aC (aH (aC (aC (aH (aC (bV (v := (.int .i64 (3))) Tryz.results129 rfl ?_))))))))))))
 obtain rfl := Option.some.inj hs
 exact ⟨h.grown, rfl⟩
 refine aG (aa (ai (ag (ae (aj (v := (.int .i64 (0))) rfl) (ah (aa (bY (σ := Int) (inl [12, 105, 106, 107, 108, 109, 110, 111]) (fun xN => [(12, (.int .i64 (xN)))]) (fun xN w => SH w0 M BE w (hset [(1, .sr eu va a), (2, .sr iH vb b), (4, .rd jU LA x3.e), (5, .rd jU EY x3.f), (6, .rd eu Fj x3.a), (7, .rd eu Kz x3.b), (8, .blk He [(.int .i64 (x3.kind)), (.int .i64 (x3.n)), LA, EY, Fj, Kz]), (10, .blk Bt [(bg ((lk x3.kind ([(1, [78, 69]), (2, [78, 69, 70]), (3, [69]), (4, []), (5, [69]), (6, [69, 65, 66]), (7, [69, 65]), (8, [69])] : List (Int × Str))).getD []))])]) ∧ kJ N F0 x3 b c a Hd xN = some r) ?_ ?_)))))))
 rintro xN w dD ⟨h, hs⟩
 refine bY (σ := Int) (inl [12, 112, 113, 114, 115, 116, 117, 118, 119, 120, 121, 122]) (fun x34 => [(12, (.int .i64 (x34))), (115, (gv (decide ((xN : Int) = 0) == true) (.func (.func 144) #[] #[(.pointer (some ⟨Bt, 0, none⟩))])))]) (fun x34 w => SH w0 M BE w (hset [(1, .sr eu va a), (2, .sr iH vb b), (4, .rd jU LA x3.e), (5, .rd jU EY x3.f), (6, .rd eu Fj x3.a), (7, .rd eu Kz x3.b), (8, .blk He [(.int .i64 (x3.kind)), (.int .i64 (x3.n)), LA, EY, Fj, Kz]), (10, .blk Bt [(bg ((lk x3.kind ([(1, [78, 69]), (2, [78, 69, 70]), (3, [69]), (4, []), (5, [69]), (6, [69, 65, 66]), (7, [69, 65]), (8, [69])] : List (Int × Str))).getD []))])]) ∧ kI F0 x3 a b c Hd x34 = some r) ?_ ?_
 rintro x34 w dD ⟨h, hs⟩
 refine bY (σ := Int) (inl [12, 123, 124, 125, 126, 127, 128, 129]) (fun xy => [(12, (.int .i64 (xy)))]) (fun xy w => SH w0 M BE w (hset [(1, .sr eu va a), (2, .sr iH vb b), (4, .rd jU LA x3.e), (5, .rd jU EY x3.f), (6, .rd eu Fj x3.a), (7, .rd eu Kz x3.b), (8, .blk He [(.int .i64 (x3.kind)), (.int .i64 (x3.n)), LA, EY, Fj, Kz]), (10, .blk Bt [(bg ((lk x3.kind ([(1, [78, 69]), (2, [78, 69, 70]), (3, [69]), (4, []), (5, [69]), (6, [69, 65, 66]), (7, [69, 65]), (8, [69])] : List (Int × Str))).getD []))])]) ∧ kH F0 x3 b c Hd xy = some r) ?_ ?_
 rintro xy w dD ⟨h, hs⟩
 refine bY (σ := Int) (inl [12, 130, 131, 132, 133, 134, 135, 136]) (fun rV => [(12, (.int .i64 (rV)))]) (fun rV w => SH w0 M BE w (hset [(1, .sr eu va a), (2, .sr iH vb b), (10, .blk Bt [(bg ((lk x3.kind ([(1, [78, 69]), (2, [78, 69, 70]), (3, [69]), (4, []), (5, [69]), (6, [69, 65, 66]), (7, [69, 65]), (8, [69])] : List (Int × Str))).getD []))])]) ∧ kG Hd rV = some r) ?_ ?_
 rintro rV w dD ⟨h, hs⟩
 refine ai (ag (ae (au (v := (.int .i64 (rV))) rfl) (ae (iA rfl rfl) (ah (aa (aK hs rfl (fun c37 hs => ?_) (fun c37 hs => ?_)))))))
 refine ai (ag (ae (au (v := (.int .i64 (rV))) rfl) (ae (aj (v := (.int .i64 (rV))) rfl) (ah (aa (aI (aH (aC (aC (aH (aC (bV (v := (.int .i64 (rV))) Tryz.results129 rfl ?_))))))))))))
 obtain rfl := Option.some.inj hs
 exact ⟨h.grown, rfl⟩
 refine aG (aA (aa (ag (ae (dC rfl rfl e7r) (ae (au (v := (.int .i64 ((i2 + 1)))) rfl) (ah (az ?_)))))))
 subst Wn
 exact jN ⟨k1 + 1, i2 + 1⟩ ⟨h.cn _, by omega, hs⟩ (by have := of_decide_eq_true e6; dsimp only; omega)
 refine ai (ag (ae (au (v := (.int .i64 (xy))) rfl) (ae (bH rfl rfl) (ah (aa (aK hs rfl (fun CJ hs => ?_) (fun CJ hs => ?_)))))))
 refine ag (ae (ak xI rfl) (ae (aF h 8 rfl ow rfl rfl) (ae (au (v := vb) rfl) (ae (au (v := (.int .i64 (c))) rfl) ?_))))
 obtain ⟨y39, e40, hs⟩ := aP hs
 refine bA Jt rfl rfl (ih _ _ h.lt Kz x3.b (h.lY 7 rfl) vb b (h.iw 2 rfl) c _ e40) ?_
 rintro _ w ⟨YG, rfl⟩
 refine ⟨_, rfl, ?_⟩
 replace h := h.grow YG
 refine ae (aj (v := (.int .i64 (y39))) rfl) (ah (az ?_))
 exact bS y39 ⟨h.cn _, hs⟩
 refine aG (az ?_)
 exact bS xy ⟨h.cn _, hs⟩
 refine ai (ag (ae (au (v := (.int .i64 (x34))) rfl) (ae (bH rfl rfl) (ah (aa (aK hs rfl (fun c42 hs => ?_) (fun c42 hs => ?_)))))))
 refine ag (ae (ak xH rfl) (ae (aF h 8 rfl ow rfl rfl) (ae (au (v := vb) rfl) (ae (au (v := (.int .i64 (c))) rfl) ?_))))
 obtain ⟨yT, e44, hs⟩ := aP hs
 refine bA Jt rfl rfl (ih _ _ h.lt Fj x3.a (h.lY 6 rfl) vb b (h.iw 2 rfl) c _ e44) ?_
 rintro _ w ⟨k45, rfl⟩
 refine ⟨_, rfl, ?_⟩
 replace h := h.grow k45
 refine ae (aj (v := (.int .i64 (yT))) rfl) (ah (az ?_))
 exact bS yT ⟨h.cn _, hs⟩
 refine aG (az ?_)
 exact bS x34 ⟨h.cn _, hs⟩
 refine ai (ag (ae (au (v := (.int .i64 (xN))) rfl) (ae (bH rfl rfl) (ae (au (v := (.bool (decide ((xN : Int) = 0)))) rfl) (aD rfl rfl (fun q => au (v := (.func (.func 144) #[] #[(.pointer (some ⟨Bt, 0, none⟩))])) rfl) (FC [(.pointer (some ⟨Bt, 0, none⟩))] rfl rfl yR (fun q => (dx q)) (fun q => lh rfl rfl) (nu _ _ h.lt ((lk x3.kind ([(1, [78, 69]), (2, [78, 69, 70]), (3, [69]), (4, []), (5, [69]), (6, [69, 65, 66]), (7, [69, 65]), (8, [69])] : List (Int × Str))).getD []) Bt (h.ql 10 rfl) _ rfl) fun w k46 => ?_))))))
 replace h := h.grow k46
 refine ae (fT rfl rfl lQ) (ah (aa (aK hs rfl (fun YH hs => ?_) (fun YH hs => ?_))))
 refine ag (ae (ak zS rfl) (ae (aF h 8 rfl vU rfl rfl) (ae (au (v := vb) rfl) (ae (au (v := (.int .i64 (c))) rfl) ?_))))
 obtain ⟨sQ, e49, hs⟩ := aP hs
 refine bA NH rfl rfl (qZ N _ _ h.lt EY x3.f (h.lY 5 rfl) vb b (h.iw 2 rfl) c _ e49) ?_
 rintro _ w ⟨k50, rfl⟩
 refine ⟨_, rfl, ?_⟩
 replace h := h.grow k50
 refine ae (aj (v := (.int .i64 (sQ))) rfl) (ah (az ?_))
 exact bS sQ ⟨h.cn _, hs⟩
 refine aG (az ?_)
 exact bS xN ⟨h.cn _, hs⟩
 refine ai (ag (ae (au (v := (.func (.func 144) #[] #[(.pointer (some ⟨Bt, 0, none⟩))])) rfl) (jl (args := [(bg [69]), (.pointer (some ⟨Bt, 0, none⟩))]) yR rfl rfl (aQ (args := [(bg [69]), (.pointer (some ⟨Bt, 0, none⟩))]) Tryz.func144 rfl Tryz.ntmps144 (Nat.le_of_ble_eq_true rfl) (ai (ag (ae (aj (v := (.bool (false))) rfl) (ah (aa (ai (ag (ae (aF h 10 rfl xK rfl rfl) (ae (au (v := (bg [69])) rfl) (bA AO rfl rfl (jr _ _ h.lt ((lk x3.kind ([(1, [78, 69]), (2, [78, 69, 70]), (3, [69]), (4, []), (5, [69]), (6, [69, 65, 66]), (7, [69, 65]), (8, [69])] : List (Int × Str))).getD []) 69 _ rfl) ?_))))))))))))))
 rintro _ w ⟨k51, rfl⟩
 refine ⟨_, rfl, ?_⟩
 replace h := h.grow k51
 refine ae (aj (v := (.bool ((hasB ((lk x3.kind ([(1, [78, 69]), (2, [78, 69, 70]), (3, [69]), (4, []), (5, [69]), (6, [69, 65, 66]), (7, [69, 65]), (8, [69])] : List (Int × Str))).getD []) 69)))) rfl) (ah (aa (aI (bV (v := (.bool ((hasB ((lk x3.kind ([(1, [78, 69]), (2, [78, 69, 70]), (3, [69]), (4, []), (5, [69]), (6, [69, 65, 66]), (7, [69, 65]), (8, [69])] : List (Int × Str))).getD []) 69)))) Tryz.results144 rfl (⟨_, rfl, ?_⟩)))))
 refine ah (aa (aK hs rfl (fun BB hs => ?_) (fun BB hs => ?_)))
 refine ag (ae (ak xG rfl) (ae (aF h 8 rfl vU rfl rfl) (ae (au (v := vb) rfl) (ae (au (v := (.int .i64 (c))) rfl) ?_))))
 obtain ⟨Ky, e54, hs⟩ := aP hs
 refine bA NH rfl rfl (qZ N _ _ h.lt LA x3.e (h.lY 4 rfl) vb b (h.iw 2 rfl) c _ e54) ?_
 rintro _ w ⟨k55, rfl⟩
 refine ⟨_, rfl, ?_⟩
 replace h := h.grow k55
 refine ae (aj (v := (.int .i64 (Ky))) rfl) (ah (az ?_))
 exact bS Ky ⟨h.cn _, hs⟩
 refine aG (az ?_)
 exact bS 0 ⟨h.cn _, hs⟩
 rw [gz (hik ▸ e6), gU] at hs
 refine df (aO (aO (bF (aa (ai (ag (ae (aj (v := (.int .i64 (0))) rfl) (ah (aa (aI (bV (v := (.int .i64 (0))) Tryz.results129 rfl ?_)))))))))))
 obtain rfl := Option.some.inj hs
 exact ⟨h.grown, rfl⟩
def kM (N : Nat) (a : List eX) (wT : eX) (s : Unit) (xO : Unit → Option Int) : Option Int :=
  (lU N wT.body 4).bind fun lq => bif (!lq.2) then some 2 else (iV N wT.body a wT.locals).bind fun U4 => bif decide ((U4 : Int) ≠ 0) then some U4 else xO ()
def kN (s : Unit) : Option Int :=
  some 0
def kP (i4 : Int) (x5 : eX) (s : Unit) (nx7 : Unit → Option Int) : Option Int :=
  bif (((!(bC x5.params 0 3)) || (!(bC x5.locals x5.params 6))) || (decide ((i4 : Int) = 0) && decide ((x5.params : Int) ≠ 0))) then some 3 else nx7 ()
def kQ (N : Nat) (a : List eX) (s : Unit) : Option Int :=
  each (kM N a) kN a ()
def q8 (N : Nat) (a : List eX) : Option Int :=
  bif (!(bC (a.length : Int) 1 4)) then some 2 else eO kP (kQ N a) 0 a ()
theorem wJ (N : Nat) (w0 : World) (M : BS) (hM : ∀ b, M b → b < w0.heap.size) (va : Value) (a : List eX) (ha : gp iH w0 BE M va a) (r : Int) (hs : q8 N a = some r) :
    Calls Tryz.prog 112 #[va] w0 (fun e w' => Grow w0 w' ∧ e = .returned (.int .i64 r)) := by
 refine aQ (args := [va]) Tryz.func112 rfl Tryz.ntmps112 (Nat.le_of_ble_eq_true rfl) ?_
 have h := SH.init hM
 replace h := h.fC 1 ha bJ
 have uu := ha.bZ
 refine ai (ag (ae (aj (v := (.int .i64 (0))) rfl) (ah (aa (ai (ai (ag (ae (au (v := va) rfl) (ae (bU il rfl (h.iw 1 rfl)) (bA xc rfl rfl (gH _ _ h.lt (a.length : Int) 1 4 _ rfl) ?_))))))))))
 rintro _ w ⟨k1, rfl⟩
 refine ⟨_, rfl, ?_⟩
 replace h := h.grow k1
 refine ae (gP rfl) (ah (aa (aK hs rfl (fun c2 hs => ?_) (fun c2 hs => ?_))))
 refine ai (ag (ae (aj (v := (.int .i64 (2))) rfl) (ah (aa (aI (aC (bV (v := (.int .i64 (2))) Tryz.results112 rfl ?_)))))))
 obtain rfl := Option.some.inj hs
 exact ⟨h.grown, rfl⟩
 refine aG (aa (ai (ai (ag (ae (au (v := va) rfl) (ae (bU il rfl (h.iw 1 rfl)) (ae (au (v := (.int .i64 (0))) rfl) (ah (aa (aT (gL (σ := Nat × Int) (inl [2, 3, 4, 16, 17, 18, 19, 20, 21, 22, 23, 24, 25, 26, 27, 28, 29, 30, 31, 32, 33, 34, 35, 36, 37, 38, 39, 40, 41, 42]) (fun ⟨k3, i4⟩ => [(16, (.int .i64 (i4)))]) (fun ⟨k3, i4⟩ w => SH w0 M BE w (hset [(1, .sr iH va a)]) ∧ i4 = (k3 : Int) ∧ eO kP (kQ N a) i4 (a.drop k3) () = some r) (fun ⟨k3, i4⟩ => a.length - k3) ⟨0, 0⟩ ⟨rfl, trivial⟩ ?_ ?_)))))))))))
 exact ⟨h.cn _, rfl, hs⟩
 rintro ⟨k3, i4⟩ w dD ⟨h, hik, hs⟩
 refine ai (ag ?_)
 refine ae (dS rfl rfl) (ah (aa ?_))
 refine ai (iy rfl (fun e8 => ?_) (fun e8 => ?_))
 refine aG (aa ?_)
 obtain ⟨x5, e9a, e9b⟩ := gy (hik ▸ e8)
 rw [e9b, iG] at hs
 generalize hnx7 : eO kP (kQ N a) (i4 + 1) (a.drop (k3 + 1)) = nx7 at hs
 have e9r := gD ((h.iw 1 rfl)).bZ hik e8
 refine ai (aT (ai (ag (ae (au (v := (.int .i64 (i4))) rfl) ?_))))
 obtain ⟨b11, o12, YI, h, r14, i10⟩ := h.yE 1 2 rfl il rfl (iQ hik) (gB hik e9a)
 obtain ⟨EY, rfl, g16⟩ := qY r14
 replace h := h.cO 3 g16.up
 refine ae (i10 _ _ _ _ _ _ _ _ _ rfl rfl) (ae (ji (k := 0) (vs := [(.int .i64 (x5.params)), (.int .i64 (x5.locals)), EY]) h 2 rfl ll rfl rfl rfl (Nat.le_of_ble_eq_true rfl)) (bW h 4 ll fun w b17 h => ae (aj (v := (.int .i64 (i4))) rfl) (dA (vs := [(.int .i64 (x5.params)), (.int .i64 (x5.locals)), EY]) h 4 [(.int .i64 (x5.params)), (.int .i64 (x5.locals)), EY] rfl ll rfl rfl rfl rfl rfl (ax rfl (ax rfl (ax (h.gF 3 rfl).one bu))) fun w h => ah (aa (ai (ag (ae (ak uk rfl) (ae (aF h 4 rfl bz rfl rfl) (bA xc rfl rfl (gH _ _ h.lt x5.params 0 3 _ rfl) ?_)))))))))
 rintro _ w ⟨k18, rfl⟩
 refine ⟨_, rfl, ?_⟩
 replace h := h.grow k18
 refine ae (gP rfl) (ae (au (v := (.bool ((!(bC x5.params 0 3))))) rfl) (aD rfl rfl (fun q => ak xE rfl) (aD rfl rfl (fun q => aF h 4 rfl bz (dx q) rfl) (aD rfl rfl (fun q => ak uk rfl) (aD rfl rfl (fun q => aF h 4 rfl bz (dx q) rfl) (Kh rfl rfl xc rfl (fun q => lh (dx q) (lh (dx q) (lh rfl rfl))) (gH _ _ h.lt x5.locals x5.params 6 _ rfl) fun w k19 => ?_))))))
 replace h := h.grow k19
 refine aD rfl rfl (fun q => gP (dx q)) (ae (gK rfl rfl lQ) (ae (au (v := (.bool (((!(bC x5.params 0 3)) || (!(bC x5.locals x5.params 6)))))) rfl) (aD rfl rfl (fun q => au (v := (.int .i64 (i4))) rfl) (aD rfl rfl (fun q => bH (dx q) rfl) (aD rfl rfl (fun q => au (v := (.bool (decide ((i4 : Int) = 0)))) (dx q)) (lN (((!(bC x5.params 0 3)) || (!(bC x5.locals x5.params 6))) == false) rfl rfl (fun q => ak uk rfl) (lN (((!(bC x5.params 0 3)) || (!(bC x5.locals x5.params 6))) == false) rfl rfl (fun q => aF h 4 rfl bz (dx q) rfl) (lN (((!(bC x5.params 0 3)) || (!(bC x5.locals x5.params 6))) == false) rfl rfl (fun q => iA (dx q) rfl) (aD rfl rfl (fun q => fT (dx q) (PZ q) lQ) (ae (gK rfl rfl lQ) (ah (aa (aK hs rfl (fun c20 hs => ?_) (fun c20 hs => ?_))))))))))))))
 refine ai (ag (ae (aj (v := (.int .i64 (3))) rfl) (ah (aa (aI (aH (aC (aC (aH (aC (bV (v := (.int .i64 (3))) Tryz.results112 rfl ?_)))))))))))
 obtain rfl := Option.some.inj hs
 exact ⟨h.grown, rfl⟩
 refine aG (aA (aa (ag (ae (dC rfl rfl e9r) (ae (au (v := (.int .i64 ((i4 + 1)))) rfl) (ah (az ?_)))))))
 subst hnx7
 exact jN ⟨k3 + 1, i4 + 1⟩ ⟨h.cn _, by omega, hs⟩ (by have := of_decide_eq_true e8; dsimp only; omega)
 rw [gz (hik ▸ e8), mh] at hs
 refine df (aO (aO (bF (aa (ai (ai (ag (ae (au (v := va) rfl) (ae (bU il rfl (h.iw 1 rfl)) (ae (au (v := (.int .i64 (0))) rfl) (ah (aa (aT (gL (σ := Nat × Int) (inl [2, 6, 7, 8, 9, 45, 46, 47, 48, 49, 50, 51, 52, 53, 54, 55, 56, 57, 58, 59, 60, 61, 62, 63, 64, 65, 66]) (fun ⟨k21, i22⟩ => [(45, (.int .i64 (i22)))]) (fun ⟨k21, i22⟩ w => SH w0 M BE w (hset [(1, .sr iH va a)]) ∧ i22 = (k21 : Int) ∧ each (kM N a) kN (a.drop k21) () = some r) (fun ⟨k21, i22⟩ => a.length - k21) ⟨0, 0⟩ ⟨rfl, trivial⟩ ?_ ?_))))))))))))))
 exact ⟨h.cn _, rfl, hs⟩
 rintro ⟨k21, i22⟩ w dD ⟨h, hik, hs⟩
 refine ai (ag ?_)
 refine ae (dS rfl rfl) (ah (aa ?_))
 refine ai (iy rfl (fun e26 => ?_) (fun e26 => ?_))
 refine aG (aa ?_)
 obtain ⟨wT, e27a, e27b⟩ := gy (hik ▸ e26)
 rw [e27b, dP] at hs
 generalize Q4 : each (kM N a) kN (a.drop (k21 + 1)) = xO at hs
 have e27r := gD ((h.iw 1 rfl)).bZ hik e26
 refine ai (aT (ai (ag ?_)))
 obtain ⟨b29, o30, cs31, h, r32, i28⟩ := h.yE 1 5 rfl il rfl (iQ hik) (gB hik e27a)
 obtain ⟨u33, rfl, YJ⟩ := qY r32
 replace h := h.cO 6 YJ.up
 refine ae (i28 _ _ _ _ _ _ _ _ _ rfl rfl) (ae (ji (k := 0) (vs := [(.int .i64 (wT.params)), (.int .i64 (wT.locals)), u33]) h 5 rfl ll rfl rfl rfl (Nat.le_of_ble_eq_true rfl)) (bW h 7 ll fun w b35 h => dA (vs := [(.int .i64 (wT.params)), (.int .i64 (wT.locals)), u33]) h 7 [(.int .i64 (wT.params)), (.int .i64 (wT.locals)), u33] rfl ll rfl rfl rfl rfl rfl (ax rfl (ax rfl (ax (h.gF 6 rfl).one bu))) fun w h => ah (aa (ai (ai (ag (ae (ak zR rfl) (ae (aF h 7 rfl ow rfl rfl) ?_))))))))
 obtain ⟨lq, e37, hs⟩ := aP hs
 refine bA NG rfl rfl (Bh N _ _ h.lt u33 wT.body (h.lY 6 rfl) 4 _ e37) ?_
 rintro _ w ⟨YK, rfl⟩
 refine ⟨_, rfl, ?_⟩
 replace h := h.grow YK
 refine ae (au (v := (.tuple #[(.int .i64 (lq.1)), (.bool (lq.2))])) rfl) (ae (bB rfl rfl) (ae (bB rfl rfl) (ae (aj (v := (.int .i64 (lq.1))) rfl) (ae (aj (v := (.bool (lq.2))) rfl) (ah (aa (ai (ag (ae (au (v := (.bool (lq.2))) rfl) (ae (gP rfl) (ah (aa (aK hs rfl (fun c39 hs => ?_) (fun c39 hs => ?_))))))))))))))
 refine ai (ag (ae (aj (v := (.int .i64 (2))) rfl) (ah (aa (aI (aC (aH (aC (aC (aH (aC (bV (v := (.int .i64 (2))) Tryz.results112 rfl ?_))))))))))))
 obtain rfl := Option.some.inj hs
 exact ⟨h.grown, rfl⟩
 refine aG (aa (ai (ag (ae (ak zR rfl) (ae (aF h 7 rfl ow rfl rfl) (ae (au (v := va) rfl) (ae (ak xE rfl) (ae (aF h 7 rfl bz rfl rfl) ?_))))))))
 obtain ⟨U4, e41, hs⟩ := aP hs
 refine bA Jt rfl rfl (xe N _ _ h.lt u33 wT.body (h.lY 6 rfl) va a (h.iw 1 rfl) wT.locals _ e41) ?_
 rintro _ w ⟨k42, rfl⟩
 refine ⟨_, rfl, ?_⟩
 replace h := h.grow k42
 refine ae (aj (v := (.int .i64 (U4))) rfl) (ah (aa (ai (ag (ae (au (v := (.int .i64 (U4))) rfl) (ae (iA rfl rfl) (ah (aa (aK hs rfl (fun c43 hs => ?_) (fun c43 hs => ?_))))))))))
 refine ai (ag (ae (au (v := (.int .i64 (U4))) rfl) (ae (aj (v := (.int .i64 (U4))) rfl) (ah (aa (aI (aH (aC (aC (aH (aC (bV (v := (.int .i64 (U4))) Tryz.results112 rfl ?_))))))))))))
 obtain rfl := Option.some.inj hs
 exact ⟨h.grown, rfl⟩
 refine aG (aA (aa (ag (ae (dC rfl rfl e27r) (ae (au (v := (.int .i64 ((i22 + 1)))) rfl) (ah (az ?_)))))))
 subst Q4
 exact jN ⟨k21 + 1, i22 + 1⟩ ⟨h.cn _, by omega, hs⟩ (by have := of_decide_eq_true e26; dsimp only; omega)
 rw [gz (hik ▸ e26), gU] at hs
 refine df (aO (aO (bF (aa (ai (ag (ae (aj (v := (.int .i64 (0))) rfl) (ah (aa (aI (bV (v := (.int .i64 (0))) Tryz.results112 rfl ?_)))))))))))
 obtain rfl := Option.some.inj hs
 exact ⟨h.grown, rfl⟩
theorem rW (w0 : World) (M : BS) (hM : ∀ b, M b → b < w0.heap.size) (hT : uh Tryz.prog 4 w0) (a : Int) (r : Str) (hs : H8 a = some r) :
    Calls Tryz.prog 125 #[.int .i64 a] w0 (fun e w' => Grow w0 w' ∧ e = .returned (bg r)) :=
  Vz Tryz.strconv_Itoa hT hs
theorem xP (w0 : World) (M : BS) (hM : ∀ b, M b → b < w0.heap.size) (hT : uh Tryz.prog 4 w0) (a : Str) (r : List Str) (hs : Cv a = some r) :
    Calls Tryz.prog 111 #[bg a] w0 (fun e w' => Grow w0 w' ∧ ∃ u, e = .returned u ∧ fo ni w' M u r) :=
  QD Tryz.strings_Fields (q := 0) (by kernel_rfl) hM hT hs
def jg (a : Tok) : Option Str :=
  (H8 a.n).bind fun y2 => bif decide ((a.kind : Int) = 2) then gQ ([118].length + y2.length ≤ 9223372036854775807) (some ([118] ++ y2)) else bif decide ((a.kind : Int) = 3) then gQ (jB (a.n + 1)) ((subs? [63, 43, 45, 42, 60, 61] a.n (a.n + 1)).bind fun x9 => some x9) else bif decide ((a.kind : Int) = 4) then gQ ([46].length + y2.length ≤ 9223372036854775807) (some ([46] ++ y2)) else bif decide ((a.kind : Int) = 5) then gQ ([110, 101, 119].length + y2.length ≤ 9223372036854775807) (some ([110, 101, 119] ++ y2)) else bif decide ((a.kind : Int) = 6) then gQ ([102].length + y2.length ≤ 9223372036854775807) (some ([102] ++ y2)) else some y2
theorem oC (w0 : World) (M : BS) (hM : ∀ b, M b → b < w0.heap.size) (hT : uh Tryz.prog 4 w0) (a : Tok) (r : Str) (hs : jg a = some r) :
    Calls Tryz.prog 106 #[(.agg #[(.int .i64 (a.kind)), (.int .i64 (a.n))])] w0 (fun e w' => Grow w0 w' ∧ e = .returned (bg r)) := by
 refine aQ (args := [(.agg #[(.int .i64 (a.kind)), (.int .i64 (a.n))])]) Tryz.func106 rfl Tryz.ntmps106 (Nat.le_of_ble_eq_true rfl) ?_
 have h := SH.init hM
 refine ai (ag (nX (cs := [(.int .i64 (a.kind)), (.int .i64 (a.n))]) h 1 rfl rfl fun w b1 h => ae (aj (v := (bg [])) rfl) (ah (aa (ai (ag (ae (ak mq rfl) (ae (aF h 1 rfl bz rfl rfl) ?_))))))))
 obtain ⟨y2, e3, hs⟩ := aP hs
 refine bA Fh rfl rfl (rW _ _ h.lt (hT.go h.keep) a.n _ e3) ?_
 rintro _ w ⟨k4, rfl⟩
 refine ⟨_, rfl, ?_⟩
 replace h := h.grow k4
 refine ae (aj (v := (bg y2)) rfl) (ah (aa (ai (ai (ag (ae (ak Cz rfl) (ae (aF h 1 rfl bz rfl rfl) (ah (aa (aT (ai (ag (ae (bH rfl rfl) (ae (aj (v := (.bool (decide ((a.kind : Int) = 2)))) rfl) (ah (aa (aK hs rfl (fun c5 hs => ?_) (fun c5 hs => ?_))))))))))))))))))
 refine ai (ag (ae (au (v := (bg y2)) rfl) ?_))
 obtain ⟨a6, hs⟩ := bI hs
 refine ae (lC rfl rfl a6) (ae (aj (v := (bg ([118] ++ y2))) rfl) (ah (aa (aI (aH (aC (bV (v := (bg ([118] ++ y2))) Tryz.results106 rfl ?_)))))))
 obtain rfl := Option.some.inj hs
 exact ⟨h.grown, rfl⟩
 refine ai (ag (ae (bH rfl rfl) (ae (aj (v := (.bool (decide ((a.kind : Int) = 3)))) rfl) (ah (aa (aK hs rfl (fun c7 hs => ?_) (fun c7 hs => ?_)))))))
 refine ai (ag (ae (ak mq rfl) (ae (aF h 1 rfl bz rfl rfl) (ae (ak mq rfl) (ae (aF h 1 rfl bz rfl rfl) ?_)))))
 obtain ⟨a8, hs⟩ := bI hs
 refine ae (dC rfl rfl a8) ?_
 obtain ⟨x9, e10, hs⟩ := aP hs
 obtain ⟨Q5, Q6, e11c, e11⟩ := LM e10
 refine ae (LK e11 Tryz.underlying9 rfl (.inr (congrArg some rfl)) (.inr (congrArg some rfl)) Q5 Q6 e11c) (ae (aj (v := (bg x9)) rfl) (ah (aa (aI (aH (aC (bV (v := (bg x9)) Tryz.results106 rfl ?_)))))))
 obtain rfl := Option.some.inj hs
 exact ⟨h.grown, rfl⟩
 refine ai (ag (ae (bH rfl rfl) (ae (aj (v := (.bool (decide ((a.kind : Int) = 4)))) rfl) (ah (aa (aK hs rfl (fun c12 hs => ?_) (fun c12 hs => ?_)))))))
 refine ai (ag (ae (au (v := (bg y2)) rfl) ?_))
 obtain ⟨a13, hs⟩ := bI hs
 refine ae (lC rfl rfl a13) (ae (aj (v := (bg ([46] ++ y2))) rfl) (ah (aa (aI (aH (aC (bV (v := (bg ([46] ++ y2))) Tryz.results106 rfl ?_)))))))
 obtain rfl := Option.some.inj hs
 exact ⟨h.grown, rfl⟩
 refine ai (ag (ae (bH rfl rfl) (ae (aj (v := (.bool (decide ((a.kind : Int) = 5)))) rfl) (ah (aa (aK hs rfl (fun c14 hs => ?_) (fun c14 hs => ?_)))))))
 refine ai (ag (ae (au (v := (bg y2)) rfl) ?_))
 obtain ⟨a15, hs⟩ := bI hs
 refine ae (lC rfl rfl a15) (ae (aj (v := (bg ([110, 101, 119] ++ y2))) rfl) (ah (aa (aI (aH (aC (bV (v := (bg ([110, 101, 119] ++ y2))) Tryz.results106 rfl ?_)))))))
 obtain rfl := Option.some.inj hs
 exact ⟨h.grown, rfl⟩
 refine ai (ag (ae (bH rfl rfl) (ae (aj (v := (.bool (decide ((a.kind : Int) = 6)))) rfl) (ah (aa (aK hs rfl (fun c16 hs => ?_) (fun c16 hs => ?_)))))))
 refine ai (ag (ae (au (v := (bg y2)) rfl) ?_))
 obtain ⟨a17, hs⟩ := bI hs
 refine ae (lC rfl rfl a17) (ae (aj (v := (bg ([102] ++ y2))) rfl) (ah (aa (aI (aH (aC (bV (v := (bg ([102] ++ y2))) Tryz.results106 rfl ?_)))))))
 obtain rfl := Option.some.inj hs
 exact ⟨h.grown, rfl⟩
 refine aG (aA (aa (ai (ag (ae (au (v := (bg y2)) rfl) (ae (aj (v := (bg y2)) rfl) (ah (aa (aI (bV (v := (bg y2)) Tryz.results106 rfl ?_))))))))))
 obtain rfl := Option.some.inj hs
 exact ⟨h.grown, rfl⟩
def mD (x7 : Tok) (x4 : Str) (Fp : Str → Option Str) : Option Str :=
  (jg x7).bind fun G6 => gQ ([32].length + G6.length ≤ 9223372036854775807) (gQ (x4.length + ([32] ++ G6).length ≤ 9223372036854775807) (Fp (x4 ++ ([32] ++ G6))))
def mE (x4 : Str) : Option Str :=
  some x4
def o7 (a : List Tok) : Option Str :=
  each mD mE a []
theorem rX (w0 : World) (M : BS) (hM : ∀ b, M b → b < w0.heap.size) (hT : uh Tryz.prog 4 w0) (va : Value) (a : List Tok) (ha : gp jU w0 BE M va a) (r : Str) (hs : o7 a = some r) :
    Calls Tryz.prog 147 #[va] w0 (fun e w' => Grow w0 w' ∧ e = .returned (bg r)) := by
 refine aQ (args := [va]) Tryz.func147 rfl Tryz.ntmps147 (Nat.le_of_ble_eq_true rfl) ?_
 have h := SH.init hM
 replace h := h.fC 1 ha bJ
 have uu := ha.bZ
 refine ai (ag (ae (aj (v := (bg [])) rfl) (ah (aa (ai (ag (ae (aj (v := (bg [])) rfl) (ah (aa (ai (ai (ag (ae (au (v := va) rfl) (ae (bU jQ rfl (h.iw 1 rfl)) (ae (au (v := (.int .i64 (0))) rfl) (ah (aa (aT (gL (σ := Nat × Int × Str) (inl [3, 5, 8, 9, 10, 11, 12, 13, 14, 15, 16, 17]) (fun ⟨k5, i6, x4⟩ => [(3, (bg x4)), (8, (.int .i64 (i6)))]) (fun ⟨k5, i6, x4⟩ w => SH w0 M BE w (hset [(1, .sr jU va a)]) ∧ i6 = (k5 : Int) ∧ each mD mE (a.drop k5) x4 = some r) (fun ⟨k5, i6, x4⟩ => a.length - k5) ⟨0, 0, []⟩ ⟨rfl, rfl, trivial⟩ ?_ ?_)))))))))))))))))))
 exact ⟨h.cn _, rfl, hs⟩
 rintro ⟨k5, i6, x4⟩ w dD ⟨h, hik, hs⟩
 refine ai (ag ?_)
 refine ae (dS rfl rfl) (ah (aa ?_))
 refine ai (iy rfl (fun e10 => ?_) (fun e10 => ?_))
 refine aG (aa ?_)
 obtain ⟨x7, Q5, Q6⟩ := gy (hik ▸ e10)
 rw [Q6, dP] at hs
 generalize Q7 : each mD mE (a.drop (k5 + 1)) = Fp at hs
 have Q8 := gD ((h.iw 1 rfl)).bZ hik e10
 refine ai (aT (ai (ag ?_)))
 obtain ⟨b13, o14, cs15, h, r16, i12⟩ := h.yE 1 2 rfl jQ rfl (iQ hik) (gB hik Q5)
 obtain rfl := r16
 refine ae (i12 _ _ _ _ _ _ _ _ _ rfl rfl) (ae (ji (k := 0) (vs := [(.int .i64 (x7.kind)), (.int .i64 (x7.n))]) h 2 rfl jI rfl rfl rfl (Nat.le_of_ble_eq_true rfl)) (bW h 3 jI fun w b17 h => dA (vs := [(.int .i64 (x7.kind)), (.int .i64 (x7.n))]) h 3 [(.int .i64 (x7.kind)), (.int .i64 (x7.n))] rfl jI rfl rfl rfl rfl rfl (ax rfl (ax rfl bu)) fun w h => ah (aa (ag (ae (au (v := (bg x4)) rfl) (ae (dz (vs := [(.int .i64 (x7.kind)), (.int .i64 (x7.n))]) h 3 rfl jI rfl rfl rfl) ?_))))))
 obtain ⟨G6, e19, hs⟩ := aP hs
 refine bA Jq rfl rfl (oC _ _ h.lt (hT.go h.keep) x7 _ e19) ?_
 rintro _ w ⟨k20, rfl⟩
 refine ⟨_, rfl, ?_⟩
 replace h := h.grow k20
 obtain ⟨a21, hs⟩ := bI hs
 refine ae (lC rfl rfl a21) ?_
 obtain ⟨a22, hs⟩ := bI hs
 refine ae (lC rfl rfl a22) (ae (aj (v := (bg (x4 ++ ([32] ++ G6)))) rfl) (ah (aA (aa (ag (ae (dC rfl rfl Q8) (ae (au (v := (.int .i64 ((i6 + 1)))) rfl) (ah (az ?_)))))))))
 subst Q7
 exact jN ⟨k5 + 1, i6 + 1, (x4 ++ ([32] ++ G6))⟩ ⟨h.cn _, by omega, hs⟩ (by have := of_decide_eq_true e10; dsimp only; omega)
 rw [gz (hik ▸ e10), gU] at hs
 refine df (aO (aO (bF (aa (ai (ag (ae (au (v := (bg x4)) rfl) (ae (aj (v := (bg x4)) rfl) (ah (aa (aI (bV (v := (bg x4)) Tryz.results147 rfl ?_))))))))))))
 obtain rfl := Option.some.inj hs
 exact ⟨h.grown, rfl⟩
def lD (Fp : Str → Option Str) (vX : Str) : Option Str :=
  Fp vX
def lF (F0 : List bG → Option Str) (x7 : bG) (Fp : Str → Option Str) (x34 : Str) : Option Str :=
  bif decide ((x7.kind : Int) = 6) then (F0 x7.b).bind fun lq => gQ ([32].length + lq.length ≤ 9223372036854775807) (gQ (x34.length + ([32] ++ lq).length ≤ 9223372036854775807) (lD Fp (x34 ++ ([32] ++ lq)))) else lD Fp x34
def lG (F0 : List bG → Option Str) (x7 : bG) (a : List bG) (Fp : Str → Option Str) (x30 : Str) : Option Str :=
  (o7 x7.e).bind fun o8 => (o7 x7.f).bind fun pg => gQ (o8.length + pg.length ≤ 9223372036854775807) (gQ (x30.length + (o8 ++ pg).length ≤ 9223372036854775807) (bif (decide ((x7.kind : Int) = 6) || decide ((x7.kind : Int) = 7)) then (F0 x7.a).bind fun vY => gQ ([32].length + vY.length ≤ 9223372036854775807) (gQ ((x30 ++ (o8 ++ pg)).length + ([32] ++ vY).length ≤ 9223372036854775807) (lF F0 x7 Fp ((x30 ++ (o8 ++ pg)) ++ ([32] ++ vY)))) else lF F0 x7 Fp (x30 ++ (o8 ++ pg))))
def lH (F0 : List bG → Option Str) (a : List bG) (x7 : bG) (x4 : Str) (Fp : Str → Option Str) : Option Str :=
  gQ (jB (x7.kind - 1)) ((Cv [115, 101, 116, 32, 112, 117, 116, 32, 115, 97, 121, 32, 112, 97, 117, 115, 101, 32, 103, 111, 32, 105, 102, 32, 119, 104, 105, 108, 101, 32, 114, 101, 116, 117, 114, 110]).bind fun KA => (idx KA (x7.kind - 1)).bind fun pq => gQ ([32].length + pq.length ≤ 9223372036854775807) (gQ (x4.length + ([32] ++ pq).length ≤ 9223372036854775807) (bif decide ((x7.kind : Int) ≤ 2) then (H8 x7.n).bind fun sQ => gQ ([32].length + sQ.length ≤ 9223372036854775807) (gQ ((x4 ++ ([32] ++ pq)).length + ([32] ++ sQ).length ≤ 9223372036854775807) (lG F0 x7 a Fp ((x4 ++ ([32] ++ pq)) ++ ([32] ++ sQ)))) else lG F0 x7 a Fp (x4 ++ ([32] ++ pq)))))
def lI (x4 : Str) : Option Str :=
  gQ (x4.length + [32, 125].length ≤ 9223372036854775807) (some (x4 ++ [32, 125]))
def rf (F0 : List bG → Option Str) (a : List bG) : Option Str :=
  each (lH F0 a) lI a [123]
def jm : Nat → List bG → Option Str
  | 0 => fun _ => none
  | N + 1 => rf (jm N)
theorem xQ : ∀ (N : Nat) (w0 : World) (M : BS) (hM : ∀ b, M b → b < w0.heap.size) (hT : uh Tryz.prog 4 w0) (va : Value) (a : List bG) (ha : gp eu w0 BE M va a) (r : Str) (hs : jm N a = some r),
    Calls Tryz.prog 130 #[va] w0 (fun e w' => Grow w0 w' ∧ e = .returned (bg r)) := by
 intro N
 induction N with
 | zero => intro w0 M hM hT va a ha r hs; cases hs
 | succ N ih =>
 intro w0 M hM hT va a ha r hs
 replace hs : rf (jm N) a = some r := hs
 generalize jm N = F0 at hs ih
 refine aQ (args := [va]) Tryz.func130 rfl Tryz.ntmps130 (Nat.le_of_ble_eq_true rfl) ?_
 have h := SH.init hM
 replace h := h.fC 1 ha bJ
 have uu := ha.bZ
 refine ai (ag (ae (aj (v := (bg [])) rfl) (ah (aa (ai (ag (ae (aj (v := (bg [123])) rfl) (ah (aa (ai (ai (ag (ae (au (v := va) rfl) (ae (bU kr rfl (h.iw 1 rfl)) (ae (au (v := (.int .i64 (0))) rfl) (ah (aa (aT (gL (σ := Nat × Int × Str) (inl [3, 5, 8, 9, 10, 11, 12, 13, 14, 15, 16, 17, 18, 19, 20, 21, 22, 23, 24, 25, 26, 27, 28, 29, 30, 31, 32, 33, 34, 35, 36, 37, 38, 39, 40, 41, 42, 43, 44, 45, 46, 47, 48, 49, 50, 51, 52, 53, 54, 55, 56, 57, 58, 59, 60, 61, 62]) (fun ⟨k5, i6, x4⟩ => [(3, (bg x4)), (8, (.int .i64 (i6)))]) (fun ⟨k5, i6, x4⟩ w => SH w0 M BE w (hset [(1, .sr eu va a)]) ∧ i6 = (k5 : Int) ∧ each (lH F0 a) lI (a.drop k5) x4 = some r) (fun ⟨k5, i6, x4⟩ => a.length - k5) ⟨0, 0, [123]⟩ ⟨rfl, rfl, trivial⟩ ?_ ?_)))))))))))))))))))
 exact ⟨h.cn _, rfl, hs⟩
 rintro ⟨k5, i6, x4⟩ w dD ⟨h, hik, hs⟩
 refine ai (ag ?_)
 refine ae (dS rfl rfl) (ah (aa ?_))
 refine ai (iy rfl (fun e10 => ?_) (fun e10 => ?_))
 refine aG (aa ?_)
 obtain ⟨x7, Q5, Q6⟩ := gy (hik ▸ e10)
 rw [Q6, dP] at hs
 generalize Q7 : each (lH F0 a) lI (a.drop (k5 + 1)) = Fp at hs
 have Q8 := gD ((h.iw 1 rfl)).bZ hik e10
 refine bY (σ := Str) (inl [3, 5, 10, 11, 12, 13, 14, 15, 16, 17, 18, 19, 20, 21, 22, 23, 24, 25, 26, 27, 28, 29, 30, 31, 32, 33, 34, 35, 36, 37, 38, 39, 40, 41, 42, 43, 44, 45, 46, 47, 48, 49, 50, 51, 52, 53, 54, 55, 56, 57, 58, 59, 60, 61]) (fun vX => [(3, (bg vX))]) (fun vX w => SH w0 M BE w (hset [(1, .sr eu va a)]) ∧ lD Fp vX = some r) ?_ ?_
 rintro vX w dD ⟨h, hs⟩
 refine ag (ae (dC rfl rfl Q8) (ae (au (v := (.int .i64 ((i6 + 1)))) rfl) (ah (az ?_))))
 subst Q7
 exact jN ⟨k5 + 1, i6 + 1, vX⟩ ⟨h.cn _, by omega, hs⟩ (by have := of_decide_eq_true e10; dsimp only; omega)
 refine aT (ai (ag ?_))
 obtain ⟨b14, o15, cs16, h, r17, i13⟩ := h.yE 1 2 rfl kr rfl (iQ hik) (gB hik Q5)
 obtain ⟨P6, u20, u22, u24, rfl, g19, g21, g23, g25⟩ := yK r17
 replace h := h.cO 3 g19.up
 replace h := h.cO 4 g21.up.up
 replace h := h.cO 5 g23.up.up.up
 replace h := h.cO 6 g25.up.up.up.up
 refine ae (i13 _ _ _ _ _ _ _ _ _ rfl rfl) (ae (ji (k := 0) (vs := [(.int .i64 (x7.kind)), (.int .i64 (x7.n)), P6, u20, u22, u24]) h 2 rfl nA rfl rfl rfl (Nat.le_of_ble_eq_true rfl)) (bW h 7 nA fun w Wd h => dA (vs := [(.int .i64 (x7.kind)), (.int .i64 (x7.n)), P6, u20, u22, u24]) h 7 [(.int .i64 (x7.kind)), (.int .i64 (x7.n)), P6, u20, u22, u24] rfl nA rfl rfl rfl rfl rfl (ax rfl (ax rfl (ax (h.gF 3 rfl).one (ax (h.gF 4 rfl).one (ax (h.gF 5 rfl).one (ax (h.gF 6 rfl).one bu)))))) fun w h => ah (aa (ai (E9 mixed h fun w h => iD 0 (aS.refl BE _) rfl ay (by kernel_rfl) (by kernel_rfl) (by kernel_rfl) (fun w hk => au (v := (bg x4)) rfl) (iD 2 (aS.refl BE _) rfl ay (by kernel_rfl) (by kernel_rfl) (by kernel_rfl) (fun w hk => ak jC rfl) (iD 3 (aS.refl BE _) rfl ay (by kernel_rfl) (by kernel_rfl) (by kernel_rfl) (fun w hk => have h := h.grow hk; aF h 7 rfl bz rfl rfl) ?_)))))))
 obtain ⟨FX, hs⟩ := bI hs
 refine iD 4 (aS.refl BE _) rfl ay (by kernel_rfl) (by kernel_rfl) (by kernel_rfl) (fun w hk => nW rfl rfl FX) ?_
 obtain ⟨Q9, KC⟩ : ∃ x, x = w := ⟨_, rfl⟩
 have rE : Grow Q9 w := KC ▸ aS.refl BE w
 refine Ns KC.symm (yJ 1 (by kernel_rfl) rfl ay ?_)
 obtain ⟨KA, Ra, hs⟩ := aP hs
 refine bA ND rfl rfl (xP _ _ h.lt (hT.go h.keep) [115, 101, 116, 32, 112, 117, 116, 32, 115, 97, 121, 32, 112, 97, 117, 115, 101, 32, 103, 111, 32, 105, 102, 32, 119, 104, 105, 108, 101, 32, 114, 101, 116, 117, 114, 110] _ Ra) ?_
 rintro _ w ⟨KD, YL, rfl, Rb⟩
 refine ⟨_, rfl, ?_⟩
 replace h := h.Hy 20 KD Rb
 replace rE := rE.trans KD
 refine ah (rO rE ?_)
 obtain ⟨pq, KE, hs⟩ := aP hs
 obtain ⟨YM, YN, XG, h, Rc, Re⟩ := h.Dl 20 68 rfl eB rfl (aJ KE).1 (aJ KE).2
 obtain rfl := Rc
 refine iD 5 rE rfl ay (by kernel_rfl) (by kernel_rfl) (by kernel_rfl) (fun w hk => Re _ _ _ _ _ _ _ _ _ rfl rfl) (Tw rE ?_)
 obtain ⟨OL, Mc⟩ : ∃ x, x = w := ⟨_, rfl⟩
 have XH : Grow OL w := Mc ▸ aS.refl _ _
 refine iD 6 (aS.refl BE _) rfl ay (by kernel_rfl) (by kernel_rfl) (by kernel_rfl) (fun w hk => have h := h.grow hk; ek (k := 0) h 68 rfl xK rfl rfl) ?_
 obtain ⟨Rf, hs⟩ := bI hs
 refine iD 7 (aS.refl BE _) rfl ay (by kernel_rfl) (by kernel_rfl) (by kernel_rfl) (fun w hk => lC rfl rfl Rf) ?_
 obtain ⟨Rh, hs⟩ := bI hs
 refine iD 8 (aS.refl BE _) rfl ay (by kernel_rfl) (by kernel_rfl) (by kernel_rfl) (fun w hk => lC rfl rfl Rh) (iD 9 (aS.refl BE _) rfl ay (by kernel_rfl) (by kernel_rfl) (by kernel_rfl) (fun w hk => aj (v := (bg (x4 ++ ([32] ++ pq)))) rfl) (Cu (by kernel_rfl) (aa (bY (σ := Str) (inl [3, 21, 22, 23, 24, 25, 26, 27, 28, 29]) (fun x30 => [(3, (bg x30))]) (fun x30 w => SH w0 M BE w (hset [(1, .sr eu va a), (3, .rd jU P6 x7.e), (4, .rd jU u20 x7.f), (5, .rd eu u22 x7.a), (6, .rd eu u24 x7.b), (7, .blk Wd [(.int .i64 (x7.kind)), (.int .i64 (x7.n)), P6, u20, u22, u24])]) ∧ lG F0 x7 a Fp x30 = some r) ?_ ?_))))
 rintro x30 w dD ⟨h, hs⟩
 refine ai (E9 mixed h fun w h => iD 0 (aS.refl BE _) rfl ay (by kernel_rfl) (by kernel_rfl) (by kernel_rfl) (fun w hk => au (v := (bg x30)) rfl) (iD 1 (aS.refl BE _) rfl ay (by kernel_rfl) (by kernel_rfl) (by kernel_rfl) (fun w hk => ak xG rfl) (iD 2 (aS.refl BE _) rfl ay (by kernel_rfl) (by kernel_rfl) (by kernel_rfl) (fun w hk => have h := h.grow hk; aF h 7 rfl vU rfl rfl) (iD 4 (aS.refl BE _) rfl ay (by kernel_rfl) (by kernel_rfl) (by kernel_rfl) (fun w hk => ak zS rfl) (iD 5 (aS.refl BE _) rfl ay (by kernel_rfl) (by kernel_rfl) (by kernel_rfl) (fun w hk => have h := h.grow hk; aF h 7 rfl vU rfl rfl) ?_)))))
 obtain ⟨Md, KF⟩ : ∃ x, x = w := ⟨_, rfl⟩
 have l7 : Grow Md w := KF ▸ aS.refl BE w
 refine Ns KF.symm (yJ 3 (by kernel_rfl) rfl ay ?_)
 obtain ⟨o8, Ri, hs⟩ := aP hs
 refine bA NI rfl rfl (rX _ _ h.lt (hT.go h.keep) P6 x7.e (h.lY 3 rfl) _ Ri) ?_
 rintro _ w ⟨KG, rfl⟩
 refine ⟨_, rfl, ?_⟩
 replace h := h.grow KG
 replace l7 := l7.trans KG
 refine ah (rO l7 (yJ 6 (by kernel_rfl) rfl ay ?_))
 obtain ⟨pg, Rj, hs⟩ := aP hs
 refine bA NI rfl rfl (rX _ _ h.lt (hT.go h.keep) u20 x7.f (h.lY 4 rfl) _ Rj) ?_
 rintro _ w ⟨KH, rfl⟩
 refine ⟨_, rfl, ?_⟩
 replace h := h.grow KH
 replace l7 := l7.trans KH
 refine ah (rO l7 ?_)
 obtain ⟨Rk, hs⟩ := bI hs
 refine iD 7 l7 rfl ay (by kernel_rfl) (by kernel_rfl) (by kernel_rfl) (fun w hk => lC rfl rfl Rk) ?_
 obtain ⟨Rl, hs⟩ := bI hs
 refine iD 8 l7 rfl ay (by kernel_rfl) (by kernel_rfl) (by kernel_rfl) (fun w hk => lC rfl rfl Rl) (iD 9 l7 rfl ay (by kernel_rfl) (by kernel_rfl) (by kernel_rfl) (fun w hk => aj (v := (bg (x30 ++ (o8 ++ pg)))) rfl) (Cu (by kernel_rfl) (aa (bY (σ := Str) (inl [3, 39, 40, 41, 42, 43, 44, 45, 46, 47, 48, 49, 50, 51, 52]) (fun x34 => [(3, (bg x34))]) (fun x34 w => SH w0 M BE w (hset [(1, .sr eu va a), (3, .rd jU P6 x7.e), (4, .rd jU u20 x7.f), (5, .rd eu u22 x7.a), (6, .rd eu u24 x7.b), (7, .blk Wd [(.int .i64 (x7.kind)), (.int .i64 (x7.n)), P6, u20, u22, u24])]) ∧ lF F0 x7 Fp x34 = some r) ?_ ?_))))
 rintro x34 w dD ⟨h, hs⟩
 refine ai (ag (ae (ak jC rfl) (ae (aF h 7 rfl bz rfl rfl) (ae (bH rfl rfl) (ah (aa (aK hs rfl (fun Wo hs => ?_) (fun Wo hs => ?_))))))))
 refine ag (ae (au (v := (bg x34)) rfl) (ae (ak xI rfl) (ae (aF h 7 rfl ow rfl rfl) ?_)))
 obtain ⟨lq, e37, hs⟩ := aP hs
 refine bA Ju rfl rfl (ih _ _ h.lt (hT.go h.keep) u24 x7.b (h.lY 6 rfl) _ e37) ?_
 rintro _ w ⟨YK, rfl⟩
 refine ⟨_, rfl, ?_⟩
 replace h := h.grow YK
 obtain ⟨a39, hs⟩ := bI hs
 refine ae (lC rfl rfl a39) ?_
 obtain ⟨a40, hs⟩ := bI hs
 refine ae (lC rfl rfl a40) (ae (aj (v := (bg (x34 ++ ([32] ++ lq)))) rfl) (ah (aA (az ?_))))
 exact bS (x34 ++ ([32] ++ lq)) ⟨h.cn _, hs⟩
 refine aG (aA (az ?_))
 exact bS x34 ⟨h.cn _, hs⟩
 refine ai (ag (ae (ak jC rfl) (ae (aF h 7 rfl bz rfl rfl) (ae (bH rfl rfl) (ae (au (v := (.bool (decide ((x7.kind : Int) = 6)))) rfl) (aD rfl rfl (fun q => ak jC rfl) (aD rfl rfl (fun q => aF h 7 rfl bz (dx q) rfl) (aD rfl rfl (fun q => bH (dx q) rfl) (ae (gK rfl rfl lQ) (ah (aa (aK hs rfl (fun Wl hs => ?_) (fun Wl hs => ?_)))))))))))))
 refine ag (ae (au (v := (bg (x30 ++ (o8 ++ pg)))) rfl) (ae (ak xH rfl) (ae (aF h 7 rfl ow rfl rfl) ?_)))
 obtain ⟨vY, e43, hs⟩ := aP hs
 refine bA Ju rfl rfl (ih _ _ h.lt (hT.go h.keep) u22 x7.a (h.lY 5 rfl) _ e43) ?_
 rintro _ w ⟨k44, rfl⟩
 refine ⟨_, rfl, ?_⟩
 replace h := h.grow k44
 obtain ⟨a45, hs⟩ := bI hs
 refine ae (lC rfl rfl a45) ?_
 obtain ⟨a46, hs⟩ := bI hs
 refine ae (lC rfl rfl a46) (ae (aj (v := (bg ((x30 ++ (o8 ++ pg)) ++ ([32] ++ vY)))) rfl) (ah (az ?_)))
 exact bS ((x30 ++ (o8 ++ pg)) ++ ([32] ++ vY)) ⟨h.cn _, hs⟩
 refine aG (az ?_)
 exact bS (x30 ++ (o8 ++ pg)) ⟨h.cn _, hs⟩
 refine ai (ag (ae (ak jC rfl) (ae (aF h 7 rfl bz rfl rfl) (ae (Cn rfl rfl) (ah (aa (aK hs rfl (fun YH hs => ?_) (fun YH hs => ?_))))))))
 refine ag (ae (au (v := (bg (x4 ++ ([32] ++ pq)))) rfl) (ae (ak um rfl) (ae (aF h 7 rfl bz rfl rfl) ?_)))
 obtain ⟨sQ, e49, hs⟩ := aP hs
 refine bA Fh rfl rfl (rW _ _ h.lt (hT.go h.keep) x7.n _ e49) ?_
 rintro _ w ⟨k50, rfl⟩
 refine ⟨_, rfl, ?_⟩
 replace h := h.grow k50
 obtain ⟨a51, hs⟩ := bI hs
 refine ae (lC rfl rfl a51) ?_
 obtain ⟨a52, hs⟩ := bI hs
 refine ae (lC rfl rfl a52) (ae (aj (v := (bg ((x4 ++ ([32] ++ pq)) ++ ([32] ++ sQ)))) rfl) (ah (az ?_)))
 exact bS ((x4 ++ ([32] ++ pq)) ++ ([32] ++ sQ)) ⟨h.cn _, hs⟩
 refine aG (az ?_)
 exact bS (x4 ++ ([32] ++ pq)) ⟨h.cn _, hs⟩
 rw [gz (hik ▸ e10), gU] at hs
 refine df (aO (aO (bF (aa (ai (ag (ae (au (v := (bg x4)) rfl) ?_)))))))
 obtain ⟨a53, hs⟩ := bI hs
 refine ae (lC rfl rfl a53) (ae (aj (v := (bg (x4 ++ [32, 125]))) rfl) (ah (aa (aI (bV (v := (bg (x4 ++ [32, 125]))) Tryz.results130 rfl ?_)))))
 obtain rfl := Option.some.inj hs
 exact ⟨h.grown, rfl⟩
theorem FY (w0 : World) (M : BS) (hM : ∀ b, M b → b < w0.heap.size) (va : Value) (a : List Str) (ha : gp ni w0 BE M va a) (b : Str) (r : Str) (hs : Qt a b = some r) :
    Calls Tryz.prog 131 #[va, bg b] w0 (fun e w' => Grow w0 w' ∧ e = .returned (bg r)) :=
  VC Tryz.strings_Join_none Tryz.strings_Join ha hs
def lJ (N : Nat) (dV : eX) (x8 : List Str) (nk : List Str → Option Str) : Option Str :=
  (H8 dV.params).bind fun oh => gQ ([102, 117, 110, 32].length + oh.length ≤ 9223372036854775807) (gQ (([102, 117, 110, 32] ++ oh).length + [32].length ≤ 9223372036854775807) ((H8 dV.locals).bind fun qE => gQ ((([102, 117, 110, 32] ++ oh) ++ [32]).length + qE.length ≤ 9223372036854775807) (gQ (((([102, 117, 110, 32] ++ oh) ++ [32]) ++ qE).length + [32].length ≤ 9223372036854775807) ((jm N dV.body).bind fun rq => gQ ((((([102, 117, 110, 32] ++ oh) ++ [32]) ++ qE) ++ [32]).length + rq.length ≤ 9223372036854775807) (gQ (Room 16 x8 [((((([102, 117, 110, 32] ++ oh) ++ [32]) ++ qE) ++ [32]) ++ rq)]) (nk (x8 ++ [((((([102, 117, 110, 32] ++ oh) ++ [32]) ++ qE) ++ [32]) ++ rq)])))))))
def lK (x8 : List Str) : Option Str :=
  (Qt x8 [32]).bind fun Fq => some Fq
def rY (N : Nat) (a : List eX) : Option Str :=
  each (lJ N) lK a []
theorem xg (N : Nat) (w0 : World) (M : BS) (hM : ∀ b, M b → b < w0.heap.size) (hT : uh Tryz.prog 4 w0) (va : Value) (a : List eX) (ha : gp iH w0 BE M va a) (r : Str) (hs : rY N a = some r) :
    Calls Tryz.prog 113 #[va] w0 (fun e w' => Grow w0 w' ∧ e = .returned (bg r)) := by
 refine aQ (args := [va]) Tryz.func113 rfl Tryz.ntmps113 (Nat.le_of_ble_eq_true rfl) ?_
 have h := SH.init hM
 replace h := h.fC 1 ha bJ
 have uu := ha.bZ
 refine ai (ag (ae (aj (v := (bg [])) rfl) (ah (aa (ai (ag (ae (aj (v := (.slice none 0 0)) rfl) (ah (aa (ai (ai (ag (ae (au (v := va) rfl) (ae (bU il rfl (h.iw 1 rfl)) (ae (au (v := (.int .i64 (0))) rfl) (ah (aa (aT ?_))))))))))))))))))
 replace h := h.yF (R := ni) (E := 9) 5
 refine gL (σ := Nat × Int × Value × List Str) (inl [3, 5, 8, 9, 10, 11, 12, 13, 14, 15, 16, 17, 18, 19, 20, 21, 22, 23, 24, 25, 26, 27, 28, 29]) (fun ⟨k9, i10, v7, x8⟩ => [(3, v7), (8, (.int .i64 (i10)))]) (fun ⟨k9, i10, v7, x8⟩ w => SH w0 M BE w (hset [(1, .sr iH va a), (5, .own ni 9 v7 x8)]) ∧ i10 = (k9 : Int) ∧ each (lJ N) lK (a.drop k9) x8 = some r) (fun ⟨k9, i10, v7, x8⟩ => a.length - k9) ⟨0, 0, (.slice none 0 0), []⟩ ⟨rfl, rfl, trivial⟩ ?_ ?_
 exact ⟨h.cn _, rfl, hs⟩
 rintro ⟨k9, i10, v7, x8⟩ w dD ⟨h, hik, hs⟩
 refine ai (ag ?_)
 refine ae (dS rfl rfl) (ah (aa ?_))
 refine ai (iy rfl (fun e14 => ?_) (fun e14 => ?_))
 refine aG (aa ?_)
 obtain ⟨dV, Me, Mf⟩ := gy (hik ▸ e14)
 rw [Mf, dP] at hs
 generalize FZ : each (lJ N) lK (a.drop (k9 + 1)) = nk at hs
 have Mg := gD ((h.iw 1 rfl)).bZ hik e14
 refine ai (aT (ai (ag ?_)))
 obtain ⟨b17, o18, Uc, h, Rm, i16⟩ := h.yE 1 6 rfl il rfl (iQ hik) (gB hik Me)
 obtain ⟨u21, rfl, g22⟩ := qY Rm
 replace h := h.cO 7 g22.up
 refine ae (i16 _ _ _ _ _ _ _ _ _ rfl rfl) (ae (ji (k := 0) (vs := [(.int .i64 (dV.params)), (.int .i64 (dV.locals)), u21]) h 6 rfl ll rfl rfl rfl (Nat.le_of_ble_eq_true rfl)) (bW h 8 ll fun w Bt h => dA (vs := [(.int .i64 (dV.params)), (.int .i64 (dV.locals)), u21]) h 8 [(.int .i64 (dV.params)), (.int .i64 (dV.locals)), u21] rfl ll rfl rfl rfl rfl rfl (ax rfl (ax rfl (ax (h.gF 7 rfl).one bu))) fun w h => ah (aa (lS (L := (ob v7)) mixed h fun w h => aZ 0 (aS.refl _ _) rfl ay (by kernel_rfl) (by kernel_rfl) (by kernel_rfl) (fun w hk => au (v := v7) rfl) (aZ 1 (aS.refl _ _) rfl ay (by kernel_rfl) (by kernel_rfl) (by kernel_rfl) (fun w hk => ak uk rfl) (aZ 2 (aS.refl _ _) rfl ay (by kernel_rfl) (by kernel_rfl) (by kernel_rfl) (fun w hk => have h := h.qB 5 rfl hk; aF h 8 rfl bz rfl rfl) (aZ 6 (aS.refl _ _) rfl ay (by kernel_rfl) (by kernel_rfl) (by kernel_rfl) (fun w hk => ak xE rfl) (aZ 7 (aS.refl _ _) rfl ay (by kernel_rfl) (by kernel_rfl) (by kernel_rfl) (fun w hk => have h := h.qB 5 rfl hk; aF h 8 rfl bz rfl rfl) (aZ 11 (aS.refl _ _) rfl ay (by kernel_rfl) (by kernel_rfl) (by kernel_rfl) (fun w hk => ak zR rfl) (aZ 12 (aS.refl _ _) rfl ay (by kernel_rfl) (by kernel_rfl) (by kernel_rfl) (fun w hk => have h := h.qB 5 rfl hk; aF h 8 rfl ow rfl rfl) ?_))))))))))
 obtain ⟨Q9, KC⟩ : ∃ x, x = w := ⟨_, rfl⟩
 have rE : aS (ob v7) Q9 w := KC ▸ aS.refl (ob v7) w
 refine rP KC.symm (bP 3 (by kernel_rfl) rfl ay ?_)
 obtain ⟨oh, Rn, hs⟩ := aP hs
 refine bA Fh rfl rfl (rW _ _ h.lt (hT.go h.keep) dV.params _ Rn) ?_
 rintro _ w ⟨KI, rfl⟩
 refine ⟨_, rfl, ?_⟩
 replace h := h.grow KI
 replace rE := rE.grow KI
 refine ah (aX rE ?_)
 obtain ⟨FX, hs⟩ := bI hs
 refine aZ 4 rE rfl ay (by kernel_rfl) (by kernel_rfl) (by kernel_rfl) (fun w hk => lC rfl rfl FX) ?_
 obtain ⟨Ro, hs⟩ := bI hs
 refine aZ 5 rE rfl ay (by kernel_rfl) (by kernel_rfl) (by kernel_rfl) (fun w hk => lC rfl rfl Ro) (bP 8 (by kernel_rfl) rfl ay ?_)
 obtain ⟨qE, Rp, hs⟩ := aP hs
 refine bA Fh rfl rfl (rW _ _ h.lt (hT.go h.keep) dV.locals _ Rp) ?_
 rintro _ w ⟨KJ, rfl⟩
 refine ⟨_, rfl, ?_⟩
 replace h := h.grow KJ
 replace rE := rE.grow KJ
 refine ah (aX rE ?_)
 obtain ⟨Rq, hs⟩ := bI hs
 refine aZ 9 rE rfl ay (by kernel_rfl) (by kernel_rfl) (by kernel_rfl) (fun w hk => lC rfl rfl Rq) ?_
 obtain ⟨OM, hs⟩ := bI hs
 refine aZ 10 rE rfl ay (by kernel_rfl) (by kernel_rfl) (by kernel_rfl) (fun w hk => lC rfl rfl OM) (bP 13 (by kernel_rfl) rfl ay ?_)
 obtain ⟨rq, OO, hs⟩ := aP hs
 refine bA Ju rfl rfl (xQ N _ _ h.lt (hT.go h.keep) u21 dV.body (h.lY 7 rfl) _ OO) ?_
 rintro _ w ⟨Ij, rfl⟩
 refine ⟨_, rfl, ?_⟩
 replace h := h.grow Ij
 replace rE := rE.grow Ij
 refine ah (aX rE ?_)
 obtain ⟨OP, hs⟩ := bI hs
 refine aZ 14 rE rfl ay (by kernel_rfl) (by kernel_rfl) (by kernel_rfl) (fun w hk => lC rfl rfl OP) (bP 15 (by kernel_rfl) rfl ay (zn (R := ni) (vs := [(bg ((((([102, 117, 110, 32] ++ oh) ++ [32]) ++ qE) ++ [32]) ++ rq))]) (xs := [((((([102, 117, 110, 32] ++ oh) ++ [32]) ++ qE) ++ [32]) ++ rq)]) h 189 Ih rfl rfl rfl ⟨rfl, trivial⟩ rfl fun w OQ h Mh Mi => ?_))
 have Wp : ∀ b, ob OQ b → Q9.heap.size ≤ b := fun b hb => Nat.le_trans rE.size (Mi b hb)
 replace rE := rE.grow Mh
 refine ah (aX rE (bP 16 (by kernel_rfl) rfl ay ?_))
 obtain ⟨Ik, hs⟩ := bI hs
 have Wq := rE.size
 refine oL (R := ni) (m := [((((([102, 117, 110, 32] ++ oh) ++ [32]) ++ qE) ++ [32]) ++ rq)]) h 5 rfl (h.ed 189 rfl) Ih rfl rfl rfl Ik.1 Ik.2 fun w DD h Mj Mk => ?_
 have Ws : ∀ b, ob DD b → b < Q9.heap.size → ob v7 b := fun b hb hl => Mk b hb (Nat.lt_of_lt_of_le hl (rE).size)
 replace rE := rE.same Mj
 refine ah (aX rE (aZ 17 rE rfl ay (by kernel_rfl) (by kernel_rfl) (by kernel_rfl) (fun w hk => aj (v := DD) rfl) (fZ (by kernel_rfl) (aA (aa (ag (ae (dC rfl rfl Mg) (ae (au (v := (.int .i64 ((i10 + 1)))) rfl) (ah (az ?_))))))))))
 subst FZ
 exact jN ⟨k9 + 1, i10 + 1, DD, (x8 ++ [((((([102, 117, 110, 32] ++ oh) ++ [32]) ++ qE) ++ [32]) ++ rq)])⟩ ⟨h.cn _, by omega, hs⟩ (by have := of_decide_eq_true e14; dsimp only; omega)
 rw [gz (hik ▸ e14), gU] at hs
 refine df (aO (aO (bF (aa (ai (ag (ae (au (v := v7) rfl) ?_)))))))
 obtain ⟨Fq, e31, hs⟩ := aP hs
 refine bA TV rfl rfl (FY _ _ h.lt v7 x8 (h.ed 5 rfl) [32] _ e31) ?_
 rintro _ w ⟨k32, rfl⟩
 refine ⟨_, rfl, ?_⟩
 replace h := h.grow k32
 refine ae (aj (v := (bg Fq)) rfl) (ah (aa (aI (bV (v := (bg Fq)) Tryz.results113 rfl ?_))))
 obtain rfl := Option.some.inj hs
 exact ⟨h.grown, rfl⟩
def stringslite_HasPrefix (a : Str) (b : Str) : Option Bool :=
  bif decide (((b.length : Int) : Int) ≤ (a.length : Int)) then (subs? a 0 (b.length : Int)).bind fun x2 => some (decide ((x2 : Str) = b)) else some false
theorem xR (w0 : World) (M : BS) (hM : ∀ b, M b → b < w0.heap.size) (a : Str) (b : Str) (r : Bool) (hs : stringslite_HasPrefix a b = some r) :
    Calls Tryz.prog 141 #[(bg a), (bg b)] w0 (fun e w' => Grow w0 w' ∧ e = .returned (.bool r)) := by
 refine aQ (args := [(bg a), (bg b)]) Tryz.func141 rfl Tryz.ntmps141 (Nat.le_of_ble_eq_true rfl) ?_
 have h := SH.init hM
 refine ai (ag (ae (aj (v := (.bool (false))) rfl) (ah (aa (ai (ag (ae (au (v := (bg a)) rfl) (ae (Ja Tryz.underlying9 rfl) (ae (au (v := (bg b)) rfl) (ae (Ja Tryz.underlying9 rfl) (ae (oI rfl rfl) (ae (au (v := (.bool (decide (((b.length : Int) : Int) ≤ (a.length : Int))))) rfl) (jH (b := decide (((b.length : Int) : Int) ≤ (a.length : Int))) hs (fun c1 hs => ?_) (fun c1 hs => ?_))))))))))))))
 refine dn rfl (congrArg Value.bool c1) (ae (au (v := (bg a)) rfl) (dn rfl (congrArg Value.bool c1) (ae (au (v := (bg b)) rfl) (dn rfl (congrArg Value.bool c1) (ae (Ja Tryz.underlying9 rfl) (dn rfl (congrArg Value.bool c1) ?_))))))
 obtain ⟨x2, e3, hs⟩ := aP hs
 obtain ⟨e4a, e4b, e4c, e4⟩ := LM e3
 refine ae (LK e4 Tryz.underlying9 rfl (.inl ⟨rfl, rfl⟩) (.inr (congrArg some rfl)) e4a e4b e4c) (dn rfl (congrArg Value.bool c1) (ae (au (v := (bg b)) rfl) (dn rfl (congrArg Value.bool c1) (ae (Dq rfl rfl) (ae (dL (b := true) (v := (.bool (decide ((x2 : Str) = b)))) (congrArg Value.bool c1) rfl) (ae (aj (v := (.bool (decide ((x2 : Str) = b)))) rfl) (ah (aa (aI (bV (v := (.bool (decide ((x2 : Str) = b)))) Tryz.results141 rfl ?_))))))))))
 obtain rfl := Option.some.inj hs
 exact ⟨h.grown, rfl⟩
 refine bE (b' := false) rfl (congrArg Value.bool c1) rfl (bE (b' := false) rfl (congrArg Value.bool c1) rfl (bE (b' := false) rfl (congrArg Value.bool c1) rfl (bE (b' := false) rfl (congrArg Value.bool c1) rfl (bE (b' := false) rfl (congrArg Value.bool c1) rfl (bE (b' := false) rfl (congrArg Value.bool c1) rfl (ae (dL (b := false) (v := (.bool (false))) (congrArg Value.bool c1) rfl) (ae (aj (v := (.bool (false))) rfl) (ah (aa (aI (bV (v := (.bool (false))) Tryz.results141 rfl ?_)))))))))))
 obtain rfl := Option.some.inj hs
 exact ⟨h.grown, rfl⟩
def stringslite_TrimPrefix (a : Str) (b : Str) : Option Str :=
  (stringslite_HasPrefix a b).bind fun y1 => bif y1 then (subs? a (b.length : Int) (a.length : Int)).bind fun x5 => some x5 else some a
theorem xh (w0 : World) (M : BS) (hM : ∀ b, M b → b < w0.heap.size) (a : Str) (b : Str) (r : Str) (hs : stringslite_TrimPrefix a b = some r) :
    Calls Tryz.prog 124 #[(bg a), (bg b)] w0 (fun e w' => Grow w0 w' ∧ e = .returned (bg r)) := by
 refine aQ (args := [(bg a), (bg b)]) Tryz.func124 rfl Tryz.ntmps124 (Nat.le_of_ble_eq_true rfl) ?_
 have h := SH.init hM
 refine ai (ag (ae (aj (v := (bg [])) rfl) (ah (aa (ai (ai (ag (ae (au (v := (bg a)) rfl) (ae (au (v := (bg b)) rfl) ?_)))))))))
 obtain ⟨y1, e2, hs⟩ := aP hs
 refine bA TW rfl rfl (xR _ _ h.lt a b _ e2) ?_
 rintro _ w ⟨k3, rfl⟩
 refine ⟨_, rfl, ?_⟩
 replace h := h.grow k3
 refine ah (aa (aK hs rfl (fun c4 hs => ?_) (fun c4 hs => ?_)))
 refine ai (ag (ae (au (v := (bg a)) rfl) (ae (au (v := (bg b)) rfl) (ae (Ja Tryz.underlying9 rfl) ?_))))
 obtain ⟨x5, e6, hs⟩ := aP hs
 obtain ⟨e7a, YD, e7c, e7⟩ := LM e6
 refine ae (LK e7 Tryz.underlying9 rfl (.inr (congrArg some rfl)) (.inl ⟨rfl, rfl⟩) e7a YD e7c) (ae (aj (v := (bg x5)) rfl) (ah (aa (aI (aC (bV (v := (bg x5)) Tryz.results124 rfl ?_))))))
 obtain rfl := Option.some.inj hs
 exact ⟨h.grown, rfl⟩
 refine aG (aa (ai (ag (ae (au (v := (bg a)) rfl) (ae (aj (v := (bg a)) rfl) (ah (aa (aI (bV (v := (bg a)) Tryz.results124 rfl ?_)))))))))
 obtain rfl := Option.some.inj hs
 exact ⟨h.grown, rfl⟩
def strings_TrimPrefix (a : Str) (b : Str) : Option Str :=
  (stringslite_TrimPrefix a b).bind fun y1 => some y1
theorem zT (w0 : World) (M : BS) (hM : ∀ b, M b → b < w0.heap.size) (a : Str) (b : Str) (r : Str) (hs : strings_TrimPrefix a b = some r) :
    Calls Tryz.prog 105 #[(bg a), (bg b)] w0 (fun e w' => Grow w0 w' ∧ e = .returned (bg r)) := by
 refine aQ (args := [(bg a), (bg b)]) Tryz.func105 rfl Tryz.ntmps105 (Nat.le_of_ble_eq_true rfl) ?_
 have h := SH.init hM
 refine ai (ag (ae (aj (v := (bg [])) rfl) (ah (aa (ai (ag (ae (au (v := (bg a)) rfl) (ae (au (v := (bg b)) rfl) ?_))))))))
 obtain ⟨y1, e2, hs⟩ := aP hs
 refine bA TU rfl rfl (xh _ _ h.lt a b _ e2) ?_
 rintro _ w ⟨k3, rfl⟩
 refine ⟨_, rfl, ?_⟩
 replace h := h.grow k3
 refine ae (aj (v := (bg y1)) rfl) (ah (aa (aI (bV (v := (bg y1)) Tryz.results105 rfl ?_))))
 obtain rfl := Option.some.inj hs
 exact ⟨h.grown, rfl⟩
def nI (a : List Str) (b : Str) (i2 : Int) (s : Unit) (Hd : Unit → Option Int) : Option Int :=
  (idx a i2).bind fun x8 => bif decide ((b : Str) = x8) then some i2 else Hd ()
def nJ (s : Unit) : Option Int :=
  some (-1)
def slices_Index_string (a : List Str) (b : Str) : Option Int :=
  upto (nI a b) nJ 0 ((a.length : Int)).toNat ()
theorem zx (w0 : World) (M : BS) (hM : ∀ b, M b → b < w0.heap.size) (va : Value) (a : List Str) (ha : gp ni w0 BE M va a) (b : Str) (r : Int) (hs : slices_Index_string a b = some r) :
    Calls Tryz.prog 110 #[va, (bg b)] w0 (fun e w' => Grow w0 w' ∧ e = .returned (.int .i64 r)) := by
 refine aQ (args := [va, (bg b)]) Tryz.func110 rfl Tryz.ntmps110 (Nat.le_of_ble_eq_true rfl) ?_
 have h := SH.init hM
 replace h := h.fC 1 ha bJ
 have uu := ha.bZ
 refine ai (ag (ae (aj (v := (.int .i64 (0))) rfl) (ah (aa (ai (ai (ag (ae (au (v := va) rfl) (ae (bU eB rfl (h.iw 1 rfl)) (ae (au (v := (.int .i64 (0))) rfl) (ah (aa (aT ?_)))))))))))))
 have hli2 := (h.iw 1 rfl).bZ
 refine gL (σ := Nat × Int) (inl [4, 5, 8, 9, 10, 11, 12, 13, 14, 15, 16, 17, 18]) (fun ⟨k1, i2⟩ => [(8, (.int .i64 (i2)))]) (fun ⟨k1, i2⟩ w => SH w0 M BE w (hset [(1, .sr ni va a)]) ∧ i2 = (k1 : Int) ∧ upto (nI a b) nJ i2 (((a.length : Int)).toNat - k1) () = some r) (fun ⟨k1, i2⟩ => ((a.length : Int)).toNat - k1) ⟨0, 0⟩ ⟨rfl, trivial⟩ ?_ ?_
 exact ⟨h.cn _, rfl, hs⟩
 rintro ⟨k1, i2⟩ w dD ⟨h, hik, hs⟩
 refine ai (ag ?_)
 refine ae (dS rfl rfl) (ah (aa ?_))
 refine ai (iy rfl (fun e6 => ?_) (fun e6 => ?_))
 refine aG (aa ?_)
 rw [tO (by have := of_decide_eq_true e6; omega)] at hs
 generalize Wn : upto (nI a b) nJ (i2 + 1) (((a.length : Int)).toNat - (k1 + 1)) = Hd at hs
 have e7r : jB (i2 + 1) := (by have := of_decide_eq_true e6; have := hli2; exact jB.mk (by omega) (by omega))
 refine ai (aT (ai (ag (ae (au (v := (.int .i64 (i2))) rfl) (ae (aj (v := (.int .i64 (i2))) rfl) (ah (aa (ai (ag (ae (au (v := (bg b)) rfl) (ae (au (v := va) rfl) (ae (au (v := (.int .i64 (i2))) rfl) ?_))))))))))))
 obtain ⟨x8, e9, hs⟩ := aP hs
 obtain ⟨b11, o12, YI, h, r14, i10⟩ := h.yE 1 2 rfl eB rfl (aJ e9).1 (aJ e9).2
 obtain rfl := r14
 refine ae (i10 _ _ _ _ _ _ _ _ _ rfl rfl) (ae (ek (k := 0) h 2 rfl xK rfl rfl) (ae (Dq rfl rfl) (ah (aa (aK hs rfl (fun c15 hs => ?_) (fun c15 hs => ?_))))))
 refine ai (ag (ae (au (v := (.int .i64 (i2))) rfl) (ae (aj (v := (.int .i64 (i2))) rfl) (ah (aa (aI (aH (aC (aC (aH (aC (bV (v := (.int .i64 (i2))) Tryz.results110 rfl ?_))))))))))))
 obtain rfl := Option.some.inj hs
 exact ⟨h.grown, rfl⟩
 refine aG (aA (aa (ag (ae (dC rfl rfl e7r) (ae (au (v := (.int .i64 ((i2 + 1)))) rfl) (ah (az ?_)))))))
 subst Wn
 exact jN ⟨k1 + 1, i2 + 1⟩ ⟨h.cn _, by omega, hs⟩ (by have := of_decide_eq_true e6; dsimp only; omega)
 rw [tQ (by have := of_decide_eq_false e6; omega)] at hs
 refine df (aO (aO (bF (aa (ai (ag (ae (aj (v := (.int .i64 (-1))) rfl) (ah (aa (aI (bV (v := (.int .i64 (-1))) Tryz.results110 rfl ?_)))))))))))
 obtain rfl := Option.some.inj hs
 exact ⟨h.grown, rfl⟩
def yU (BC : Int) (JB : (Int × Int × Int) → Option (List Tok × dJ)) (AQ : Int) (wH : Int) : Option (List Tok × dJ) :=
  gQ (jB (BC + 1)) (JB ((BC + 1), AQ, wH))
def yV (x29 : Str) (xS : List Tok) (F : List eX) (y31 : Int) (yz : Int) (xO : (List Tok × Int × Bool × Int) → Option (List Tok × dJ)) (Fq : Bool) (s : Int × Int × Int) (JB : Int × Int × Int → Option (List Tok × dJ)) : Option (List Tok × dJ) :=
  match s with | (BC, Fs, sS) => bif decide ((BC : Int) ≤ 5) then (jg (⟨3, BC⟩ : Tok)).bind fun Fu => bif decide ((Fu : Str) = x29) then yU BC JB 3 BC else yU BC JB Fs sS else gQ (Room 16 xS [(⟨Fs, sS⟩ : Tok)]) (bif (decide (((dY (⟨Fs, sS⟩ : Tok) F 6) : Int) ≠ 0) || decide ((24 : Int) < ((xS ++ [(⟨Fs, sS⟩ : Tok)]).length : Int))) then some ((xS ++ [(⟨Fs, sS⟩ : Tok)]), (⟨y31, false⟩ : dJ)) else (qb (⟨Fs, sS⟩ : Tok) F).bind fun U5 => gQ (jB (yz + U5)) (gQ (jB ((yz + U5) - 1)) (xO ((xS ++ [(⟨Fs, sS⟩ : Tok)]), ((yz + U5) - 1), Fq, y31))))
def rZ (uT : (Int × Str)) (CK : Int × Bool) (LB : Int) (vY : Int) (XI : Bool) : Option (Int × Int) :=
  bif XI then some (uT.1, CK.1) else some (LB, vY)
def nK (x29 : Str) (uT : (Int × Str)) (s : Int × Int) : Option (Int × Int) :=
  match s with | (LB, vY) => (strings_TrimPrefix x29 uT.2).bind fun JC => (zN JC).bind fun CK => bif (!CK.2) then (jg (⟨uT.1, CK.1⟩ : Tok)).bind fun qA => rZ uT CK LB vY (decide ((qA : Str) = x29)) else rZ uT CK LB vY false
def CL (N : Nat) (x29 : Str) (xS : List Tok) (F : List eX) (y31 : Int) (yz : Int) (xO : (List Tok × Int × Bool × Int) → Option (List Tok × dJ)) (Fq : Bool) (s : Int × Int) : Option (List Tok × dJ) :=
  match s with | (LB, vY) => again (yV x29 xS F y31 yz xO Fq) N (1, LB, vY)
def r9 (N : Nat) (xS : List Tok) (F : List eX) (yz : Int) (xO : (List Tok × Int × Bool × Int) → Option (List Tok × dJ)) (x29 : Str) (Fq : Bool) (y31 : Int) : Option (List Tok × dJ) :=
  (wP (nK x29) ([(2, [118]), (4, [46]), (5, [110, 101, 119]), (6, [102]), (1, [])] : List (Int × Str)) (0, 0)).bind fun KL => (CL N x29 xS F y31 yz xO Fq) KL
def si (N : Nat) (W : List Str) (F : List eX) (s : List Tok × Int × Bool × Int) (xO : List Tok × Int × Bool × Int → Option (List Tok × dJ)) : Option (List Tok × dJ) :=
  match s with | (xS, yz, Ml, y20) => bif (decide ((0 : Int) < yz) && Ml) then bif decide (((W.length : Int) : Int) ≤ y20) then r9 N xS F yz xO [] false y20 else gQ (jB (y20 + 1)) (gQ (jB ((y20 + 1) - 1)) ((idx W ((y20 + 1) - 1)).bind fun x103 => r9 N xS F yz xO x103 Ml (y20 + 1))) else some (xS, (⟨y20, Ml⟩ : dJ))
def CO (N : Nat) (sx : dJ) (W : List Str) (F : List eX) : Option (List Tok × dJ) :=
  again (si N W F) N ([], 1, sx.ok, sx.at_)
theorem Il (N : Nat) (w0 : World) (M : BS) (hM : ∀ b, M b → b < w0.heap.size) (hT : uh Tryz.prog 4 w0) (ba bo bw bwd bf : Nat) (sx : dJ) (hC : Chunk.holds w0 M (Chunk.own' (.two (.blk ba [(.int .i64 (sx.at_))]) (.blk bo [(.bool (sx.ok))]) : Chunk)) (.two (.blk ba [(.int .i64 (sx.at_))]) (.blk bo [(.bool (sx.ok))]) : Chunk)) (hap : ∀ b, Chunk.own' (.two (.blk ba [(.int .i64 (sx.at_))]) (.blk bo [(.bool (sx.ok))]) : Chunk) b → ¬ M b) (vW : Value) (W : List Str) (YO : fo ni w0 (fun b => M b ∨ Chunk.own' (.two (.blk ba [(.int .i64 (sx.at_))]) (.blk bo [(.bool (sx.ok))]) : Chunk) b) vW W) (vF : Value) (F : List eX) (YP : gp iH w0 (Chunk.own' (.two (.blk ba [(.int .i64 (sx.at_))]) (.blk bo [(.bool (sx.ok))]) : Chunk)) (fun b => M b ∨ Chunk.own' (.two (.blk ba [(.int .i64 (sx.at_))]) (.blk bo [(.bool (sx.ok))]) : Chunk) b) vF F) (hbw : ∃ E, w0.heap[bw]? = some (.cells #[vW] E (0, 0))) (Rs : ¬ Chunk.own' (.two (.blk ba [(.int .i64 (sx.at_))]) (.blk bo [(.bool (sx.ok))]) : Chunk) bw) (JD : ∃ E, w0.heap[bwd]? = some (.cells #[(.func (.func 103) #[] #[(.pointer (some ⟨ba, 0, none⟩)), (.pointer (some ⟨bw, 0, none⟩)), (.pointer (some ⟨bo, 0, none⟩))])] E (0, 0))) (F3 : ¬ Chunk.own' (.two (.blk ba [(.int .i64 (sx.at_))]) (.blk bo [(.bool (sx.ok))]) : Chunk) bwd) (hbf : ∃ E, w0.heap[bf]? = some (.cells #[vF] E (0, 0))) (Rt : ¬ Chunk.own' (.two (.blk ba [(.int .i64 (sx.at_))]) (.blk bo [(.bool (sx.ok))]) : Chunk) bf) (hG : ∀ b, Chunk.own' (.two (.blk ba [(.int .i64 (sx.at_))]) (.blk bo [(.bool (sx.ok))]) : Chunk) b → Tryz.prog.globals.size ≤ b) (r : List Tok × dJ) (hs : CO N sx W F = some r) :
    Calls Tryz.prog 104 #[(.pointer (some ⟨bo, 0, none⟩)), (.pointer (some ⟨bwd, 0, none⟩)), (.pointer (some ⟨bf, 0, none⟩))] w0 (fun e w' => aS (Chunk.own' (.two (.blk ba [(.int .i64 (sx.at_))]) (.blk bo [(.bool (sx.ok))]) : Chunk)) w0 w' ∧ ∃ u0, e = .returned (u0) ∧ Chunk.holds w' M (Chunk.own' (.two (.blk ba [.int .i64 r.2.at_]) (.blk bo [.bool r.2.ok]) : Chunk)) (.two (.blk ba [.int .i64 r.2.at_]) (.blk bo [.bool r.2.ok]) : Chunk) ∧ (∀ b, Chunk.own' (.two (.blk ba [.int .i64 r.2.at_]) (.blk bo [.bool r.2.ok]) : Chunk) b → b < w0.heap.size → Chunk.own' (.two (.blk ba [(.int .i64 (sx.at_))]) (.blk bo [(.bool (sx.ok))]) : Chunk) b) ∧ fo jU w' (fun b => M b ∨ Chunk.own' (.two (.blk ba [.int .i64 r.2.at_]) (.blk bo [.bool r.2.ok]) : Chunk) b) u0 r.1) := by
 refine aQ (args := [(.pointer (some ⟨bo, 0, none⟩)), (.pointer (some ⟨bwd, 0, none⟩)), (.pointer (some ⟨bf, 0, none⟩))]) Tryz.func104 rfl Tryz.ntmps104 (Nat.le_of_ble_eq_true rfl) ?_
 have h := SH.ED hM hC hap
 replace h := h.Bw 3 YO zw
 replace h := h.QB 4 YP (rQ zw)
 replace h := h.yM 5 (cs := [vW]) hbw Rs (wQ (rQ zw))
 replace h := h.yM 6 (cs := [(.func (.func 103) #[] #[(.pointer (some ⟨ba, 0, none⟩)), (.pointer (some ⟨bw, 0, none⟩)), (.pointer (some ⟨bo, 0, none⟩))])]) JD F3 (p9 (wQ (rQ zw)))
 replace h := h.yM 7 (cs := [vF]) hbf Rt (p9 (p9 (wQ (rQ zw))))
 have Mm := Rs
 have F4 := F3
 have Mo := Rt
 generalize zy : (.two (.blk ba [(.int .i64 (sx.at_))]) (.blk bo [(.bool (sx.ok))]) : Chunk).own' = K0 at h Mm F4 Mo hG
 replace h := h.bX 1 2 (by decide) rfl rfl
 refine ai (ag (ae (aj (v := (.slice none 0 0)) rfl) (ah (aa (ai (ag (ae (aj (v := (.slice none 0 0)) rfl) (ah (aa (ai (ai (ag (ae (aj (v := (.int .i64 (1))) rfl) (ah (aa (aT ?_))))))))))))))))
 replace h := h.yF (R := jU) (E := 160) 11
 refine gL (σ := Nat × Value × List Tok × Int × Bool × Int) (inl [4, 5, 6, 7, 8, 9, 10, 11, 12, 13, 14, 15, 16, 17, 18, 19, 20, 21, 22, 23, 24, 25, 26, 27, 28, 29, 30, 31, 32, 33, 34, 35, 36, 37, 38, 39, 40, 41, 42, 43, 44, 45, 46, 47, 48, 49, 50, 51, 52, 53, 54, 55, 56, 57, 58, 59, 60, 61, 62, 63, 64, 65, 66, 67, 68, 69, 70, 71, 72, 73, 74, 75, 76, 77, 78, 79]) (fun ⟨m24, v16, xS, yz, Ml, y20⟩ => [(4, v16), (5, (.int .i64 (yz)))]) (fun ⟨m24, v16, xS, yz, Ml, y20⟩ w => SH w0 M K0 w (hset [(1, .blk ba [(.int .i64 (y20))]), (2, .blk bo [(.bool (Ml))]), (3, .rd ni vW W), (4, .sr iH vF F), (5, .pt bw 0 [vW]), (6, .pt bwd 0 [(.func (.func 103) #[] #[(.pointer (some ⟨ba, 0, none⟩)), (.pointer (some ⟨bw, 0, none⟩)), (.pointer (some ⟨bo, 0, none⟩))])]), (7, .pt bf 0 [vF]), (11, .own jU 160 v16 xS)]) ∧ again (si N W F) m24 (xS, yz, Ml, y20) = some r) (fun ⟨m24, v16, xS, yz, Ml, y20⟩ => m24) ⟨N, (.slice none 0 0), [], 1, sx.ok, sx.at_⟩ ⟨rfl, rfl, trivial⟩ ?_ ?_
 exact ⟨h.cn _, hs⟩
 rintro ⟨m24, v16, xS, yz, Ml, y20⟩ w dD ⟨h, hs⟩
 obtain ⟨YQ, m24e, m24h⟩ := qW hs
 subst m24e
 replace hs := m24h
 generalize Q4 : again (si N W F) YQ = xO at hs
 refine ai (ai (ag (ae (au (v := (.int .i64 (yz))) rfl) (ae (jA rfl rfl) (ae (au (v := (.bool (decide ((0 : Int) < yz)))) rfl) (aD rfl rfl (fun q => aF h 2 rfl wI rfl rfl) (ae (fT rfl rfl lQ) (ah (aa (aK hs rfl (fun c28 hs => ?_) (fun c28 hs => ?_)))))))))))
 refine aG (aa (ai (aT (bY (σ := Str × Bool × Int) (inl [6, 20, 21]) (fun ⟨x29, Fq, y31⟩ => [(6, (bg x29))]) (fun ⟨x29, Fq, y31⟩ w => SH w0 M K0 w (hset [(1, .blk ba [(.int .i64 (y31))]), (2, .blk bo [(.bool (Fq))]), (3, .rd ni vW W), (4, .sr iH vF F), (5, .pt bw 0 [vW]), (6, .pt bwd 0 [(.func (.func 103) #[] #[(.pointer (some ⟨ba, 0, none⟩)), (.pointer (some ⟨bw, 0, none⟩)), (.pointer (some ⟨bo, 0, none⟩))])]), (7, .pt bf 0 [vF]), (11, .own jU 160 v16 xS)]) ∧ r9 N xS F yz xO x29 Fq y31 = some r) ?_ ?_))))
 rintro ⟨x29, Fq, y31⟩ w dD ⟨h, hs⟩
 refine ai (ag (ae (dO (pv := []) (out := [(.int .i64 (0)), (.int .i64 (0))]) xL rfl rfl) (bW h 12 jI fun w b32 h => dA (vs := [(.int .i64 (0)), (.int .i64 (0))]) h 12 [(.int .i64 (0)), (.int .i64 (0))] rfl jI rfl rfl rfl rfl rfl (ax rfl (ax rfl bu)) fun w h => ah (aa (ai (ai (ag (Av h 13 fun w Wt h => mi (oK := [(2, (bg [118]))]) h 13 rfl ko rfl rfl rfl rfl fun w h => mi (oK := [(2, (bg [118])), (4, (bg [46]))]) h 13 rfl ko rfl rfl rfl rfl fun w h => mi (oK := [(2, (bg [118])), (4, (bg [46])), (5, (bg [110, 101, 119]))]) h 13 rfl ko rfl rfl rfl rfl fun w h => mi (oK := [(2, (bg [118])), (4, (bg [46])), (5, (bg [110, 101, 119])), (6, (bg [102]))]) h 13 rfl ko rfl rfl rfl rfl fun w h => mi (oK := [(2, (bg [118])), (4, (bg [46])), (5, (bg [110, 101, 119])), (6, (bg [102])), (1, (bg []))]) h 13 rfl ko rfl rfl rfl rfl fun w h => ae (au (v := (.map (some Wt))) rfl) (TD (f := bg) ([(2, [118]), (4, [46]), (5, [110, 101, 119]), (6, [102]), (1, [])] : List (Int × Str)) h 13 rfl ko rfl rfl fun w b34 h => ah (aa (aT ?_)))))))))))
 obtain ⟨KL, Mq, hs⟩ := aP hs
 replace Mq := VK Mq
 refine gL (σ := List (Int × Str) × Int × Int) (inl [8, 9, 10, 11, 26, 27, 28, 29, 30, 31, 32, 33, 34, 35, 36, 37, 38, 39, 40, 41, 42, 43, 44, 45, 46, 47, 48, 49, 50]) (fun ⟨lf43, LB, vY⟩ => []) (fun ⟨lf43, LB, vY⟩ w => SH w0 M K0 w (hset [(1, .blk ba [(.int .i64 (y31))]), (2, .blk bo [(.bool (Fq))]), (3, .rd ni vW W), (4, .sr iH vF F), (5, .pt bw 0 [vW]), (6, .pt bwd 0 [(.func (.func 103) #[] #[(.pointer (some ⟨ba, 0, none⟩)), (.pointer (some ⟨bw, 0, none⟩)), (.pointer (some ⟨bo, 0, none⟩))])]), (7, .pt bf 0 [vF]), (11, .own jU 160 v16 xS), (12, .blk b32 [(.int .i64 (LB)), (.int .i64 (vY))]), (13, .bL (Ha bg Wt b34 none lf43))]) ∧ qK (nK x29) lf43 (LB, vY) KL) (fun ⟨lf43, LB, vY⟩ => lf43.length) ⟨([(2, [118]), (4, [46]), (5, [110, 101, 119]), (6, [102]), (1, [])] : List (Int × Str)), 0, 0⟩ trivial ?_ ?_
 exact ⟨h.cn _, Mq⟩
 rintro ⟨lf43, LB, vY⟩ w dD ⟨h, hf⟩
 refine ai (ag ?_)
 refine VJ h 13 rfl rfl (fun e48 => ?_) (fun uT Wu w e48 h => ?_)
 obtain rfl := qK.nil (e48 ▸ hf)
 refine ae (bB rfl rfl) (ah (aa ?_))
 refine ai (Vq rfl (df (aO (aO (bF (aa (ai (ai (ag (ae (aj (v := (.int .i64 (1))) rfl) (ah (aa (aT (gL (σ := Nat × Int × Int × Int) (inl [12, 51, 52, 53, 54, 55, 56, 57, 58, 59, 60, 61]) (fun ⟨m64, BC, Fs, sS⟩ => [(12, (.int .i64 (BC)))]) (fun ⟨m64, BC, Fs, sS⟩ w => SH w0 M K0 w (hset [(1, .blk ba [(.int .i64 (y31))]), (2, .blk bo [(.bool (Fq))]), (3, .rd ni vW W), (4, .sr iH vF F), (5, .pt bw 0 [vW]), (6, .pt bwd 0 [(.func (.func 103) #[] #[(.pointer (some ⟨ba, 0, none⟩)), (.pointer (some ⟨bw, 0, none⟩)), (.pointer (some ⟨bo, 0, none⟩))])]), (7, .pt bf 0 [vF]), (11, .own jU 160 v16 xS), (12, .blk b32 [(.int .i64 (Fs)), (.int .i64 (sS))])]) ∧ again (yV x29 xS F y31 yz xO Fq) m64 (BC, Fs, sS) = some r) (fun ⟨m64, BC, Fs, sS⟩ => m64) ⟨N, 1, LB, vY⟩ ⟨rfl, trivial⟩ ?_ ?_))))))))))))))
 exact ⟨h.cn _, hs⟩
 rintro ⟨m64, BC, Fs, sS⟩ w dD ⟨h, hs⟩
 obtain ⟨YR, m64e, m64h⟩ := qW hs
 subst m64e
 replace hs := m64h
 generalize Ru : again (yV x29 xS F y31 yz xO Fq) YR = JB at hs
 refine ai (ai (ag (ae (au (v := (.int .i64 (BC))) rfl) (ae (Cn rfl rfl) (ah (aa (aK hs rfl (fun c68 hs => ?_) (fun c68 hs => ?_))))))))
 refine aG (aa (bY (σ := Int × Int) (inl [55, 56, 57, 58, 59, 60, 61]) (fun ⟨AQ, wH⟩ => []) (fun ⟨AQ, wH⟩ w => SH w0 M K0 w (hset [(1, .blk ba [(.int .i64 (y31))]), (2, .blk bo [(.bool (Fq))]), (3, .rd ni vW W), (4, .sr iH vF F), (5, .pt bw 0 [vW]), (6, .pt bwd 0 [(.func (.func 103) #[] #[(.pointer (some ⟨ba, 0, none⟩)), (.pointer (some ⟨bw, 0, none⟩)), (.pointer (some ⟨bo, 0, none⟩))])]), (7, .pt bf 0 [vF]), (11, .own jU 160 v16 xS), (12, .blk b32 [(.int .i64 (AQ)), (.int .i64 (wH))])]) ∧ yU BC JB AQ wH = some r) ?_ ?_))
 rintro ⟨AQ, wH⟩ w dD ⟨h, hs⟩
 refine ag (ae (au (v := (.int .i64 (BC))) rfl) ?_)
 obtain ⟨a71, hs⟩ := bI hs
 refine ae (dC rfl rfl a71) (ae (aj (v := (.int .i64 ((BC + 1)))) rfl) (ah (az ?_)))
 subst Ru
 exact jN ⟨YR, (BC + 1), AQ, wH⟩ ⟨h.cn _, hs⟩
 refine aT (ai (ag (ae (au (v := (.int .i64 (BC))) rfl) (ae (dO (pv := [(0, (.int .i64 (3))), (1, (.int .i64 (BC)))]) (out := [(.int .i64 (3)), (.int .i64 (BC))]) xL rfl ⟨0, 1, [(.int .i64 (3))], rfl, rfl, rfl, Nat.le_of_ble_eq_true rfl, ⟨1, 1, [(.int .i64 (BC))], rfl, rfl, rfl, Nat.le_of_ble_eq_true rfl, rfl⟩⟩) ?_))))
 obtain ⟨Fu, e73, hs⟩ := aP hs
 refine bA Jq rfl rfl (oC _ _ h.lt (hT.Qs h.keep hG) (⟨3, BC⟩ : Tok) _ e73) ?_
 rintro _ w ⟨k74, rfl⟩
 refine ⟨_, rfl, ?_⟩
 replace h := h.grow k74
 refine ae (au (v := (bg x29)) rfl) (ae (Dq rfl rfl) (ah (aa (aK hs rfl (fun c75 hs => ?_) (fun c75 hs => ?_)))))
 refine ag (ae (au (v := (.int .i64 (BC))) rfl) (ae (dO (pv := [(0, (.int .i64 (3))), (1, (.int .i64 (BC)))]) (out := [(.int .i64 (3)), (.int .i64 (BC))]) xL rfl ⟨0, 1, [(.int .i64 (3))], rfl, rfl, rfl, Nat.le_of_ble_eq_true rfl, ⟨1, 1, [(.int .i64 (BC))], rfl, rfl, rfl, Nat.le_of_ble_eq_true rfl, rfl⟩⟩) (dA (vs := [(.int .i64 (3)), (.int .i64 (BC))]) h 12 [(.int .i64 (3)), (.int .i64 (BC))] rfl jI rfl rfl rfl rfl rfl (ax rfl (ax rfl bu)) fun w h => ah (aA (az ?_)))))
 exact bS (3, BC) ⟨h.cn _, hs⟩
 refine aG (aA (az ?_))
 exact bS (Fs, sS) ⟨h.cn _, hs⟩
 refine df (aO (aO (bF (aa (ai (ai (ag (ae (au (v := v16) rfl) (ae (dz (vs := [(.int .i64 (Fs)), (.int .i64 (sS))]) h 12 rfl jI rfl rfl rfl) (sZ (R := jU) (vs := [(.agg #[(.int .i64 (Fs)), (.int .i64 (sS))])]) (xs := [(⟨Fs, sS⟩ : Tok)]) h 14 Ig rfl rfl rfl ⟨rfl, trivial⟩ rfl fun w u76 h => ?_))))))))))
 obtain ⟨a77, hs⟩ := bI hs
 refine mf (R := jU) (m := [(⟨Fs, sS⟩ : Tok)]) h 11 rfl (h.ed 14 rfl) Ig rfl rfl rfl a77.1 a77.2 fun w J7 h => ae (aj (v := J7) rfl) (ah (aa (ai (ag (ae (dz (vs := [(.int .i64 (Fs)), (.int .i64 (sS))]) h 12 rfl jI rfl rfl rfl) (ae (ek (k := 0) h 7 rfl xJ rfl rfl) (bA NC rfl rfl (rT _ _ h.lt (⟨Fs, sS⟩ : Tok) vF F (h.iw 4 rfl) 6 _ rfl) ?_)))))))
 rintro _ w ⟨k79, rfl⟩
 refine ⟨_, rfl, ?_⟩
 replace h := h.grow k79
 refine ae (iA rfl rfl) (ae (au (v := (.bool (decide (((dY (⟨Fs, sS⟩ : Tok) F 6) : Int) ≠ 0)))) rfl) (aD rfl rfl (fun q => au (v := J7) rfl) (aD rfl rfl (fun q => bU jQ (dx q) (h.ed 11 rfl)) (aD rfl rfl (fun q => jA (dx q) rfl) (ae (gK rfl rfl lQ) (ah (aa (aK hs rfl (fun c80 hs => ?_) (fun c80 hs => ?_)))))))))
 refine ai (ag (fw h 2 [(.bool (false))] rfl wI rfl rfl rfl rfl rfl fun w h => ah (aa (df (aO (vR (by decide) (aO (aO (bF (aa (ai (ag (ae (au (v := J7) rfl) (ae (aj (v := J7) rfl) (ah (aa (aI (bV (v := J7) Tryz.results104 rfl ?_))))))))))))))))))
 replace h := h.freeze 11 rfl
 replace h := h.pair 1 2 (by decide)
 obtain rfl := Option.some.inj hs
 subst zy
 obtain ⟨o1, o2, o3⟩ := h.qp 1 (C := (.two (.blk ba [(.int .i64 (y31))]) (.blk bo [(.bool (false))]) : Chunk)) rfl ⟨trivial, trivial⟩
 exact ⟨o2, J7, rfl, o1, o3, h.LQ 1 11 rfl rfl⟩
 refine aG (aa (ag (ae (au (v := (.int .i64 (yz))) rfl) (ae (dz (vs := [(.int .i64 (Fs)), (.int .i64 (sS))]) h 12 rfl jI rfl rfl rfl) (ae (ek (k := 0) h 7 rfl xJ rfl rfl) ?_)))))
 obtain ⟨U5, e82, hs⟩ := aP hs
 refine bA Jr rfl rfl (qP _ _ h.lt (⟨Fs, sS⟩ : Tok) vF F (h.iw 4 rfl) _ e82) ?_
 rintro _ w ⟨k83, rfl⟩
 refine ⟨_, rfl, ?_⟩
 replace h := h.grow k83
 obtain ⟨a84, hs⟩ := bI hs
 refine ae (dC rfl rfl a84) (ae (aj (v := (.int .i64 ((yz + U5)))) rfl) (ah (aA (aa (ag (ae (au (v := (.int .i64 ((yz + U5)))) rfl) ?_))))))
 obtain ⟨a85, hs⟩ := bI hs
 refine ae (nW rfl rfl a85) (ae (aj (v := (.int .i64 (((yz + U5) - 1)))) rfl) (ah (az ?_)))
 subst Q4
 exact jN ⟨YQ, J7, (xS ++ [(⟨Fs, sS⟩ : Tok)]), ((yz + U5) - 1), Fq, y31⟩ ⟨h.cn _, hs⟩
 obtain ⟨sr47, hs1, hf1⟩ := hf.cons e48
 replace hs := hs1
 refine ae (bB rfl rfl) (ah (aa ?_))
 refine ai (Vp rfl (aG (aa ?_)))
 refine aT (ai (ag (ae (TE (f := bg) h 13 rfl rfl) (ae (bB rfl rfl) (ae (bB rfl rfl) (ae (aj (v := (.int .i64 (uT.1))) rfl) (ae (aj (v := (bg uT.2)) rfl) (ah (aa (ai (ag (ae (au (v := (bg x29)) rfl) (ae (au (v := (bg uT.2)) rfl) ?_)))))))))))))
 obtain ⟨JC, e87, hs⟩ := aP hs
 refine bA TN rfl rfl (zT _ _ h.lt x29 uT.2 _ e87) ?_
 rintro _ w ⟨k88, rfl⟩
 refine ⟨_, rfl, ?_⟩
 replace h := h.grow k88
 obtain ⟨CK, YC, hs⟩ := aP hs
 refine bA CE rfl rfl (oZ _ _ h.lt (hT.Qs h.keep hG) JC _ YC) ?_
 rintro _ w ⟨k93, Wv, rfl, g92⟩
 refine ⟨_, rfl, ?_⟩
 replace h := h.grow k93
 refine ae (au (v := (.tuple #[(.int .i64 (CK.1)), Wv])) rfl) (ae (bB rfl rfl) (ae (bB rfl rfl) (ae (aj (v := (.int .i64 (CK.1))) rfl) (ae (aj (v := Wv) rfl) (ah (aa (bY (σ := Bool) (inl [38, 39, 40, 41, 42, 43, 44, 45, 46, 47]) (fun XI => [(47, (.bool (XI)))]) (fun XI w => SH w0 M K0 w (hset [(1, .blk ba [(.int .i64 (y31))]), (2, .blk bo [(.bool (Fq))]), (3, .rd ni vW W), (4, .sr iH vF F), (5, .pt bw 0 [vW]), (6, .pt bwd 0 [(.func (.func 103) #[] #[(.pointer (some ⟨ba, 0, none⟩)), (.pointer (some ⟨bw, 0, none⟩)), (.pointer (some ⟨bo, 0, none⟩))])]), (7, .pt bf 0 [vF]), (11, .own jU 160 v16 xS), (12, .blk b32 [(.int .i64 (LB)), (.int .i64 (vY))]), (13, .bL (Ha bg Wt b34 (some uT) Wu))]) ∧ rZ uT CK LB vY XI = some sr47) ?_ ?_)))))))
 rintro XI w dD ⟨h, hs⟩
 refine aK hs rfl (fun c95 hs => ?_) (fun c95 hs => ?_)
 refine ag (ae (au (v := (.int .i64 (uT.1))) rfl) (ae (au (v := (.int .i64 (CK.1))) rfl) (ae (dO (pv := [(0, (.int .i64 (uT.1))), (1, (.int .i64 (CK.1)))]) (out := [(.int .i64 (uT.1)), (.int .i64 (CK.1))]) xL rfl ⟨0, 1, [(.int .i64 (uT.1))], rfl, rfl, rfl, Nat.le_of_ble_eq_true rfl, ⟨1, 1, [(.int .i64 (CK.1))], rfl, rfl, rfl, Nat.le_of_ble_eq_true rfl, rfl⟩⟩) (dA (vs := [(.int .i64 (uT.1)), (.int .i64 (CK.1))]) h 12 [(.int .i64 (uT.1)), (.int .i64 (CK.1))] rfl jI rfl rfl rfl rfl rfl (ax rfl (ax rfl bu)) fun w h => ah (aA (az ?_))))))
 replace h := h.Ib 13 rfl
 obtain rfl := Option.some.inj hs
 exact jN ⟨Wu, uT.1, CK.1⟩ ⟨h.cn _, hf1⟩ (by have := e48.length_eq; simp only [List.length_cons] at this; dsimp only; omega)
 refine aG (aA (az ?_))
 replace h := h.Ib 13 rfl
 obtain rfl := Option.some.inj hs
 exact jN ⟨Wu, LB, vY⟩ ⟨h.cn _, hf1⟩ (by have := e48.length_eq; simp only [List.length_cons] at this; dsimp only; omega)
 refine ag (ae (au (v := Wv) rfl) (ae (Ou OA rfl g92 rfl) (ae (au (v := (.bool ((!CK.2)))) rfl) (jH (b := (!CK.2)) hs (fun Mr hs => ?_) (fun Mr hs => ?_)))))
 refine dn rfl (congrArg Value.bool Mr) (ae (au (v := (.int .i64 (uT.1))) rfl) (dn rfl (congrArg Value.bool Mr) (ae (au (v := (.int .i64 (CK.1))) rfl) (dn rfl (congrArg Value.bool Mr) (ae (dO (pv := [(0, (.int .i64 (uT.1))), (1, (.int .i64 (CK.1)))]) (out := [(.int .i64 (uT.1)), (.int .i64 (CK.1))]) xL rfl ⟨0, 1, [(.int .i64 (uT.1))], rfl, rfl, rfl, Nat.le_of_ble_eq_true rfl, ⟨1, 1, [(.int .i64 (CK.1))], rfl, rfl, rfl, Nat.le_of_ble_eq_true rfl, rfl⟩⟩) (dn rfl (congrArg Value.bool Mr) ?_))))))
 obtain ⟨qA, e98, hs⟩ := aP hs
 refine bA Jq rfl rfl (oC _ _ h.lt (hT.Qs h.keep hG) (⟨uT.1, CK.1⟩ : Tok) _ e98) ?_
 rintro _ w ⟨k99, rfl⟩
 refine ⟨_, rfl, ?_⟩
 replace h := h.grow k99
 refine dn rfl (congrArg Value.bool Mr) (ae (au (v := (bg x29)) rfl) (dn rfl (congrArg Value.bool Mr) (ae (Dq rfl rfl) (ae (dL (b := true) (v := (.bool (decide ((qA : Str) = x29)))) (congrArg Value.bool Mr) rfl) (ah (az ?_))))))
 exact bS (decide ((qA : Str) = x29)) ⟨h.cn _, hs⟩
 refine bE (b' := false) rfl (congrArg Value.bool Mr) rfl (bE (b' := false) rfl (congrArg Value.bool Mr) rfl (bE (b' := false) rfl (congrArg Value.bool Mr) rfl (bE (b' := false) rfl (congrArg Value.bool Mr) rfl (bE (b' := false) rfl (congrArg Value.bool Mr) rfl (bE (b' := false) rfl (congrArg Value.bool Mr) rfl (ae (dL (b := false) (v := (.bool (false))) (congrArg Value.bool Mr) rfl) (ah (az ?_))))))))
 exact bS false ⟨h.cn _, hs⟩
 refine ag (ae (ek (k := 0) h 6 rfl yS rfl rfl) (jl (args := [(.pointer (some ⟨ba, 0, none⟩)), (.pointer (some ⟨bw, 0, none⟩)), (.pointer (some ⟨bo, 0, none⟩))]) yQ rfl rfl (aQ (args := [(.pointer (some ⟨ba, 0, none⟩)), (.pointer (some ⟨bw, 0, none⟩)), (.pointer (some ⟨bo, 0, none⟩))]) Tryz.func103 rfl Tryz.ntmps103 (Nat.le_of_ble_eq_true rfl) (ai (ag (ae (aj (v := (bg [])) rfl) (ah (aa (ai (ai (ag (ae (aF h 1 rfl bz rfl rfl) (ae (ek (k := 0) h 5 rfl lZ rfl rfl) (ae (bU eB rfl (h.lY 3 rfl)) (ae (oI rfl rfl) (ah (aa (aK hs rfl (fun c100 hs => ?_) (fun c100 hs => ?_)))))))))))))))))))
 refine ai (ag (fw h 2 [(.bool (false))] rfl wI rfl rfl rfl rfl rfl fun w h => ah (aa (ai (ag (ae (aj (v := (bg [])) rfl) (ah (aa (aI (aC (bV (v := (bg [])) Tryz.results103 rfl (⟨_, rfl, ?_⟩))))))))))))
 refine ae (aj (v := (bg [])) rfl) (ah (az ?_))
 exact bS ([], false, y20) ⟨h.cn _, hs⟩
 refine aG (aa (ai (ag (ae (aF h 1 rfl bz rfl rfl) ?_))))
 obtain ⟨Ua, hs⟩ := bI hs
 refine ae (dC rfl rfl Ua) (fw h 1 [(.int .i64 ((y20 + 1)))] rfl bz rfl rfl rfl rfl rfl fun w h => ah (aa (ai (ag (ae (ek (k := 0) h 5 rfl lZ rfl rfl) (ae (aF h 1 rfl bz rfl rfl) ?_))))))
 obtain ⟨a102, hs⟩ := bI hs
 refine ae (nW rfl rfl a102) ?_
 obtain ⟨x103, Ub, hs⟩ := aP hs
 obtain ⟨b106, o107, cs108, h, r109, i105⟩ := h.Dl 3 15 rfl eB rfl (aJ Ub).1 (aJ Ub).2
 obtain rfl := r109
 refine ae (i105 _ _ _ _ _ _ _ _ _ rfl rfl) (ae (ek (k := 0) h 15 rfl xK rfl rfl) (ae (aj (v := (bg x103)) rfl) (ah (aa (aI (bV (v := (bg x103)) Tryz.results103 rfl (⟨_, rfl, ?_⟩)))))))
 refine ae (aj (v := (bg x103)) rfl) (ah (az ?_))
 exact bS (x103, Ml, (y20 + 1)) ⟨h.cn _, hs⟩
 refine df (aO (aO (bF (aa (ai (ag (ae (au (v := v16) rfl) (ae (aj (v := v16) rfl) (ah (aa (aI (bV (v := v16) Tryz.results104 rfl ?_))))))))))))
 replace h := h.freeze 11 rfl
 replace h := h.pair 1 2 (by decide)
 obtain rfl := Option.some.inj hs
 subst zy
 obtain ⟨o1, o2, o3⟩ := h.qp 1 (C := (.two (.blk ba [(.int .i64 (y20))]) (.blk bo [(.bool (Ml))]) : Chunk)) rfl ⟨trivial, trivial⟩
 exact ⟨o2, v16, rfl, o1, o3, h.LQ 1 11 rfl rfl⟩
def yX (l9 : List bG) (lq : Int) (xz : Int) (sQ : List Tok) (AR : List Tok) (Ms : List bG) (kR : (List bG × Int × Bool) → Option (List bG × dJ)) (Ww : Int) (Wx : Bool) (sS : List bG) : Option (List bG × dJ) :=
  gQ (Room 112 l9 [(⟨(lq + 1), xz, sQ, AR, Ms, sS⟩ : bG)]) (kR ((l9 ++ [(⟨(lq + 1), xz, sQ, AR, Ms, sS⟩ : bG)]), Ww, Wx))
def yY (F0 : dJ → List Str → List eX → Int → Option (List bG × dJ)) (lq : Int) (a : Int) (W : List Str) (F : List eX) (l9 : List bG) (xz : Int) (sQ : List Tok) (AR : List Tok) (kR : (List bG × Int × Bool) → Option (List bG × dJ)) (Ky : Int) (P7 : Bool) (Ms : List bG) : Option (List bG × dJ) :=
  bif decide (((lq + 1) : Int) = 6) then gQ (jB (a + 1)) ((F0 (⟨Ky, P7⟩ : dJ) W F (a + 1)).bind fun tX => yX l9 lq xz sQ AR Ms kR tX.2.at_ tX.2.ok tX.1) else yX l9 lq xz sQ AR Ms kR Ky P7 []
def sj (F0 : dJ → List Str → List eX → Int → Option (List bG × dJ)) (lq : Int) (a : Int) (W : List Str) (F : List eX) (l9 : List bG) (xz : Int) (sQ : List Tok) (kR : (List bG × Int × Bool) → Option (List bG × dJ)) (Hf : Int) (xM : Bool) (AR : List Tok) : Option (List bG × dJ) :=
  bif (decide (((lq + 1) : Int) = 6) || decide (((lq + 1) : Int) = 7)) then gQ (jB (a + 1)) ((F0 (⟨Hf, xM⟩ : dJ) W F (a + 1)).bind fun Ud => yY F0 lq a W F l9 xz sQ AR kR Ud.2.at_ Ud.2.ok Ud.1) else yY F0 lq a W F l9 xz sQ AR kR Hf xM []
def su (N : Nat) (F0 : dJ → List Str → List eX → Int → Option (List bG × dJ)) (lq : Int) (W : List Str) (F : List eX) (a : Int) (l9 : List bG) (xz : Int) (kR : (List bG × Int × Bool) → Option (List bG × dJ)) (Mt : Int) (Mv : Bool) (sQ : List Tok) : Option (List bG × dJ) :=
  bif decide (((lq + 1) : Int) = 2) then (CO N (⟨Mt, Mv⟩ : dJ) W F).bind fun JC => sj F0 lq a W F l9 xz sQ kR JC.2.at_ JC.2.ok JC.1 else sj F0 lq a W F l9 xz sQ kR Mt Mv []
def qc (N : Nat) (F0 : dJ → List Str → List eX → Int → Option (List bG × dJ)) (lq : Int) (W : List Str) (F : List eX) (a : Int) (l9 : List bG) (kR : (List bG × Int × Bool) → Option (List bG × dJ)) (vY : Int) (yT : Bool) (xz : Int) : Option (List bG × dJ) :=
  bif decide (((lq + 1) : Int) ≠ 4) then (CO N (⟨vY, yT⟩ : dJ) W F).bind fun y95 => su N F0 lq W F a l9 xz kR y95.2.at_ y95.2.ok y95.1 else su N F0 lq W F a l9 xz kR vY yT []
def sD (N : Nat) (F0 : dJ → List Str → List eX → Int → Option (List bG × dJ)) (l9 : List bG) (W : List Str) (F : List eX) (a : Int) (kR : (List bG × Int × Bool) → Option (List bG × dJ)) (x27 : Str) (y28 : Int) (y29 : Bool) : Option (List bG × dJ) :=
  bif decide ((x27 : Str) = [125]) then some (l9, (⟨y28, y29⟩ : dJ)) else (Cv [115, 101, 116, 32, 112, 117, 116, 32, 115, 97, 121, 32, 112, 97, 117, 115, 101, 32, 103, 111, 32, 105, 102, 32, 119, 104, 105, 108, 101, 32, 114, 101, 116, 117, 114, 110]).bind fun y31 => (slices_Index_string y31 x27).bind fun lq => gQ (jB (lq + 1)) (bif (!(y29 && decide ((0 : Int) < (lq + 1)))) then some ([], (⟨y28, (y29 && decide ((0 : Int) < (lq + 1)))⟩ : dJ)) else bif decide (((lq + 1) : Int) ≤ 2) then bif decide (((W.length : Int) : Int) ≤ y28) then (zN []).bind fun y104 => qc N F0 lq W F a l9 kR y28 false y104.1 else gQ (jB (y28 + 1)) (gQ (jB ((y28 + 1) - 1)) ((idx W ((y28 + 1) - 1)).bind fun Mw => (zN Mw).bind fun Mx => qc N F0 lq W F a l9 kR (y28 + 1) (y29 && decide ((0 : Int) < (lq + 1))) Mx.1)) else qc N F0 lq W F a l9 kR y28 (y29 && decide ((0 : Int) < (lq + 1))) 0)
def sF (N : Nat) (F0 : dJ → List Str → List eX → Int → Option (List bG × dJ)) (W : List Str) (F : List eX) (a : Int) (s : List bG × Int × Bool) (kR : List bG × Int × Bool → Option (List bG × dJ)) : Option (List bG × dJ) :=
  match s with | (l9, Cj, G6) => bif G6 then bif decide (((W.length : Int) : Int) ≤ Cj) then sD N F0 l9 W F a kR [] Cj false else gQ (jB (Cj + 1)) (gQ (jB ((Cj + 1) - 1)) ((idx W ((Cj + 1) - 1)).bind fun F5 => sD N F0 l9 W F a kR F5 (Cj + 1) G6)) else some ([], (⟨Cj, G6⟩ : dJ))
def uB (N : Nat) (F0 : dJ → List Str → List eX → Int → Option (List bG × dJ)) (W : List Str) (F : List eX) (a : Int) (y1 : Int) (y2 : Bool) : Option (List bG × dJ) :=
  again (sF N F0 W F a) N ([], y1, y2)
def sG (N : Nat) (F0 : dJ → List Str → List eX → Int → Option (List bG × dJ)) (W : List Str) (F : List eX) (a : Int) (BD : Bool) (EZ : Int) (JE : Bool) : Option (List bG × dJ) :=
  bif BD then uB N F0 W F a EZ false else uB N F0 W F a EZ JE
def vZ (N : Nat) (F0 : dJ → List Str → List eX → Int → Option (List bG × dJ)) (sx : dJ) (W : List Str) (F : List eX) (a : Int) : Option (List bG × dJ) :=
  bif decide (((W.length : Int) : Int) ≤ sx.at_) then sG N F0 W F a true sx.at_ false else gQ (jB (sx.at_ + 1)) (gQ (jB ((sx.at_ + 1) - 1)) ((idx W ((sx.at_ + 1) - 1)).bind fun KM => sG N F0 W F a (decide ((KM : Str) ≠ [123]) || decide ((6 : Int) < a)) (sx.at_ + 1) sx.ok))
def uC : Nat → dJ → List Str → List eX → Int → Option (List bG × dJ)
  | 0 => fun _ _ _ _ => none
  | N + 1 => vZ N (uC N)
theorem MB : ∀ (N : Nat) (w0 : World) (M : BS) (hM : ∀ b, M b → b < w0.heap.size) (hT : uh Tryz.prog 4 w0) (ba bo bw bwd bf be bb : Nat) (sx : dJ) (hC : Chunk.holds w0 M (Chunk.own' (.two (.blk ba [(.int .i64 (sx.at_))]) (.blk bo [(.bool (sx.ok))]) : Chunk)) (.two (.blk ba [(.int .i64 (sx.at_))]) (.blk bo [(.bool (sx.ok))]) : Chunk)) (hap : ∀ b, Chunk.own' (.two (.blk ba [(.int .i64 (sx.at_))]) (.blk bo [(.bool (sx.ok))]) : Chunk) b → ¬ M b) (vW : Value) (W : List Str) (YO : fo ni w0 (fun b => M b ∨ Chunk.own' (.two (.blk ba [(.int .i64 (sx.at_))]) (.blk bo [(.bool (sx.ok))]) : Chunk) b) vW W) (vF : Value) (F : List eX) (YP : gp iH w0 (Chunk.own' (.two (.blk ba [(.int .i64 (sx.at_))]) (.blk bo [(.bool (sx.ok))]) : Chunk)) (fun b => M b ∨ Chunk.own' (.two (.blk ba [(.int .i64 (sx.at_))]) (.blk bo [(.bool (sx.ok))]) : Chunk) b) vF F) (hbw : ∃ E, w0.heap[bw]? = some (.cells #[vW] E (0, 0))) (Rs : ¬ Chunk.own' (.two (.blk ba [(.int .i64 (sx.at_))]) (.blk bo [(.bool (sx.ok))]) : Chunk) bw) (JD : ∃ E, w0.heap[bwd]? = some (.cells #[(.func (.func 103) #[] #[(.pointer (some ⟨ba, 0, none⟩)), (.pointer (some ⟨bw, 0, none⟩)), (.pointer (some ⟨bo, 0, none⟩))])] E (0, 0))) (F3 : ¬ Chunk.own' (.two (.blk ba [(.int .i64 (sx.at_))]) (.blk bo [(.bool (sx.ok))]) : Chunk) bwd) (hbf : ∃ E, w0.heap[bf]? = some (.cells #[vF] E (0, 0))) (Rt : ¬ Chunk.own' (.two (.blk ba [(.int .i64 (sx.at_))]) (.blk bo [(.bool (sx.ok))]) : Chunk) bf) (hbe : ∃ E, w0.heap[be]? = some (.cells #[(.func (.func 104) #[] #[(.pointer (some ⟨bo, 0, none⟩)), (.pointer (some ⟨bwd, 0, none⟩)), (.pointer (some ⟨bf, 0, none⟩))])] E (0, 0))) (XJ : ¬ Chunk.own' (.two (.blk ba [(.int .i64 (sx.at_))]) (.blk bo [(.bool (sx.ok))]) : Chunk) be) (hbb : ∃ E, w0.heap[bb]? = some (.cells #[(.func (.func 109) #[] #[(.pointer (some ⟨bwd, 0, none⟩)), (.pointer (some ⟨bo, 0, none⟩)), (.pointer (some ⟨be, 0, none⟩)), (.pointer (some ⟨bb, 0, none⟩))])] E (0, 0))) (XK : ¬ Chunk.own' (.two (.blk ba [(.int .i64 (sx.at_))]) (.blk bo [(.bool (sx.ok))]) : Chunk) bb) (a : Int) (hG : ∀ b, Chunk.own' (.two (.blk ba [(.int .i64 (sx.at_))]) (.blk bo [(.bool (sx.ok))]) : Chunk) b → Tryz.prog.globals.size ≤ b) (r : List bG × dJ) (hs : uC N sx W F a = some r),
    Calls Tryz.prog 109 #[(.int .i64 (a)), (.pointer (some ⟨bwd, 0, none⟩)), (.pointer (some ⟨bo, 0, none⟩)), (.pointer (some ⟨be, 0, none⟩)), (.pointer (some ⟨bb, 0, none⟩))] w0 (fun e w' => aS (Chunk.own' (.two (.blk ba [(.int .i64 (sx.at_))]) (.blk bo [(.bool (sx.ok))]) : Chunk)) w0 w' ∧ ∃ u0, e = .returned (u0) ∧ Chunk.holds w' M (Chunk.own' (.two (.blk ba [.int .i64 r.2.at_]) (.blk bo [.bool r.2.ok]) : Chunk)) (.two (.blk ba [.int .i64 r.2.at_]) (.blk bo [.bool r.2.ok]) : Chunk) ∧ (∀ b, Chunk.own' (.two (.blk ba [.int .i64 r.2.at_]) (.blk bo [.bool r.2.ok]) : Chunk) b → b < w0.heap.size → Chunk.own' (.two (.blk ba [(.int .i64 (sx.at_))]) (.blk bo [(.bool (sx.ok))]) : Chunk) b) ∧ fo eu w' (fun b => M b ∨ Chunk.own' (.two (.blk ba [.int .i64 r.2.at_]) (.blk bo [.bool r.2.ok]) : Chunk) b) u0 r.1) := by
 intro N
 induction N with
 | zero => intro w0 M hM hT ba bo bw bwd bf be bb sx hC hap vW W YO vF F YP hbw Rs JD F3 hbf Rt hbe XJ hbb XK a hG r hs; cases hs
 | succ N ih =>
 intro w0 M hM hT ba bo bw bwd bf be bb sx hC hap vW W YO vF F YP hbw Rs JD F3 hbf Rt hbe XJ hbb XK a hG r hs
 replace hs : vZ N (uC N) sx W F a = some r := hs
 generalize uC N = F0 at hs ih
 refine aQ (args := [(.int .i64 (a)), (.pointer (some ⟨bwd, 0, none⟩)), (.pointer (some ⟨bo, 0, none⟩)), (.pointer (some ⟨be, 0, none⟩)), (.pointer (some ⟨bb, 0, none⟩))]) Tryz.func109 rfl Tryz.ntmps109 (Nat.le_of_ble_eq_true rfl) ?_
 have h := SH.ED hM hC hap
 replace h := h.Bw 3 YO zw
 replace h := h.QB 4 YP (rQ zw)
 replace h := h.yM 5 (cs := [vW]) hbw Rs (wQ (rQ zw))
 replace h := h.yM 6 (cs := [(.func (.func 103) #[] #[(.pointer (some ⟨ba, 0, none⟩)), (.pointer (some ⟨bw, 0, none⟩)), (.pointer (some ⟨bo, 0, none⟩))])]) JD F3 (p9 (wQ (rQ zw)))
 replace h := h.yM 7 (cs := [vF]) hbf Rt (p9 (p9 (wQ (rQ zw))))
 replace h := h.yM 8 (cs := [(.func (.func 104) #[] #[(.pointer (some ⟨bo, 0, none⟩)), (.pointer (some ⟨bwd, 0, none⟩)), (.pointer (some ⟨bf, 0, none⟩))])]) hbe XJ (p9 (p9 (p9 (wQ (rQ zw)))))
 replace h := h.yM 9 (cs := [(.func (.func 109) #[] #[(.pointer (some ⟨bwd, 0, none⟩)), (.pointer (some ⟨bo, 0, none⟩)), (.pointer (some ⟨be, 0, none⟩)), (.pointer (some ⟨bb, 0, none⟩))])]) hbb XK (p9 (p9 (p9 (p9 (wQ (rQ zw))))))
 have Mm := Rs
 have F4 := F3
 have Mo := Rt
 have Wy := XJ
 have Wz := XK
 generalize zy : (.two (.blk ba [(.int .i64 (sx.at_))]) (.blk bo [(.bool (sx.ok))]) : Chunk).own' = K0 at h Mm F4 Mo Wy Wz hG
 replace h := h.bX 1 2 (by decide) rfl rfl
 refine ai (ag (ae (aj (v := (.slice none 0 0)) rfl) (ah (aa (bY (σ := Int × Bool) (inl [10, 11, 12, 13, 14, 15, 16]) (fun ⟨y1, y2⟩ => []) (fun ⟨y1, y2⟩ w => SH w0 M K0 w (hset [(1, .blk ba [(.int .i64 (y1))]), (2, .blk bo [(.bool (y2))]), (3, .rd ni vW W), (4, .sr iH vF F), (5, .pt bw 0 [vW]), (6, .pt bwd 0 [(.func (.func 103) #[] #[(.pointer (some ⟨ba, 0, none⟩)), (.pointer (some ⟨bw, 0, none⟩)), (.pointer (some ⟨bo, 0, none⟩))])]), (7, .pt bf 0 [vF]), (8, .pt be 0 [(.func (.func 104) #[] #[(.pointer (some ⟨bo, 0, none⟩)), (.pointer (some ⟨bwd, 0, none⟩)), (.pointer (some ⟨bf, 0, none⟩))])]), (9, .pt bb 0 [(.func (.func 109) #[] #[(.pointer (some ⟨bwd, 0, none⟩)), (.pointer (some ⟨bo, 0, none⟩)), (.pointer (some ⟨be, 0, none⟩)), (.pointer (some ⟨bb, 0, none⟩))])])]) ∧ uB N F0 W F a y1 y2 = some r) ?_ ?_)))))
 rintro ⟨y1, y2⟩ w dD ⟨h, hs⟩
 refine ai (ag (ae (aj (v := (.slice none 0 0)) rfl) (ah (aa (ai (aT ?_))))))
 replace h := h.yF (R := eu) (E := 147) 13
 refine gL (σ := Nat × Value × List bG × Int × Bool) (inl [6, 7, 8, 9, 17, 18, 19, 20, 21, 22, 23, 24, 25, 26, 27, 28, 29, 30, 31, 32, 33, 34, 35, 36, 37, 38, 39, 40, 41, 42, 43, 44, 45, 46, 47, 48, 49, 50, 51, 52, 53, 54, 55, 56, 57, 58, 59, 60, 61, 62, 63, 64, 65, 66, 67, 68, 69, 70, 71, 72, 73, 74, 75, 76, 77, 78, 79, 80, 81, 82]) (fun ⟨m22, v15, l9, Cj, G6⟩ => [(7, v15)]) (fun ⟨m22, v15, l9, Cj, G6⟩ w => SH w0 M K0 w (hset [(1, .blk ba [(.int .i64 (Cj))]), (2, .blk bo [(.bool (G6))]), (3, .rd ni vW W), (4, .sr iH vF F), (5, .pt bw 0 [vW]), (6, .pt bwd 0 [(.func (.func 103) #[] #[(.pointer (some ⟨ba, 0, none⟩)), (.pointer (some ⟨bw, 0, none⟩)), (.pointer (some ⟨bo, 0, none⟩))])]), (7, .pt bf 0 [vF]), (8, .pt be 0 [(.func (.func 104) #[] #[(.pointer (some ⟨bo, 0, none⟩)), (.pointer (some ⟨bwd, 0, none⟩)), (.pointer (some ⟨bf, 0, none⟩))])]), (9, .pt bb 0 [(.func (.func 109) #[] #[(.pointer (some ⟨bwd, 0, none⟩)), (.pointer (some ⟨bo, 0, none⟩)), (.pointer (some ⟨be, 0, none⟩)), (.pointer (some ⟨bb, 0, none⟩))])]), (13, .own eu 147 v15 l9)]) ∧ again (sF N F0 W F a) m22 (l9, Cj, G6) = some r) (fun ⟨m22, v15, l9, Cj, G6⟩ => m22) ⟨N, (.slice none 0 0), [], y1, y2⟩ ⟨rfl, trivial⟩ ?_ ?_
 exact ⟨h.cn _, hs⟩
 rintro ⟨m22, v15, l9, Cj, G6⟩ w dD ⟨h, hs⟩
 obtain ⟨YS, m22e, m22h⟩ := qW hs
 subst m22e
 replace hs := m22h
 generalize Rv : again (sF N F0 W F a) YS = kR at hs
 refine ai (ai (ag (ae (aF h 2 rfl wI rfl rfl) (ah (aa (aK hs rfl (fun c26 hs => ?_) (fun c26 hs => ?_)))))))
 refine aG (aa (aT (bY (σ := Str × Int × Bool) (inl [8, 18, 19]) (fun ⟨x27, y28, y29⟩ => [(8, (bg x27))]) (fun ⟨x27, y28, y29⟩ w => SH w0 M K0 w (hset [(1, .blk ba [(.int .i64 (y28))]), (2, .blk bo [(.bool (y29))]), (3, .rd ni vW W), (4, .sr iH vF F), (5, .pt bw 0 [vW]), (6, .pt bwd 0 [(.func (.func 103) #[] #[(.pointer (some ⟨ba, 0, none⟩)), (.pointer (some ⟨bw, 0, none⟩)), (.pointer (some ⟨bo, 0, none⟩))])]), (7, .pt bf 0 [vF]), (8, .pt be 0 [(.func (.func 104) #[] #[(.pointer (some ⟨bo, 0, none⟩)), (.pointer (some ⟨bwd, 0, none⟩)), (.pointer (some ⟨bf, 0, none⟩))])]), (9, .pt bb 0 [(.func (.func 109) #[] #[(.pointer (some ⟨bwd, 0, none⟩)), (.pointer (some ⟨bo, 0, none⟩)), (.pointer (some ⟨be, 0, none⟩)), (.pointer (some ⟨bb, 0, none⟩))])]), (13, .own eu 147 v15 l9)]) ∧ sD N F0 l9 W F a kR x27 y28 y29 = some r) ?_ ?_)))
 rintro ⟨x27, y28, y29⟩ w dD ⟨h, hs⟩
 refine ai (ai (ag (ae (au (v := (bg x27)) rfl) (ae (Dq rfl rfl) (ah (aa (aK hs rfl (fun c30 hs => ?_) (fun c30 hs => ?_))))))))
 refine ai (ag (ae (au (v := v15) rfl) (ae (aj (v := v15) rfl) (ah (aa (aI (aC (aH (aC (aH (aC (bV (v := v15) Tryz.results109 rfl ?_))))))))))))
 replace h := h.freeze 13 rfl
 replace h := h.pair 1 2 (by decide)
 obtain rfl := Option.some.inj hs
 subst zy
 obtain ⟨o1, o2, o3⟩ := h.qp 1 (C := (.two (.blk ba [(.int .i64 (y28))]) (.blk bo [(.bool (y29))]) : Chunk)) rfl ⟨trivial, trivial⟩
 exact ⟨o2, v15, rfl, o1, o3, h.LQ 1 13 rfl rfl⟩
 refine aG (aa (ai (ag ?_)))
 obtain ⟨y31, e32, hs⟩ := aP hs
 refine bA ND rfl rfl (xP _ _ h.lt (hT.Qs h.keep hG) [115, 101, 116, 32, 112, 117, 116, 32, 115, 97, 121, 32, 112, 97, 117, 115, 101, 32, 103, 111, 32, 105, 102, 32, 119, 104, 105, 108, 101, 32, 114, 101, 116, 117, 114, 110] _ e32) ?_
 rintro _ w ⟨k35, u33, rfl, YJ⟩
 refine ⟨_, rfl, ?_⟩
 replace h := h.Hy 14 k35 YJ
 refine ae (au (v := (bg x27)) rfl) ?_
 obtain ⟨lq, e37, hs⟩ := aP hs
 refine bA TP rfl rfl (zx _ _ h.lt u33 y31 (h.lY 14 rfl) x27 _ e37) ?_
 rintro _ w ⟨YK, rfl⟩
 refine ⟨_, rfl, ?_⟩
 replace h := h.grow YK
 obtain ⟨a39, hs⟩ := bI hs
 refine ae (dC rfl rfl a39) (ae (dO (pv := [(0, (.int .i64 ((lq + 1))))]) (out := [(.int .i64 ((lq + 1))), (.int .i64 (0)), (.slice none 0 0), (.slice none 0 0), (.slice none 0 0), (.slice none 0 0)]) OD rfl ⟨0, 1, [(.int .i64 ((lq + 1)))], rfl, rfl, rfl, Nat.le_of_ble_eq_true rfl, rfl⟩) (bW h 15 nA fun w YT h => dA (vs := [(.int .i64 ((lq + 1))), (.int .i64 (0)), (.slice none 0 0), (.slice none 0 0), (.slice none 0 0), (.slice none 0 0)]) h 15 [(.int .i64 ((lq + 1))), (.int .i64 (0)), (.slice none 0 0), (.slice none 0 0), (.slice none 0 0), (.slice none 0 0)] rfl nA rfl rfl rfl rfl rfl (ax rfl (ax rfl (ax rfl (ax rfl (ax rfl (ax rfl bu)))))) fun w h => ah (aa (ai (ai (ag (ae (aF h 2 rfl wI rfl rfl) (ae (au (v := (.bool (y29))) rfl) (aD rfl rfl (fun q => ak jC rfl) (aD rfl rfl (fun q => aF h 15 rfl bz (dx q) rfl) (aD rfl rfl (fun q => jA (dx q) rfl) (ae (fT rfl rfl lQ) (fw h 2 [(.bool ((y29 && decide ((0 : Int) < (lq + 1)))))] rfl wI rfl rfl rfl rfl rfl fun w h => ah (aa (ai (ag (ae (aF h 2 rfl wI rfl rfl) (ae (gP rfl) (ah (aa ?_))))))))))))))))))))
 refine aK hs rfl (fun Wl hs => ?_) (fun Wl hs => ?_)
 refine df (aO (vR (by decide) (aO (bF (aa (ai (ag (ae (aj (v := (.slice none 0 0)) rfl) (ah (aa (aI (bV (v := (.slice none 0 0)) Tryz.results109 rfl ?_))))))))))))
 replace h := h.pair 1 2 (by decide)
 obtain rfl := Option.some.inj hs
 subst zy
 obtain ⟨o1, o2, o3⟩ := h.qp 1 (C := (.two (.blk ba [(.int .i64 (y28))]) (.blk bo [(.bool ((y29 && decide ((0 : Int) < (lq + 1)))))]) : Chunk)) rfl ⟨trivial, trivial⟩
 exact ⟨o2, .slice none 0 0, rfl, o1, o3, gp.nil⟩
 refine aG (aa (bY (σ := Int × Bool × Int) (inl [36, 37, 38, 39, 40, 41, 42, 43, 44, 45]) (fun ⟨vY, yT, xz⟩ => []) (fun ⟨vY, yT, xz⟩ w => SH w0 M K0 w (hset [(1, .blk ba [(.int .i64 (vY))]), (2, .blk bo [(.bool (yT))]), (3, .rd ni vW W), (4, .sr iH vF F), (5, .pt bw 0 [vW]), (6, .pt bwd 0 [(.func (.func 103) #[] #[(.pointer (some ⟨ba, 0, none⟩)), (.pointer (some ⟨bw, 0, none⟩)), (.pointer (some ⟨bo, 0, none⟩))])]), (7, .pt bf 0 [vF]), (8, .pt be 0 [(.func (.func 104) #[] #[(.pointer (some ⟨bo, 0, none⟩)), (.pointer (some ⟨bwd, 0, none⟩)), (.pointer (some ⟨bf, 0, none⟩))])]), (9, .pt bb 0 [(.func (.func 109) #[] #[(.pointer (some ⟨bwd, 0, none⟩)), (.pointer (some ⟨bo, 0, none⟩)), (.pointer (some ⟨be, 0, none⟩)), (.pointer (some ⟨bb, 0, none⟩))])]), (13, .own eu 147 v15 l9), (15, .blk YT [(.int .i64 ((lq + 1))), (.int .i64 (xz)), (.slice none 0 0), (.slice none 0 0), (.slice none 0 0), (.slice none 0 0)])]) ∧ qc N F0 lq W F a l9 kR vY yT xz = some r) ?_ ?_))
 rintro ⟨vY, yT, xz⟩ w dD ⟨h, hs⟩
 refine bY (σ := Int × Bool × Value × List Tok) (inl [46, 47, 48, 49, 50, 51]) (fun ⟨Mt, Mv, v47, sQ⟩ => []) (fun ⟨Mt, Mv, v47, sQ⟩ w => SH w0 M K0 w (hset [(1, .blk ba [(.int .i64 (Mt))]), (2, .blk bo [(.bool (Mv))]), (3, .rd ni vW W), (4, .sr iH vF F), (5, .pt bw 0 [vW]), (6, .pt bwd 0 [(.func (.func 103) #[] #[(.pointer (some ⟨ba, 0, none⟩)), (.pointer (some ⟨bw, 0, none⟩)), (.pointer (some ⟨bo, 0, none⟩))])]), (7, .pt bf 0 [vF]), (8, .pt be 0 [(.func (.func 104) #[] #[(.pointer (some ⟨bo, 0, none⟩)), (.pointer (some ⟨bwd, 0, none⟩)), (.pointer (some ⟨bf, 0, none⟩))])]), (9, .pt bb 0 [(.func (.func 109) #[] #[(.pointer (some ⟨bwd, 0, none⟩)), (.pointer (some ⟨bo, 0, none⟩)), (.pointer (some ⟨be, 0, none⟩)), (.pointer (some ⟨bb, 0, none⟩))])]), (13, .own eu 147 v15 l9), (15, .blk YT [(.int .i64 ((lq + 1))), (.int .i64 (xz)), v47, (.slice none 0 0), (.slice none 0 0), (.slice none 0 0)]), (16, .rd jU v47 sQ)]) ∧ su N F0 lq W F a l9 xz kR Mt Mv sQ = some r) ?_ ?_
 rintro ⟨Mt, Mv, v47, sQ⟩ w dD ⟨h, hs⟩
 refine bY (σ := Int × Bool × Value × List Tok) (inl [52, 53, 54, 55, 56, 57]) (fun ⟨Hf, xM, v51, AR⟩ => []) (fun ⟨Hf, xM, v51, AR⟩ w => SH w0 M K0 w (hset [(1, .blk ba [(.int .i64 (Hf))]), (2, .blk bo [(.bool (xM))]), (3, .rd ni vW W), (4, .sr iH vF F), (5, .pt bw 0 [vW]), (6, .pt bwd 0 [(.func (.func 103) #[] #[(.pointer (some ⟨ba, 0, none⟩)), (.pointer (some ⟨bw, 0, none⟩)), (.pointer (some ⟨bo, 0, none⟩))])]), (7, .pt bf 0 [vF]), (8, .pt be 0 [(.func (.func 104) #[] #[(.pointer (some ⟨bo, 0, none⟩)), (.pointer (some ⟨bwd, 0, none⟩)), (.pointer (some ⟨bf, 0, none⟩))])]), (9, .pt bb 0 [(.func (.func 109) #[] #[(.pointer (some ⟨bwd, 0, none⟩)), (.pointer (some ⟨bo, 0, none⟩)), (.pointer (some ⟨be, 0, none⟩)), (.pointer (some ⟨bb, 0, none⟩))])]), (13, .own eu 147 v15 l9), (15, .blk YT [(.int .i64 ((lq + 1))), (.int .i64 (xz)), v47, v51, (.slice none 0 0), (.slice none 0 0)]), (16, .rd jU v47 sQ), (17, .rd jU v51 AR)]) ∧ sj F0 lq a W F l9 xz sQ kR Hf xM AR = some r) ?_ ?_
 rintro ⟨Hf, xM, v51, AR⟩ w dD ⟨h, hs⟩
 refine bY (σ := Int × Bool × Value × List bG) (inl [58, 59, 60, 61, 62, 63, 64, 65, 66, 67, 68, 69, 70]) (fun ⟨Ky, P7, v55, Ms⟩ => []) (fun ⟨Ky, P7, v55, Ms⟩ w => SH w0 M K0 w (hset [(1, .blk ba [(.int .i64 (Ky))]), (2, .blk bo [(.bool (P7))]), (3, .rd ni vW W), (4, .sr iH vF F), (5, .pt bw 0 [vW]), (6, .pt bwd 0 [(.func (.func 103) #[] #[(.pointer (some ⟨ba, 0, none⟩)), (.pointer (some ⟨bw, 0, none⟩)), (.pointer (some ⟨bo, 0, none⟩))])]), (7, .pt bf 0 [vF]), (8, .pt be 0 [(.func (.func 104) #[] #[(.pointer (some ⟨bo, 0, none⟩)), (.pointer (some ⟨bwd, 0, none⟩)), (.pointer (some ⟨bf, 0, none⟩))])]), (9, .pt bb 0 [(.func (.func 109) #[] #[(.pointer (some ⟨bwd, 0, none⟩)), (.pointer (some ⟨bo, 0, none⟩)), (.pointer (some ⟨be, 0, none⟩)), (.pointer (some ⟨bb, 0, none⟩))])]), (13, .own eu 147 v15 l9), (15, .blk YT [(.int .i64 ((lq + 1))), (.int .i64 (xz)), v47, v51, v55, (.slice none 0 0)]), (16, .rd jU v47 sQ), (17, .rd jU v51 AR), (18, .rd eu v55 Ms)]) ∧ yY F0 lq a W F l9 xz sQ AR kR Ky P7 Ms = some r) ?_ ?_
 rintro ⟨Ky, P7, v55, Ms⟩ w dD ⟨h, hs⟩
 refine bY (σ := Int × Bool × Value × List bG) (inl [71, 72, 73, 74, 75, 76, 77, 78]) (fun ⟨Ww, Wx, v59, sS⟩ => []) (fun ⟨Ww, Wx, v59, sS⟩ w => SH w0 M K0 w (hset [(1, .blk ba [(.int .i64 (Ww))]), (2, .blk bo [(.bool (Wx))]), (3, .rd ni vW W), (4, .sr iH vF F), (5, .pt bw 0 [vW]), (6, .pt bwd 0 [(.func (.func 103) #[] #[(.pointer (some ⟨ba, 0, none⟩)), (.pointer (some ⟨bw, 0, none⟩)), (.pointer (some ⟨bo, 0, none⟩))])]), (7, .pt bf 0 [vF]), (8, .pt be 0 [(.func (.func 104) #[] #[(.pointer (some ⟨bo, 0, none⟩)), (.pointer (some ⟨bwd, 0, none⟩)), (.pointer (some ⟨bf, 0, none⟩))])]), (9, .pt bb 0 [(.func (.func 109) #[] #[(.pointer (some ⟨bwd, 0, none⟩)), (.pointer (some ⟨bo, 0, none⟩)), (.pointer (some ⟨be, 0, none⟩)), (.pointer (some ⟨bb, 0, none⟩))])]), (13, .own eu 147 v15 l9), (15, .blk YT [(.int .i64 ((lq + 1))), (.int .i64 (xz)), v47, v51, v55, v59]), (16, .rd jU v47 sQ), (17, .rd jU v51 AR), (18, .rd eu v55 Ms), (19, .rd eu v59 sS)]) ∧ yX l9 lq xz sQ AR Ms kR Ww Wx sS = some r) ?_ ?_
 rintro ⟨Ww, Wx, v59, sS⟩ w dD ⟨h, hs⟩
 refine ag (ae (au (v := v15) rfl) (ae (dz (vs := [(.int .i64 ((lq + 1))), (.int .i64 (xz)), v47, v51, v55, v59]) h 15 rfl nA rfl rfl rfl) (sZ (R := eu) (vs := [(.agg #[(.int .i64 ((lq + 1))), (.int .i64 (xz)), v47, v51, v55, v59])]) (xs := [(⟨(lq + 1), xz, sQ, AR, Ms, sS⟩ : bG)]) h 20 Ie rfl rfl rfl ⟨(Qq ⟨_, _, _, _, rfl, (h.gF 16 rfl), (h.gF 17 rfl), (h.gF 18 rfl), (h.gF 19 rfl)⟩), trivial⟩ rfl fun w u61 h => ?_)))
 obtain ⟨a62, hs⟩ := bI hs
 refine mf (R := eu) (m := [(⟨(lq + 1), xz, sQ, AR, Ms, sS⟩ : bG)]) h 13 rfl (h.ed 20 rfl) Ie rfl rfl rfl a62.1 a62.2 fun w u63 h => ae (aj (v := u63) rfl) (ah (aA (az ?_)))
 subst Rv
 exact jN ⟨YS, u63, (l9 ++ [(⟨(lq + 1), xz, sQ, AR, Ms, sS⟩ : bG)]), Ww, Wx⟩ ⟨h.cn _, hs⟩
 refine ai (ag (ae (ak jC rfl) (ae (aF h 15 rfl bz rfl rfl) (ae (bH rfl rfl) (ah (aa (aK hs rfl (fun c64 hs => ?_) (fun c64 hs => ?_))))))))
 refine ag (ae (ek (k := 0) h 9 rfl FT rfl rfl) (ae (au (v := (.int .i64 (a))) rfl) ?_))
 obtain ⟨a65, hs⟩ := bI hs
 refine ae (dC rfl rfl a65) ?_
 replace h := h.pair 1 2 (by decide)
 obtain ⟨l66a, l66b, l66c⟩ := h.vT 1 (C := (.two (.blk ba [(.int .i64 (Ky))]) (.blk bo [(.bool (P7))]) : Chunk)) rfl ⟨trivial, trivial⟩
 obtain ⟨tX, T9, hs⟩ := aP hs
 refine bA Js rfl rfl (ih _ _ l66c (hT.Qs h.keep hG) ba bo bw bwd bf be bb (⟨Ky, P7⟩ : dJ) l66a l66b vW W (h.Ny 1 3 rfl rfl) vF F (h.TF 1 4 rfl rfl) (by obtain ⟨E, hE⟩ := hbw; exact ⟨E, h.keep.blk hE Mm⟩) Rs (by obtain ⟨E, hE⟩ := JD; exact ⟨E, h.keep.blk hE F4⟩) F3 (by obtain ⟨E, hE⟩ := hbf; exact ⟨E, h.keep.blk hE Mo⟩) Rt (by obtain ⟨E, hE⟩ := hbe; exact ⟨E, h.keep.blk hE Wy⟩) XJ (by obtain ⟨E, hE⟩ := hbb; exact ⟨E, h.keep.blk hE Wz⟩) XK (a + 1) (h.FK hT hG 1 (C := (.two (.blk ba [(.int .i64 (Ky))]) (.blk bo [(.bool (P7))]) : Chunk)) rfl) _ T9) ?_
 rintro _ w ⟨k71, u69, rfl, h72, h73, g70⟩
 refine ⟨_, rfl, ?_⟩
 replace h := h.back 1 (C := (.two (.blk ba [(.int .i64 (Ky))]) (.blk bo [(.bool (P7))]) : Chunk)) (C' := (.two (.blk ba [(.int .i64 (tX.2.at_))]) (.blk bo [(.bool (tX.2.ok))]) : Chunk)) rfl ⟨trivial, trivial⟩ h72 k71 h73
 replace h := h.cO 21 (FN g70)
 replace h := h.bX 1 2 (by decide) rfl rfl
 refine ae (ak xI rfl) (fw h 15 [(.int .i64 ((lq + 1))), (.int .i64 (xz)), v47, v51, v55, u69] rfl ow rfl rfl rfl rfl (h.gF 21 rfl).one fun w h => ah (az ?_))
 replace h := h.Nq 21 19 rfl
 exact bS (tX.2.at_, tX.2.ok, u69, tX.1) ⟨h.cn _, hs⟩
 refine aG (az ?_)
 replace h := h.cO 19 (gp.nil (R := eu))
 exact bS (Ky, P7, (.slice none 0 0), []) ⟨h.cn _, hs⟩
 refine ai (ag (ae (ak jC rfl) (ae (aF h 15 rfl bz rfl rfl) (ae (bH rfl rfl) (ae (au (v := (.bool (decide (((lq + 1) : Int) = 6)))) rfl) (aD rfl rfl (fun q => ak jC rfl) (aD rfl rfl (fun q => aF h 15 rfl bz (dx q) rfl) (aD rfl rfl (fun q => bH (dx q) rfl) (ae (gK rfl rfl lQ) (ah (aa (aK hs rfl (fun YU hs => ?_) (fun YU hs => ?_)))))))))))))
 refine ag (ae (ek (k := 0) h 9 rfl FT rfl rfl) (ae (au (v := (.int .i64 (a))) rfl) ?_))
 obtain ⟨a75, hs⟩ := bI hs
 refine ae (dC rfl rfl a75) ?_
 replace h := h.pair 1 2 (by decide)
 obtain ⟨l76a, l76b, l76c⟩ := h.vT 1 (C := (.two (.blk ba [(.int .i64 (Hf))]) (.blk bo [(.bool (xM))]) : Chunk)) rfl ⟨trivial, trivial⟩
 obtain ⟨Ud, e78, hs⟩ := aP hs
 refine bA Js rfl rfl (ih _ _ l76c (hT.Qs h.keep hG) ba bo bw bwd bf be bb (⟨Hf, xM⟩ : dJ) l76a l76b vW W (h.Ny 1 3 rfl rfl) vF F (h.TF 1 4 rfl rfl) (by obtain ⟨E, hE⟩ := hbw; exact ⟨E, h.keep.blk hE Mm⟩) Rs (by obtain ⟨E, hE⟩ := JD; exact ⟨E, h.keep.blk hE F4⟩) F3 (by obtain ⟨E, hE⟩ := hbf; exact ⟨E, h.keep.blk hE Mo⟩) Rt (by obtain ⟨E, hE⟩ := hbe; exact ⟨E, h.keep.blk hE Wy⟩) XJ (by obtain ⟨E, hE⟩ := hbb; exact ⟨E, h.keep.blk hE Wz⟩) XK (a + 1) (h.FK hT hG 1 (C := (.two (.blk ba [(.int .i64 (Hf))]) (.blk bo [(.bool (xM))]) : Chunk)) rfl) _ e78) ?_
 rintro _ w ⟨k81, u79, rfl, h82, h83, g80⟩
 refine ⟨_, rfl, ?_⟩
 replace h := h.back 1 (C := (.two (.blk ba [(.int .i64 (Hf))]) (.blk bo [(.bool (xM))]) : Chunk)) (C' := (.two (.blk ba [(.int .i64 (Ud.2.at_))]) (.blk bo [(.bool (Ud.2.ok))]) : Chunk)) rfl ⟨trivial, trivial⟩ h82 k81 h83
 replace h := h.cO 22 (FN g80)
 replace h := h.bX 1 2 (by decide) rfl rfl
 refine ae (ak xH rfl) (fw h 15 [(.int .i64 ((lq + 1))), (.int .i64 (xz)), v47, v51, u79, (.slice none 0 0)] rfl ow rfl rfl rfl rfl (h.gF 22 rfl).one fun w h => ah (az ?_))
 replace h := h.Nq 22 18 rfl
 exact bS (Ud.2.at_, Ud.2.ok, u79, Ud.1) ⟨h.cn _, hs⟩
 refine aG (az ?_)
 replace h := h.cO 18 (gp.nil (R := eu))
 exact bS (Hf, xM, (.slice none 0 0), []) ⟨h.cn _, hs⟩
 refine ai (ag (ae (ak jC rfl) (ae (aF h 15 rfl bz rfl rfl) (ae (bH rfl rfl) (ah (aa (aK hs rfl (fun c84 hs => ?_) (fun c84 hs => ?_))))))))
 refine ag (ae (ek (k := 0) h 8 rfl Jz rfl rfl) ?_)
 replace h := h.pair 1 2 (by decide)
 obtain ⟨l85a, l85b, l85c⟩ := h.vT 1 (C := (.two (.blk ba [(.int .i64 (Mt))]) (.blk bo [(.bool (Mv))]) : Chunk)) rfl ⟨trivial, trivial⟩
 obtain ⟨JC, e87, hs⟩ := aP hs
 refine bA NB rfl rfl (Il N _ _ l85c (hT.Qs h.keep hG) ba bo bw bwd bf (⟨Mt, Mv⟩ : dJ) l85a l85b vW W (h.Ny 1 3 rfl rfl) vF F (h.TF 1 4 rfl rfl) (by obtain ⟨E, hE⟩ := hbw; exact ⟨E, h.keep.blk hE Mm⟩) Rs (by obtain ⟨E, hE⟩ := JD; exact ⟨E, h.keep.blk hE F4⟩) F3 (by obtain ⟨E, hE⟩ := hbf; exact ⟨E, h.keep.blk hE Mo⟩) Rt (h.FK hT hG 1 (C := (.two (.blk ba [(.int .i64 (Mt))]) (.blk bo [(.bool (Mv))]) : Chunk)) rfl) _ e87) ?_
 rintro _ w ⟨k90, u88, rfl, h91, h92, g89⟩
 refine ⟨_, rfl, ?_⟩
 replace h := h.back 1 (C := (.two (.blk ba [(.int .i64 (Mt))]) (.blk bo [(.bool (Mv))]) : Chunk)) (C' := (.two (.blk ba [(.int .i64 (JC.2.at_))]) (.blk bo [(.bool (JC.2.ok))]) : Chunk)) rfl ⟨trivial, trivial⟩ h91 k90 h92
 replace h := h.cO 23 (FN g89)
 replace h := h.bX 1 2 (by decide) rfl rfl
 refine ae (ak zS rfl) (fw h 15 [(.int .i64 ((lq + 1))), (.int .i64 (xz)), v47, u88, (.slice none 0 0), (.slice none 0 0)] rfl vU rfl rfl rfl rfl (h.gF 23 rfl).one fun w h => ah (az ?_))
 replace h := h.Nq 23 17 rfl
 exact bS (JC.2.at_, JC.2.ok, u88, JC.1) ⟨h.cn _, hs⟩
 refine aG (az ?_)
 replace h := h.cO 17 (gp.nil (R := jU))
 exact bS (Mt, Mv, (.slice none 0 0), []) ⟨h.cn _, hs⟩
 refine ai (ag (ae (ak jC rfl) (ae (aF h 15 rfl bz rfl rfl) (ae (iA rfl rfl) (ah (aa (aK hs rfl (fun c93 hs => ?_) (fun c93 hs => ?_))))))))
 refine ag (ae (ek (k := 0) h 8 rfl Jz rfl rfl) ?_)
 replace h := h.pair 1 2 (by decide)
 obtain ⟨l94a, l94b, l94c⟩ := h.vT 1 (C := (.two (.blk ba [(.int .i64 (vY))]) (.blk bo [(.bool (yT))]) : Chunk)) rfl ⟨trivial, trivial⟩
 obtain ⟨y95, e96, hs⟩ := aP hs
 refine bA NB rfl rfl (Il N _ _ l94c (hT.Qs h.keep hG) ba bo bw bwd bf (⟨vY, yT⟩ : dJ) l94a l94b vW W (h.Ny 1 3 rfl rfl) vF F (h.TF 1 4 rfl rfl) (by obtain ⟨E, hE⟩ := hbw; exact ⟨E, h.keep.blk hE Mm⟩) Rs (by obtain ⟨E, hE⟩ := JD; exact ⟨E, h.keep.blk hE F4⟩) F3 (by obtain ⟨E, hE⟩ := hbf; exact ⟨E, h.keep.blk hE Mo⟩) Rt (h.FK hT hG 1 (C := (.two (.blk ba [(.int .i64 (vY))]) (.blk bo [(.bool (yT))]) : Chunk)) rfl) _ e96) ?_
 rintro _ w ⟨k99, Rw, rfl, h100, WA, g98⟩
 refine ⟨_, rfl, ?_⟩
 replace h := h.back 1 (C := (.two (.blk ba [(.int .i64 (vY))]) (.blk bo [(.bool (yT))]) : Chunk)) (C' := (.two (.blk ba [(.int .i64 (y95.2.at_))]) (.blk bo [(.bool (y95.2.ok))]) : Chunk)) rfl ⟨trivial, trivial⟩ h100 k99 WA
 replace h := h.cO 24 (FN g98)
 replace h := h.bX 1 2 (by decide) rfl rfl
 refine ae (ak xG rfl) (fw h 15 [(.int .i64 ((lq + 1))), (.int .i64 (xz)), Rw, (.slice none 0 0), (.slice none 0 0), (.slice none 0 0)] rfl vU rfl rfl rfl rfl (h.gF 24 rfl).one fun w h => ah (az ?_))
 replace h := h.Nq 24 16 rfl
 exact bS (y95.2.at_, y95.2.ok, Rw, y95.1) ⟨h.cn _, hs⟩
 refine aG (az ?_)
 replace h := h.cO 16 (gp.nil (R := jU))
 exact bS (vY, yT, (.slice none 0 0), []) ⟨h.cn _, hs⟩
 refine ai (ag (ae (ak jC rfl) (ae (aF h 15 rfl bz rfl rfl) (ae (Cn rfl rfl) (ah (aa (aK hs rfl (fun Rx hs => ?_) (fun Rx hs => ?_))))))))
 refine ag (ae (ek (k := 0) h 6 rfl yS rfl rfl) (jl (args := [(.pointer (some ⟨ba, 0, none⟩)), (.pointer (some ⟨bw, 0, none⟩)), (.pointer (some ⟨bo, 0, none⟩))]) yQ rfl rfl (aQ (args := [(.pointer (some ⟨ba, 0, none⟩)), (.pointer (some ⟨bw, 0, none⟩)), (.pointer (some ⟨bo, 0, none⟩))]) Tryz.func103 rfl Tryz.ntmps103 (Nat.le_of_ble_eq_true rfl) (ai (ag (ae (aj (v := (bg [])) rfl) (ah (aa (ai (ai (ag (ae (aF h 1 rfl bz rfl rfl) (ae (ek (k := 0) h 5 rfl lZ rfl rfl) (ae (bU eB rfl (h.lY 3 rfl)) (ae (oI rfl rfl) (ah (aa (aK hs rfl (fun WB hs => ?_) (fun WB hs => ?_)))))))))))))))))))
 refine ai (ag (fw h 2 [(.bool (false))] rfl wI rfl rfl rfl rfl rfl fun w h => ah (aa (ai (ag (ae (aj (v := (bg [])) rfl) (ah (aa (aI (aC (bV (v := (bg [])) Tryz.results103 rfl (⟨_, rfl, ?_⟩))))))))))))
 obtain ⟨y104, JF, hs⟩ := aP hs
 refine bA CE rfl rfl (oZ _ _ h.lt (hT.Qs h.keep hG) [] _ JF) ?_
 rintro _ w ⟨Hg, Ry, rfl, YV⟩
 refine ⟨_, rfl, ?_⟩
 replace h := h.grow Hg
 refine ae (au (v := (.tuple #[(.int .i64 (y104.1)), Ry])) rfl) (ae (bB rfl rfl) (ae (bB rfl rfl) (ae (ak um rfl) (fw h 15 [(.int .i64 ((lq + 1))), (.int .i64 (y104.1)), (.slice none 0 0), (.slice none 0 0), (.slice none 0 0), (.slice none 0 0)] rfl bz rfl rfl rfl rfl rfl fun w h => ah (az ?_)))))
 exact bS (y28, false, y104.1) ⟨h.cn _, hs⟩
 refine aG (aa (ai (ag (ae (aF h 1 rfl bz rfl rfl) ?_))))
 obtain ⟨a109, hs⟩ := bI hs
 refine ae (dC rfl rfl a109) (fw h 1 [(.int .i64 ((y28 + 1)))] rfl bz rfl rfl rfl rfl rfl fun w h => ah (aa (ai (ag (ae (ek (k := 0) h 5 rfl lZ rfl rfl) (ae (aF h 1 rfl bz rfl rfl) ?_))))))
 obtain ⟨a110, hs⟩ := bI hs
 refine ae (nW rfl rfl a110) ?_
 obtain ⟨Mw, YW, hs⟩ := aP hs
 obtain ⟨b114, o115, cs116, h, r117, i113⟩ := h.Dl 3 25 rfl eB rfl (aJ YW).1 (aJ YW).2
 obtain rfl := r117
 refine ae (i113 _ _ _ _ _ _ _ _ _ rfl rfl) (ae (ek (k := 0) h 25 rfl xK rfl rfl) (ae (aj (v := (bg Mw)) rfl) (ah (aa (aI (bV (v := (bg Mw)) Tryz.results103 rfl (⟨_, rfl, ?_⟩)))))))
 obtain ⟨Mx, e119, hs⟩ := aP hs
 refine bA CE rfl rfl (oZ _ _ h.lt (hT.Qs h.keep hG) Mw _ e119) ?_
 rintro _ w ⟨k122, u120, rfl, g121⟩
 refine ⟨_, rfl, ?_⟩
 replace h := h.grow k122
 refine ae (au (v := (.tuple #[(.int .i64 (Mx.1)), u120])) rfl) (ae (bB rfl rfl) (ae (bB rfl rfl) (ae (ak um rfl) (fw h 15 [(.int .i64 ((lq + 1))), (.int .i64 (Mx.1)), (.slice none 0 0), (.slice none 0 0), (.slice none 0 0), (.slice none 0 0)] rfl bz rfl rfl rfl rfl rfl fun w h => ah (az ?_)))))
 exact bS ((y28 + 1), (y29 && decide ((0 : Int) < (lq + 1))), Mx.1) ⟨h.cn _, hs⟩
 refine aG (az ?_)
 exact bS (y28, (y29 && decide ((0 : Int) < (lq + 1))), 0) ⟨h.cn _, hs⟩
 refine ag (ae (ek (k := 0) h 6 rfl yS rfl rfl) (jl (args := [(.pointer (some ⟨ba, 0, none⟩)), (.pointer (some ⟨bw, 0, none⟩)), (.pointer (some ⟨bo, 0, none⟩))]) yQ rfl rfl (aQ (args := [(.pointer (some ⟨ba, 0, none⟩)), (.pointer (some ⟨bw, 0, none⟩)), (.pointer (some ⟨bo, 0, none⟩))]) Tryz.func103 rfl Tryz.ntmps103 (Nat.le_of_ble_eq_true rfl) (ai (ag (ae (aj (v := (bg [])) rfl) (ah (aa (ai (ai (ag (ae (aF h 1 rfl bz rfl rfl) (ae (ek (k := 0) h 5 rfl lZ rfl rfl) (ae (bU eB rfl (h.lY 3 rfl)) (ae (oI rfl rfl) (ah (aa (aK hs rfl (fun c123 hs => ?_) (fun c123 hs => ?_)))))))))))))))))))
 refine ai (ag (fw h 2 [(.bool (false))] rfl wI rfl rfl rfl rfl rfl fun w h => ah (aa (ai (ag (ae (aj (v := (bg [])) rfl) (ah (aa (aI (aC (bV (v := (bg [])) Tryz.results103 rfl (⟨_, rfl, ?_⟩))))))))))))
 refine ae (aj (v := (bg [])) rfl) (ah (az ?_))
 exact bS ([], Cj, false) ⟨h.cn _, hs⟩
 refine aG (aa (ai (ag (ae (aF h 1 rfl bz rfl rfl) ?_))))
 obtain ⟨a124, hs⟩ := bI hs
 refine ae (dC rfl rfl a124) (fw h 1 [(.int .i64 ((Cj + 1)))] rfl bz rfl rfl rfl rfl rfl fun w h => ah (aa (ai (ag (ae (ek (k := 0) h 5 rfl lZ rfl rfl) (ae (aF h 1 rfl bz rfl rfl) ?_))))))
 obtain ⟨a125, hs⟩ := bI hs
 refine ae (nW rfl rfl a125) ?_
 obtain ⟨F5, e127, hs⟩ := aP hs
 obtain ⟨b129, o130, YX, h, WE, i128⟩ := h.Dl 3 26 rfl eB rfl (aJ e127).1 (aJ e127).2
 obtain rfl := WE
 refine ae (i128 _ _ _ _ _ _ _ _ _ rfl rfl) (ae (ek (k := 0) h 26 rfl xK rfl rfl) (ae (aj (v := (bg F5)) rfl) (ah (aa (aI (bV (v := (bg F5)) Tryz.results103 rfl (⟨_, rfl, ?_⟩)))))))
 refine ae (aj (v := (bg F5)) rfl) (ah (az ?_))
 exact bS (F5, (Cj + 1), G6) ⟨h.cn _, hs⟩
 refine df (aO (aO (bF (aa (ai (ag (ae (aj (v := (.slice none 0 0)) rfl) (ah (aa (aI (bV (v := (.slice none 0 0)) Tryz.results109 rfl ?_)))))))))))
 replace h := h.pair 1 2 (by decide)
 obtain rfl := Option.some.inj hs
 subst zy
 obtain ⟨o1, o2, o3⟩ := h.qp 1 (C := (.two (.blk ba [(.int .i64 (Cj))]) (.blk bo [(.bool (G6))]) : Chunk)) rfl ⟨trivial, trivial⟩
 exact ⟨o2, .slice none 0 0, rfl, o1, o3, gp.nil⟩
 refine bY (σ := Bool × Int × Bool) (inl [10, 11, 12, 13, 14, 15, 16]) (fun ⟨BD, EZ, JE⟩ => [(16, (.bool (BD)))]) (fun ⟨BD, EZ, JE⟩ w => SH w0 M K0 w (hset [(1, .blk ba [(.int .i64 (EZ))]), (2, .blk bo [(.bool (JE))]), (3, .rd ni vW W), (4, .sr iH vF F), (5, .pt bw 0 [vW]), (6, .pt bwd 0 [(.func (.func 103) #[] #[(.pointer (some ⟨ba, 0, none⟩)), (.pointer (some ⟨bw, 0, none⟩)), (.pointer (some ⟨bo, 0, none⟩))])]), (7, .pt bf 0 [vF]), (8, .pt be 0 [(.func (.func 104) #[] #[(.pointer (some ⟨bo, 0, none⟩)), (.pointer (some ⟨bwd, 0, none⟩)), (.pointer (some ⟨bf, 0, none⟩))])]), (9, .pt bb 0 [(.func (.func 109) #[] #[(.pointer (some ⟨bwd, 0, none⟩)), (.pointer (some ⟨bo, 0, none⟩)), (.pointer (some ⟨be, 0, none⟩)), (.pointer (some ⟨bb, 0, none⟩))])])]) ∧ sG N F0 W F a BD EZ JE = some r) ?_ ?_
 rintro ⟨BD, EZ, JE⟩ w dD ⟨h, hs⟩
 refine aK hs rfl (fun c136 hs => ?_) (fun c136 hs => ?_)
 refine ag (fw h 2 [(.bool (false))] rfl wI rfl rfl rfl rfl rfl fun w h => ah (az ?_))
 exact bS (EZ, false) ⟨h.cn _, hs⟩
 refine aG (az ?_)
 exact bS (EZ, JE) ⟨h.cn _, hs⟩
 refine ag (ae (ek (k := 0) h 6 rfl yS rfl rfl) (jl (args := [(.pointer (some ⟨ba, 0, none⟩)), (.pointer (some ⟨bw, 0, none⟩)), (.pointer (some ⟨bo, 0, none⟩))]) yQ rfl rfl (aQ (args := [(.pointer (some ⟨ba, 0, none⟩)), (.pointer (some ⟨bw, 0, none⟩)), (.pointer (some ⟨bo, 0, none⟩))]) Tryz.func103 rfl Tryz.ntmps103 (Nat.le_of_ble_eq_true rfl) (ai (ag (ae (aj (v := (bg [])) rfl) (ah (aa (ai (ai (ag (ae (aF h 1 rfl bz rfl rfl) (ae (ek (k := 0) h 5 rfl lZ rfl rfl) (ae (bU eB rfl (h.lY 3 rfl)) (ae (oI rfl rfl) (ah (aa (aK hs rfl (fun c137 hs => ?_) (fun c137 hs => ?_)))))))))))))))))))
 refine ai (ag (fw h 2 [(.bool (false))] rfl wI rfl rfl rfl rfl rfl fun w h => ah (aa (ai (ag (ae (aj (v := (bg [])) rfl) (ah (aa (aI (aC (bV (v := (bg [])) Tryz.results103 rfl (⟨_, rfl, ?_⟩))))))))))))
 refine ae (FI rfl rfl) (ae (au (v := (.bool (true))) rfl) (bE (b' := true) rfl rfl rfl (bE (b' := true) rfl rfl rfl (ae (dL (b := true) (v := (.bool (true))) rfl rfl) (ah (az ?_))))))
 exact bS (true, sx.at_, false) ⟨h.cn _, hs⟩
 refine aG (aa (ai (ag (ae (aF h 1 rfl bz rfl rfl) ?_))))
 obtain ⟨a138, hs⟩ := bI hs
 refine ae (dC rfl rfl a138) (fw h 1 [(.int .i64 ((sx.at_ + 1)))] rfl bz rfl rfl rfl rfl rfl fun w h => ah (aa (ai (ag (ae (ek (k := 0) h 5 rfl lZ rfl rfl) (ae (aF h 1 rfl bz rfl rfl) ?_))))))
 obtain ⟨a139, hs⟩ := bI hs
 refine ae (nW rfl rfl a139) ?_
 obtain ⟨KM, YY, hs⟩ := aP hs
 obtain ⟨b143, o144, cs145, h, r146, i142⟩ := h.Dl 3 27 rfl eB rfl (aJ YY).1 (aJ YY).2
 obtain rfl := r146
 refine ae (i142 _ _ _ _ _ _ _ _ _ rfl rfl) (ae (ek (k := 0) h 27 rfl xK rfl rfl) (ae (aj (v := (bg KM)) rfl) (ah (aa (aI (bV (v := (bg KM)) Tryz.results103 rfl (⟨_, rfl, ?_⟩)))))))
 refine ae (FI rfl rfl) (ae (au (v := (.bool (decide ((KM : Str) ≠ [123])))) rfl) (aD rfl rfl (fun q => au (v := (.int .i64 (a))) rfl) (aD rfl rfl (fun q => jA (dx q) rfl) (ae (gK rfl rfl lQ) (ah (az ?_))))))
 exact bS ((decide ((KM : Str) ≠ [123]) || decide ((6 : Int) < a)), (sx.at_ + 1), sx.ok) ⟨h.cn _, hs⟩
def kS (Hl : List eX → Option (List eX × Int)) (y24 : List eX) : Option (List eX × Int) :=
  Hl y24
def kT (y1 : List Str) (i17 : Int) (vE : List eX) (Hl : List eX → Option (List eX × Int)) (x30 : Bool) : Option (List eX × Int) :=
  bif x30 then (idx y1 (i17 + 1)).bind fun x32 => (zN x32).bind fun y39 => gQ (jB (i17 + 2)) ((idx y1 (i17 + 2)).bind fun x45 => (zN x45).bind fun AR => gQ (Room 40 vE [(⟨y39.1, AR.1, []⟩ : eX)]) (kS Hl (vE ++ [(⟨y39.1, AR.1, []⟩ : eX)]))) else kS Hl vE
def gV (N : Nat) (y1 : List Str) (qA : List eX) (i101 : Int) (j5 : (List eX × Int × Bool) → Option (List eX × Int)) (E5 : Int) (y112 : Bool) : Option (List eX × Int) :=
  (uC N (⟨E5, y112⟩ : dJ) y1 qA 1).bind fun jJ => (idx qA i101).bind fun vO => j5 ((qA.set (i101).toNat { vO with body := jJ.1 }), jJ.2.at_, jJ.2.ok)
def gW (N : Nat) (y1 : List Str) (qA : List eX) (i101 : Int) (j5 : (List eX × Int × Bool) → Option (List eX × Int)) (xk : Int) (JG : Bool) : Option (List eX × Int) :=
  bif decide (((y1.length : Int) : Int) ≤ xk) then gV N y1 qA i101 j5 xk false else gQ (jB (xk + 1)) (gQ (jB ((xk + 1) - 1)) ((idx y1 ((xk + 1) - 1)).bind fun Ue => gV N y1 qA i101 j5 (xk + 1) JG))
def gX (N : Nat) (y1 : List Str) (qA : List eX) (i101 : Int) (j5 : (List eX × Int × Bool) → Option (List eX × Int)) (om : Int) (JH : Bool) : Option (List eX × Int) :=
  bif decide (((y1.length : Int) : Int) ≤ om) then gW N y1 qA i101 j5 om false else gQ (jB (om + 1)) (gQ (jB ((om + 1) - 1)) ((idx y1 ((om + 1) - 1)).bind fun Uf => gW N y1 qA i101 j5 (om + 1) JH))
def gY (N : Nat) (y1 : List Str) (qA : List eX) (i101 : Int) (j5 : (List eX × Int × Bool) → Option (List eX × Int)) (KN : Bool) (E8 : Int) (JI : Bool) : Option (List eX × Int) :=
  bif KN then gX N y1 qA i101 j5 E8 false else gX N y1 qA i101 j5 E8 JI
def iW (qA : List eX) (x159 : Bool) : Option (List eX × Int) :=
  bif x159 then some ([], 1) else some (qA, 0)
def gZ (N : Nat) (y1 : List Str) (i101 : Int) (s : List eX × Int × Bool) (j5 : List eX × Int × Bool → Option (List eX × Int)) : Option (List eX × Int) :=
  match s with | (qA, y98, y99) => bif decide (((y1.length : Int) : Int) ≤ y98) then gY N y1 qA i101 j5 true y98 false else gQ (jB (y98 + 1)) (gQ (jB ((y98 + 1) - 1)) ((idx y1 ((y98 + 1) - 1)).bind fun x152 => gY N y1 qA i101 j5 (decide ((x152 : Str) ≠ [102, 117, 110])) (y98 + 1) y99))
def iX (N : Nat) (y1 : List Str) (a : Str) (s : List eX × Int × Bool) : Option (List eX × Int) :=
  match s with | (qA, y98, y99) => bif ((!y99) || decide ((y98 : Int) < (y1.length : Int))) then iW qA true else (q8 N qA).bind fun Rz => bif decide ((Rz : Int) ≠ 0) then iW qA true else (rY N qA).bind fun Ug => iW qA (decide ((Ug : Str) ≠ a))
def iY (vE : List eX) (i64 : Int) (s : Unit) (YZ : Unit → Option (List eX × Int)) : Option (List eX × Int) :=
  (idx vE i64).bind fun Uh => bif (!(bC Uh.params 0 3)) then some ([], 1) else YZ ()
def ib (N : Nat) (y1 : List Str) (a : Str) (vE : List eX) (s : Unit) : Option (List eX × Int) :=
  upto (gZ N y1) (iX N y1 a) 0 ((vE.length : Int)).toNat (vE, 0, true)
def iZ (y1 : List Str) (i17 : Int) (yz : Str) (vE : List eX) (Hl : List eX → Option (List eX × Int)) : Option (List eX × Int) :=
  bif decide ((yz : Str) = [102, 117, 110]) then gQ (jB (i17 + 2)) (kT y1 i17 vE Hl (decide (((i17 + 2) : Int) < (y1.length : Int)))) else kT y1 i17 vE Hl false
def ic (N : Nat) (y1 : List Str) (a : Str) (vE : List eX) : Option (List eX × Int) :=
  bif (decide (((vE.length : Int) : Int) = 0) || decide ((4 : Int) < (vE.length : Int))) then some ([], 1) else upto (iY vE) (ib N y1 a vE) 0 ((vE.length : Int)).toNat ()
def jW (N : Nat) (a : Str) : Option (List eX × Int) :=
  (Jg a [32]).bind fun y1 => eO (iZ y1) (ic N y1 a) 0 y1 []
end
end Go.Proofs.YtfclkapelkhlpaaGreatDoor
