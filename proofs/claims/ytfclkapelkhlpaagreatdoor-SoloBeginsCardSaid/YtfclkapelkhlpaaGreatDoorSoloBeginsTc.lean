/-
  What the law SoloBegins needs of our own library and of the walks, no more.
-/
import Derived.Test.YtfclkapelkhlpaaGreatDoorProg
import Derived.Test.YtfclkapelkhlpaaGreatDoorSoloBeginsTb
set_option linter.unusedSimpArgs false
set_option linter.unusedVariables false
set_option maxRecDepth 10000
namespace Go.Proofs.YtfclkapelkhlpaaGreatDoor
open Go Go.Proofs Go.LX
noncomputable section
theorem IM : nE Tryz.prog 111 147 6 112 := ⟨Tryz.underlying111, si (z := (.agg #[(.int .i64 (0)), (.int .i64 (0)), (.slice none 0 0), (.slice none 0 0), (.slice none 0 0), (.slice none 0 0)])) (by kernel_rfl) rfl⟩
theorem IP : nE Tryz.prog 145 160 2 16 := ⟨Tryz.underlying145, si (z := (.agg #[(.int .i64 (0)), (.int .i64 (0))])) (by kernel_rfl) rfl⟩
theorem IQ : nE Tryz.prog 153 9 1 16 := ⟨Tryz.underlying153, si (z := (bu [])) (by kernel_rfl) rfl⟩
theorem Ph : nE Tryz.prog 204 111 1 24 := ⟨Tryz.underlying204, si (z := (.slice none 0 0)) (by kernel_rfl) rfl⟩
theorem KZ : nE Tryz.prog 22 57 3 40 := ⟨Tryz.underlying22, si (z := (.agg #[(.int .i64 (0)), (.int .i64 (0)), (.slice none 0 0)])) (by kernel_rfl) rfl⟩
theorem pg : nE Tryz.prog 23 49 4 48 := ⟨Tryz.underlying23, si (z := (.agg #[(.int .i64 (0)), (.int .i64 (0)), (.slice none 0 0), (.int .i64 (0))])) (by kernel_rfl) rfl⟩
theorem qO : nE Tryz.prog 24 47 1 24 := ⟨Tryz.underlying24, si (z := (.slice none 0 0)) (by kernel_rfl) rfl⟩
theorem ky : nE Tryz.prog 27 3 1 8 := ⟨Tryz.underlying27, si (z := (.int .i64 (0))) (by kernel_rfl) rfl⟩
theorem uz : nE Tryz.prog 47 51 2 16 := ⟨Tryz.underlying47, si (z := (.agg #[(.int .i64 (0)), (.int .i64 (0))])) (by kernel_rfl) rfl⟩
theorem eG : nE Tryz.prog 55 93 5 56 := ⟨Tryz.underlying55, si (z := (.agg #[(.int .i64 (0)), (.int .i64 (0)), (.int .i64 (0)), (.int .i64 (0)), (.slice none 0 0)])) (by kernel_rfl) rfl⟩
theorem K3 : nE Tryz.prog 67 113 3 40 := ⟨Tryz.underlying67, si (z := (.agg #[(.int .i64 (0)), (.int .i64 (0)), (.slice none 0 0)])) (by kernel_rfl) rfl⟩
theorem Ry : fC Tryz.prog 101 0 0 := ⟨_, _, 0, Tryz.underlying101, rfl, rfl, by kernel_rfl⟩
theorem Rz : fC Tryz.prog 101 1 1 := ⟨_, _, 0, Tryz.underlying101, rfl, rfl, by kernel_rfl⟩
theorem Gf : fC Tryz.prog 101 2 2 := ⟨_, _, 0, Tryz.underlying101, rfl, rfl, by kernel_rfl⟩
theorem uA : fC Tryz.prog 113 0 0 := ⟨_, _, 0, Tryz.underlying113, rfl, rfl, by kernel_rfl⟩
theorem xU : fC Tryz.prog 113 1 1 := ⟨_, _, 0, Tryz.underlying113, rfl, rfl, by kernel_rfl⟩
theorem Ab : fC Tryz.prog 113 2 2 := ⟨_, _, 0, Tryz.underlying113, rfl, rfl, by kernel_rfl⟩
theorem jB : fC Tryz.prog 147 0 0 := ⟨_, _, 0, Tryz.underlying147, rfl, rfl, by kernel_rfl⟩
theorem uB : fC Tryz.prog 147 1 1 := ⟨_, _, 0, Tryz.underlying147, rfl, rfl, by kernel_rfl⟩
theorem xV : fC Tryz.prog 147 2 2 := ⟨_, _, 0, Tryz.underlying147, rfl, rfl, by kernel_rfl⟩
theorem Ac : fC Tryz.prog 147 3 3 := ⟨_, _, 0, Tryz.underlying147, rfl, rfl, by kernel_rfl⟩
theorem xW : fC Tryz.prog 147 4 4 := ⟨_, _, 0, Tryz.underlying147, rfl, rfl, by kernel_rfl⟩
theorem xX : fC Tryz.prog 147 5 5 := ⟨_, _, 0, Tryz.underlying147, rfl, rfl, by kernel_rfl⟩
theorem CV : fC Tryz.prog 160 0 0 := ⟨_, _, 0, Tryz.underlying160, rfl, rfl, by kernel_rfl⟩
theorem mH : fC Tryz.prog 160 1 1 := ⟨_, _, 0, Tryz.underlying160, rfl, rfl, by kernel_rfl⟩
theorem eU : fC Tryz.prog 26 0 0 := ⟨_, _, 0, Tryz.underlying26, rfl, rfl, by kernel_rfl⟩
theorem jZ : fC Tryz.prog 26 1 1 := ⟨_, _, 0, Tryz.underlying26, rfl, rfl, by kernel_rfl⟩
theorem iN : fC Tryz.prog 26 2 2 := ⟨_, _, 0, Tryz.underlying26, rfl, rfl, by kernel_rfl⟩
theorem CW : fC Tryz.prog 26 3 3 := ⟨_, _, 0, Tryz.underlying26, rfl, rfl, by kernel_rfl⟩
theorem A7 : fC Tryz.prog 49 0 0 := ⟨_, _, 0, Tryz.underlying49, rfl, rfl, by kernel_rfl⟩
theorem xe : fC Tryz.prog 49 1 1 := ⟨_, _, 0, Tryz.underlying49, rfl, rfl, by kernel_rfl⟩
theorem oO : fC Tryz.prog 49 2 2 := ⟨_, _, 0, Tryz.underlying49, rfl, rfl, by kernel_rfl⟩
theorem FK : fC Tryz.prog 49 3 3 := ⟨_, _, 0, Tryz.underlying49, rfl, rfl, by kernel_rfl⟩
theorem sD : fC Tryz.prog 51 0 0 := ⟨_, _, 0, Tryz.underlying51, rfl, rfl, by kernel_rfl⟩
theorem iw : fC Tryz.prog 51 1 1 := ⟨_, _, 0, Tryz.underlying51, rfl, rfl, by kernel_rfl⟩
theorem CX : fC Tryz.prog 57 0 0 := ⟨_, _, 0, Tryz.underlying57, rfl, rfl, by kernel_rfl⟩
theorem yZ : fC Tryz.prog 57 1 1 := ⟨_, _, 0, Tryz.underlying57, rfl, rfl, by kernel_rfl⟩
theorem rf : fC Tryz.prog 57 2 2 := ⟨_, _, 0, Tryz.underlying57, rfl, rfl, by kernel_rfl⟩
theorem oP : fC Tryz.prog 93 0 0 := ⟨_, _, 0, Tryz.underlying93, rfl, rfl, by kernel_rfl⟩
theorem j3 : fC Tryz.prog 93 1 1 := ⟨_, _, 0, Tryz.underlying93, rfl, rfl, by kernel_rfl⟩
theorem iG : fC Tryz.prog 93 2 2 := ⟨_, _, 0, Tryz.underlying93, rfl, rfl, by kernel_rfl⟩
theorem qp : fC Tryz.prog 93 3 3 := ⟨_, _, 0, Tryz.underlying93, rfl, rfl, by kernel_rfl⟩
theorem vT : fC Tryz.prog 93 4 4 := ⟨_, _, 0, Tryz.underlying93, rfl, rfl, by kernel_rfl⟩
theorem JS : gQ Tryz.prog 100 := ⟨_, Tryz.func100, by kernel_rfl, rfl⟩
theorem UX : gQ Tryz.prog 101 := ⟨_, Tryz.func101, by kernel_rfl, rfl⟩
theorem CY : gQ Tryz.prog 102 := ⟨_, Tryz.func102, by kernel_rfl, rfl⟩
theorem za : gQ Tryz.prog 103 := ⟨_, Tryz.func103, by kernel_rfl, rfl⟩
theorem Oq : gQ Tryz.prog 104 := ⟨_, Tryz.func104, by kernel_rfl, rfl⟩
theorem UY : gQ Tryz.prog 105 := ⟨_, Tryz.func105, by kernel_rfl, rfl⟩
theorem JU : gQ Tryz.prog 106 := ⟨_, Tryz.func106, by kernel_rfl, rfl⟩
theorem Ot : gQ Tryz.prog 107 := ⟨_, Tryz.func107, by kernel_rfl, rfl⟩
theorem JV : gQ Tryz.prog 108 := ⟨_, Tryz.func108, by kernel_rfl, rfl⟩
theorem JW : gQ Tryz.prog 109 := ⟨_, Tryz.func109, by kernel_rfl, rfl⟩
theorem UZ : gQ Tryz.prog 110 := ⟨_, Tryz.func110, by kernel_rfl, rfl⟩
theorem Ou : gQ Tryz.prog 111 := ⟨_, Tryz.func111, by kernel_rfl, rfl⟩
theorem U0 : gQ Tryz.prog 112 := ⟨_, Tryz.func112, by kernel_rfl, rfl⟩
theorem U1 : gQ Tryz.prog 113 := ⟨_, Tryz.func113, by kernel_rfl, rfl⟩
theorem U2 : gQ Tryz.prog 114 := ⟨_, Tryz.func114, by kernel_rfl, rfl⟩
theorem U3 : gQ Tryz.prog 115 := ⟨_, Tryz.func115, by kernel_rfl, rfl⟩
theorem FL : gQ Tryz.prog 116 := ⟨_, Tryz.func116, by kernel_rfl, rfl⟩
theorem Ov : gQ Tryz.prog 117 := ⟨_, Tryz.func117, by kernel_rfl, rfl⟩
theorem U4 : gQ Tryz.prog 124 := ⟨_, Tryz.func124, by kernel_rfl, rfl⟩
theorem FM : gQ Tryz.prog 125 := ⟨_, Tryz.func125, by kernel_rfl, rfl⟩
theorem Ow : gQ Tryz.prog 128 := ⟨_, Tryz.func128, by kernel_rfl, rfl⟩
theorem JX : gQ Tryz.prog 129 := ⟨_, Tryz.func129, by kernel_rfl, rfl⟩
theorem JY : gQ Tryz.prog 130 := ⟨_, Tryz.func130, by kernel_rfl, rfl⟩
theorem U5 : gQ Tryz.prog 131 := ⟨_, Tryz.func131, by kernel_rfl, rfl⟩
theorem U6 : gQ Tryz.prog 141 := ⟨_, Tryz.func141, by kernel_rfl, rfl⟩
theorem zb : gQ Tryz.prog 144 := ⟨_, Tryz.func144, by kernel_rfl, rfl⟩
theorem A8 : gQ Tryz.prog 145 := ⟨_, Tryz.func145, by kernel_rfl, rfl⟩
theorem Ox : gQ Tryz.prog 146 := ⟨_, Tryz.func146, by kernel_rfl, rfl⟩
theorem Oy : gQ Tryz.prog 147 := ⟨_, Tryz.func147, by kernel_rfl, rfl⟩
theorem JZ : gQ Tryz.prog 16 := ⟨_, Tryz.func16, by kernel_rfl, rfl⟩
theorem U7 : gQ Tryz.prog 164 := ⟨_, Tryz.func164, by kernel_rfl, rfl⟩
theorem MJ : gQ Tryz.prog 18 := ⟨_, Tryz.func18, by kernel_rfl, rfl⟩
theorem Xd : gQ Tryz.prog 20 := ⟨_, Tryz.func20, by kernel_rfl, rfl⟩
theorem RA : gQ Tryz.prog 27 := ⟨_, Tryz.func27, by kernel_rfl, rfl⟩
theorem Xe : gQ Tryz.prog 28 := ⟨_, Tryz.func28, by kernel_rfl, rfl⟩
theorem Xf : gQ Tryz.prog 29 := ⟨_, Tryz.func29, by kernel_rfl, rfl⟩
theorem Xg : gQ Tryz.prog 30 := ⟨_, Tryz.func30, by kernel_rfl, rfl⟩
theorem Xh : gQ Tryz.prog 39 := ⟨_, Tryz.func39, by kernel_rfl, rfl⟩
theorem Xi : gQ Tryz.prog 40 := ⟨_, Tryz.func40, by kernel_rfl, rfl⟩
theorem Xj : gQ Tryz.prog 48 := ⟨_, Tryz.func48, by kernel_rfl, rfl⟩
theorem J2 : gQ Tryz.prog 49 := ⟨_, Tryz.func49, by kernel_rfl, rfl⟩
theorem RB : gQ Tryz.prog 50 := ⟨_, Tryz.func50, by kernel_rfl, rfl⟩
theorem xx : gQ Tryz.prog 51 := ⟨_, Tryz.func51, by kernel_rfl, rfl⟩
theorem Xk : gQ Tryz.prog 53 := ⟨_, Tryz.func53, by kernel_rfl, rfl⟩
theorem MK : gQ Tryz.prog 55 := ⟨_, Tryz.func55, by kernel_rfl, rfl⟩
theorem RD : gQ Tryz.prog 63 := ⟨_, Tryz.func63, by kernel_rfl, rfl⟩
theorem Xl : gQ Tryz.prog 64 := ⟨_, Tryz.func64, by kernel_rfl, rfl⟩
theorem Xm : gQ Tryz.prog 65 := ⟨_, Tryz.func65, by kernel_rfl, rfl⟩
theorem J3 : gQ Tryz.prog 76 := ⟨_, Tryz.func76, by kernel_rfl, rfl⟩
theorem Xn : gQ Tryz.prog 77 := ⟨_, Tryz.func77, by kernel_rfl, rfl⟩
theorem RF : gQ Tryz.prog 80 := ⟨_, Tryz.func80, by kernel_rfl, rfl⟩
theorem ML : gQ Tryz.prog 81 := ⟨_, Tryz.func81, by kernel_rfl, rfl⟩
theorem RG : gQ Tryz.prog 82 := ⟨_, Tryz.func82, by kernel_rfl, rfl⟩
theorem MM : gQ Tryz.prog 83 := ⟨_, Tryz.func83, by kernel_rfl, rfl⟩
theorem MN : gQ Tryz.prog 84 := ⟨_, Tryz.func84, by kernel_rfl, rfl⟩
theorem RH : gQ Tryz.prog 85 := ⟨_, Tryz.func85, by kernel_rfl, rfl⟩
theorem Xo : gQ Tryz.prog 86 := ⟨_, Tryz.func86, by kernel_rfl, rfl⟩
theorem RI : gQ Tryz.prog 87 := ⟨_, Tryz.func87, by kernel_rfl, rfl⟩
theorem RJ : gQ Tryz.prog 88 := ⟨_, Tryz.func88, by kernel_rfl, rfl⟩
theorem RL : gQ Tryz.prog 89 := ⟨_, Tryz.func89, by kernel_rfl, rfl⟩
theorem RN : gQ Tryz.prog 90 := ⟨_, Tryz.func90, by kernel_rfl, rfl⟩
theorem Xp : gQ Tryz.prog 91 := ⟨_, Tryz.func91, by kernel_rfl, rfl⟩
theorem Pj : Re Tryz.prog 156 := ⟨by kernel_rfl⟩
theorem fM : uu Tryz.prog 101 [(.bool (false)), (.int .i64 (0)), (.bool (false))] := ⟨⟨_, Tryz.underlying101, trivial⟩, by kernel_rfl⟩
theorem lF : uu Tryz.prog 113 [(.int .i64 (0)), (.int .i64 (0)), (.slice none 0 0)] := ⟨⟨_, Tryz.underlying113, trivial⟩, by kernel_rfl⟩
theorem nH : uu Tryz.prog 147 [(.int .i64 (0)), (.int .i64 (0)), (.slice none 0 0), (.slice none 0 0), (.slice none 0 0), (.slice none 0 0)] := ⟨⟨_, Tryz.underlying147, trivial⟩, by kernel_rfl⟩
theorem jJ : uu Tryz.prog 160 [(.int .i64 (0)), (.int .i64 (0))] := ⟨⟨_, Tryz.underlying160, trivial⟩, by kernel_rfl⟩
theorem cu : uu Tryz.prog 26 [(.slice none 0 0), (.slice none 0 0), (.int .i64 (0)), (.int .i64 (0))] := ⟨⟨_, Tryz.underlying26, trivial⟩, by kernel_rfl⟩
theorem ma : uu Tryz.prog 49 [(.int .i64 (0)), (.int .i64 (0)), (.slice none 0 0), (.int .i64 (0))] := ⟨⟨_, Tryz.underlying49, trivial⟩, by kernel_rfl⟩
theorem bS : uu Tryz.prog 51 [(.int .i64 (0)), (.int .i64 (0))] := ⟨⟨_, Tryz.underlying51, trivial⟩, by kernel_rfl⟩
theorem uZ : uu Tryz.prog 57 [(.int .i64 (0)), (.int .i64 (0)), (.slice none 0 0)] := ⟨⟨_, Tryz.underlying57, trivial⟩, by kernel_rfl⟩
theorem pq : uu Tryz.prog 93 [(.int .i64 (0)), (.int .i64 (0)), (.int .i64 (0)), (.int .i64 (0)), (.slice none 0 0)] := ⟨⟨_, Tryz.underlying93, trivial⟩, by kernel_rfl⟩
theorem CZ : MapOf Tryz.prog 125 (.bool (false)) := ⟨_, _, Tryz.underlying125, Tryz.underlying3, by kernel_rfl⟩
theorem kz : MapOf Tryz.prog 131 (bu []) := ⟨_, _, Tryz.underlying131, Tryz.underlying3, by kernel_rfl⟩
theorem Oz : MapOf Tryz.prog 89 (.int .i64 (0)) := ⟨_, _, Tryz.underlying89, Tryz.underlying3, by kernel_rfl⟩
theorem oD : One Tryz.prog 111 (.slice none 0 0) := ⟨⟨_, Tryz.underlying111, trivial⟩, by kernel_rfl, rfl⟩
theorem DY : One Tryz.prog 125 (.map none) := ⟨⟨_, Tryz.underlying125, trivial⟩, by kernel_rfl, rfl⟩
theorem wD : One Tryz.prog 145 (.slice none 0 0) := ⟨⟨_, Tryz.underlying145, trivial⟩, by kernel_rfl, rfl⟩
theorem mf : One Tryz.prog 153 (.slice none 0 0) := ⟨⟨_, Tryz.underlying153, trivial⟩, by kernel_rfl, rfl⟩
theorem ze : One Tryz.prog 159 .nilFunc := ⟨⟨_, Tryz.underlying159, trivial⟩, by kernel_rfl, rfl⟩
theorem J4 : One Tryz.prog 165 .nilFunc := ⟨⟨_, Tryz.underlying165, trivial⟩, by kernel_rfl, rfl⟩
theorem Gg : One Tryz.prog 166 .nilFunc := ⟨⟨_, Tryz.underlying166, trivial⟩, by kernel_rfl, rfl⟩
theorem ji : One Tryz.prog 23 (.slice none 0 0) := ⟨⟨_, Tryz.underlying23, trivial⟩, by kernel_rfl, rfl⟩
theorem pz : One Tryz.prog 24 (.slice none 0 0) := ⟨⟨_, Tryz.underlying24, trivial⟩, by kernel_rfl, rfl⟩
theorem uC : One Tryz.prog 27 (.slice none 0 0) := ⟨⟨_, Tryz.underlying27, trivial⟩, by kernel_rfl, rfl⟩
theorem bz : One Tryz.prog 3 (.int .i64 (0)) := ⟨⟨_, Tryz.underlying3, trivial⟩, by kernel_rfl, rfl⟩
theorem wT : One Tryz.prog 4 (.bool (false)) := ⟨⟨_, Tryz.underlying4, trivial⟩, by kernel_rfl, rfl⟩
theorem pE : One Tryz.prog 47 (.slice none 0 0) := ⟨⟨_, Tryz.underlying47, trivial⟩, by kernel_rfl, rfl⟩
theorem zC : One Tryz.prog 55 (.slice none 0 0) := ⟨⟨_, Tryz.underlying55, trivial⟩, by kernel_rfl, rfl⟩
theorem xY : One Tryz.prog 67 (.slice none 0 0) := ⟨⟨_, Tryz.underlying67, trivial⟩, by kernel_rfl, rfl⟩
theorem OA : One Tryz.prog 89 (.map none) := ⟨⟨_, Tryz.underlying89, trivial⟩, by kernel_rfl, rfl⟩
theorem xZ : One Tryz.prog 9 (bu []) := ⟨⟨_, Tryz.underlying9, trivial⟩, by kernel_rfl, rfl⟩
theorem U8 : Q5 Tryz.prog 51 := ⟨⟨_, _, Tryz.underlying51, by decide, by decide, rfl, rfl, Tryz.underlying3, Tryz.underlying3, by kernel_rfl, by kernel_rfl⟩, by kernel_rfl, by kernel_rfl⟩
theorem kC : SliceOf Tryz.prog 111 147 6 := ⟨Tryz.underlying111, by kernel_rfl⟩
theorem jP : SliceOf Tryz.prog 145 160 2 := ⟨Tryz.underlying145, by kernel_rfl⟩
theorem dZ : SliceOf Tryz.prog 153 9 1 := ⟨Tryz.underlying153, by kernel_rfl⟩
theorem Gh : SliceOf Tryz.prog 204 111 1 := ⟨Tryz.underlying204, by kernel_rfl⟩
theorem jv : SliceOf Tryz.prog 22 57 3 := ⟨Tryz.underlying22, by kernel_rfl⟩
theorem dQ : SliceOf Tryz.prog 23 49 4 := ⟨Tryz.underlying23, by kernel_rfl⟩
theorem gK : SliceOf Tryz.prog 24 47 1 := ⟨Tryz.underlying24, by kernel_rfl⟩
theorem bW : SliceOf Tryz.prog 27 3 1 := ⟨Tryz.underlying27, by kernel_rfl⟩
theorem bX : SliceOf Tryz.prog 47 51 2 := ⟨Tryz.underlying47, by kernel_rfl⟩
theorem jg : SliceOf Tryz.prog 55 93 5 := ⟨Tryz.underlying55, by kernel_rfl⟩
theorem iy : SliceOf Tryz.prog 67 113 3 := ⟨Tryz.underlying67, by kernel_rfl⟩
theorem Pk : Struct Tryz.prog 101 [(.bool (false)), (.int .i64 (0)), (.bool (false))] [(0, 1), (1, 1), (2, 1)] := ⟨by kernel_rfl, _, Tryz.underlying101, by kernel_rfl⟩
theorem Pm : Struct Tryz.prog 113 [(.int .i64 (0)), (.int .i64 (0)), (.slice none 0 0)] [(0, 1), (1, 1), (2, 1)] := ⟨by kernel_rfl, _, Tryz.underlying113, by kernel_rfl⟩
theorem Pn : Struct Tryz.prog 147 [(.int .i64 (0)), (.int .i64 (0)), (.slice none 0 0), (.slice none 0 0), (.slice none 0 0), (.slice none 0 0)] [(0, 1), (1, 1), (2, 1), (3, 1), (4, 1), (5, 1)] := ⟨by kernel_rfl, _, Tryz.underlying147, by kernel_rfl⟩
theorem yc : Struct Tryz.prog 160 [(.int .i64 (0)), (.int .i64 (0))] [(0, 1), (1, 1)] := ⟨by kernel_rfl, _, Tryz.underlying160, by kernel_rfl⟩
theorem pF : Struct Tryz.prog 26 [(.slice none 0 0), (.slice none 0 0), (.int .i64 (0)), (.int .i64 (0))] [(0, 1), (1, 1), (2, 1), (3, 1)] := ⟨by kernel_rfl, _, Tryz.underlying26, by kernel_rfl⟩
theorem Gi : Struct Tryz.prog 49 [(.int .i64 (0)), (.int .i64 (0)), (.slice none 0 0), (.int .i64 (0))] [(0, 1), (1, 1), (2, 1), (3, 1)] := ⟨by kernel_rfl, _, Tryz.underlying49, by kernel_rfl⟩
theorem uD : Struct Tryz.prog 51 [(.int .i64 (0)), (.int .i64 (0))] [(0, 1), (1, 1)] := ⟨by kernel_rfl, _, Tryz.underlying51, by kernel_rfl⟩
theorem RO : Struct Tryz.prog 57 [(.int .i64 (0)), (.int .i64 (0)), (.slice none 0 0)] [(0, 1), (1, 1), (2, 1)] := ⟨by kernel_rfl, _, Tryz.underlying57, by kernel_rfl⟩
theorem lZ : Struct Tryz.prog 93 [(.int .i64 (0)), (.int .i64 (0)), (.int .i64 (0)), (.int .i64 (0)), (.slice none 0 0)] [(0, 1), (1, 1), (2, 1), (3, 1), (4, 1)] := ⟨by kernel_rfl, _, Tryz.underlying93, by kernel_rfl⟩
theorem mixed : Tryz.prog.follows .mixedOrders = true := by kernel_rfl
theorem Fz (w0 : World) (M : BS) (hM : ∀ b, M b → b < w0.heap.size) (hT : uy Tryz.prog 4 w0) (a : Str) (b : Str) (r : List Str) (hs : JH a b = some r) :
    Calls Tryz.prog 101 #[bu a, bu b] w0 (fun e w' => Grow w0 w' ∧ ∃ u, e = .returned u ∧ fo nA w' M u r) :=
  UH Tryz.strings_Split hM hT hs
theorem pG (w0 : World) (M : BS) (hM : ∀ b, M b → b < w0.heap.size) (hT : uy Tryz.prog 4 w0) (a : Str) (r : Int × Bool) (hs : zY a = some r) :
    Calls Tryz.prog 102 #[bu a] w0 (fun e w' => Grow w0 w' ∧ ∃ u, e = .returned (.tuple #[.int .i64 r.1, u]) ∧ KS u r.2) :=
  WO Tryz.strconv_Atoi_ok Tryz.strconv_Atoi_syntax_var Tryz.strconv_Atoi_range_var hT hs
def bB (a : Int) (b : Int) (c : Int) : Bool :=
  (decide ((b : Int) ≤ a) && decide ((a : Int) ≤ c))
theorem gD (w0 : World) (M : BS) (hM : ∀ b, M b → b < w0.heap.size) (a : Int) (b : Int) (c : Int) (r : Bool) (hs : bB a b c = r) :
    Calls Tryz.prog 51 #[(.int .i64 (a)), (.int .i64 (b)), (.int .i64 (c))] w0 (fun e w' => Grow w0 w' ∧ e = .returned (.bool r)) := by
 refine aS (args := [(.int .i64 (a)), (.int .i64 (b)), (.int .i64 (c))]) Tryz.func51 rfl Tryz.ntmps51 (Nat.le_of_ble_eq_true rfl) ?_
 have h := SH.init hM
 refine ai (ag (ae (aj (v := (.bool (false))) rfl) (ah (aa (ai (ag (ae (au (v := (.int .i64 (b))) rfl) (ae (au (v := (.int .i64 (a))) rfl) (ae (CE rfl rfl) (ae (au (v := (.bool (decide ((b : Int) ≤ a)))) rfl) (aD rfl rfl (fun q => au (v := (.int .i64 (a))) rfl) (aD rfl rfl (fun q => au (v := (.int .i64 (c))) rfl) (aD rfl rfl (fun q => CE (dn q) (dn q)) (ae (fZ rfl rfl lV) (ae (aj (v := (.bool ((decide ((b : Int) ≤ a) && decide ((a : Int) ≤ c))))) rfl) (ah (aa (aK (cK (v := (.bool ((decide ((b : Int) ≤ a) && decide ((a : Int) ≤ c))))) Tryz.results51 rfl ?_)))))))))))))))))))
 obtain rfl := hs
 exact ⟨h.grown, rfl⟩
def nI (Po : Int → Option (Int × Bool)) (x40 : Int) : Option (Int × Bool) :=
  Po x40
def nJ (F0 : List bF → Int → Option (Int × Bool)) (b : Int) (xL : List bF) (x32 : Int) (Po : Int → Option (Int × Bool)) : Option (Int × Bool) :=
  bif decide ((0 : Int) < (xL.length : Int)) then gz (jA (b - 1)) ((F0 xL (b - 1)).bind fun yf => gz (jA (x32 + yf.1)) (bif ((!yf.2) || decide ((30 : Int) < (x32 + yf.1))) then some (0, false) else nI Po (x32 + yf.1))) else nI Po x32
def nK (Pp : Int → Option (Int × Bool)) (x32 : Int) : Option (Int × Bool) :=
  bif decide ((30 : Int) < x32) then some (0, false) else Pp x32
def nL (F0 : List bF → Int → Option (Int × Bool)) (b : Int) (a : List bF) (x8 : bF) (x5 : Int) (Pp : Int → Option (Int × Bool)) : Option (Int × Bool) :=
  gz (jA (x5 + 1)) (each (nJ F0 b) (nK Pp) [x8.a, x8.b] (x5 + 1))
def nM (x5 : Int) : Option (Int × Bool) :=
  some (x5, true)
def vH (F0 : List bF → Int → Option (Int × Bool)) (a : List bF) (b : Int) : Option (Int × Bool) :=
  bif decide ((b : Int) < 1) then some (0, false) else each (nL F0 b a) nM a 0
def l5 : Nat → List bF → Int → Option (Int × Bool)
  | 0 => fun _ _ => none
  | N + 1 => vH (l5 N)
theorem Bu : ∀ (N : Nat) (w0 : World) (M : BS) (hM : ∀ b, M b → b < w0.heap.size) (va : Value) (a : List bF) (ha : gp dY w0 BE M va a) (b : Int) (r : Int × Bool) (hs : l5 N a b = some r),
    Calls Tryz.prog 128 #[va, (.int .i64 (b))] w0 (fun e w' => Grow w0 w' ∧ e = .returned (.tuple #[.int .i64 r.1, .bool r.2])) := by
 intro N
 induction N with
 | zero => intro w0 M hM va a ha b r hs; cases hs
 | succ N ih =>
 intro w0 M hM va a ha b r hs
 replace hs : vH (l5 N) a b = some r := hs
 generalize l5 N = F0 at hs ih
 refine aS (args := [va, (.int .i64 (b))]) Tryz.func128 rfl Tryz.ntmps128 (Nat.le_of_ble_eq_true rfl) ?_
 have h := SH.init hM
 replace h := h.il 1 ha bR
 have u7 := ha.cO
 refine ai (ag (ae (aj (v := (.int .i64 (0))) rfl) (ae (aj (v := (.bool (false))) rfl) (ah (aa (ai (ai (ag (ae (au (v := (.int .i64 (b))) rfl) (ae (dN rfl rfl) (ah (aa (aI hs rfl (fun c1 hs => ?_) (fun c1 hs => ?_))))))))))))))
 refine ai (ag (ae (aj (v := (.int .i64 (0))) rfl) (ae (aj (v := (.bool (false))) rfl) (ah (aa (aK (aC (DJ (v1 := (.int .i64 (0))) (v2 := (.bool (false))) Tryz.results128 rfl rfl ?_))))))))
 obtain rfl := Option.some.inj hs
 exact ⟨h.grown, rfl⟩
 refine aG (aa (ai (ag (ae (aj (v := (.int .i64 (0))) rfl) (ah (aa (ai (ai (ag (ae (au (v := va) rfl) (ae (bY kC rfl (h.je 1 rfl)) (ae (au (v := (.int .i64 (0))) rfl) (ah (aa (aV (gT (σ := Nat × Int × Int) (inl [4, 5, 6, 8, 10, 11, 12, 17, 18, 19, 20, 21, 22, 23, 24, 25, 26, 27, 28, 29, 30, 31, 32, 33, 34, 35, 36, 37, 38, 39, 40, 41, 42, 43, 44, 45, 46, 47, 48, 49, 50, 51, 52, 53, 54, 55]) (fun ⟨k6, i7, x5⟩ => [(6, (.int .i64 (x5))), (17, (.int .i64 (i7)))]) (fun ⟨k6, i7, x5⟩ w => SH w0 M BE w (hset [(1, .sr dY va a)]) ∧ i7 = (k6 : Int) ∧ each (nL F0 b a) nM (a.drop k6) x5 = some r) (fun ⟨k6, i7, x5⟩ => a.length - k6) ⟨0, 0, 0⟩ ⟨rfl, rfl, trivial⟩ ?_ ?_))))))))))))))))
 exact ⟨h.cn _, rfl, hs⟩
 rintro ⟨k6, i7, x5⟩ w dz ⟨h, hik, hs⟩
 refine ai (ag ?_)
 refine ae (dN rfl rfl) (ah (aa ?_))
 refine ai (iJ rfl (fun e11 => ?_) (fun e11 => ?_))
 refine aG (aa ?_)
 obtain ⟨x8, e12a, e12b⟩ := gL (hik ▸ e11)
 rw [e12b, dO] at hs
 generalize Zd : each (nL F0 b a) nM (a.drop (k6 + 1)) = Pp at hs
 have e12r := gP ((h.je 1 rfl)).cO hik e11
 refine ai (aV (ai (ag ?_)))
 obtain ⟨b14, o15, cs16, h, r17, i13⟩ := h.Bt 1 2 rfl kC rfl (jl hik) (gN hik e12a)
 obtain ⟨Mk, u20, u22, u24, rfl, g19, g21, g23, g25⟩ := yU r17
 replace h := h.cZ 3 g19.up
 replace h := h.cZ 4 g21.up.up
 replace h := h.cZ 5 g23.up.up.up
 replace h := h.cZ 6 g25.up.up.up.up
 refine ae (i13 _ _ _ _ _ _ _ _ _ rfl rfl) (ae (jW (k := 0) (vs := [(.int .i64 (x8.kind)), (.int .i64 (x8.n)), Mk, u20, u22, u24]) h 2 rfl nH rfl rfl rfl (Nat.le_of_ble_eq_true rfl)) (bT h 7 nH fun w Xq h => dm (vs := [(.int .i64 (x8.kind)), (.int .i64 (x8.n)), Mk, u20, u22, u24]) h 7 [(.int .i64 (x8.kind)), (.int .i64 (x8.n)), Mk, u20, u22, u24] rfl nH rfl rfl rfl rfl rfl (ax rfl (ax rfl (ax (h.gB 3 rfl).one (ax (h.gB 4 rfl).one (ax (h.gB 5 rfl).one (ax (h.gB 6 rfl).one aZ)))))) fun w h => ah (aa (ai (ag (ae (au (v := (.int .i64 (x5))) rfl) ?_))))))
 obtain ⟨a27, hs⟩ := bG hs
 refine ae (dw rfl rfl a27) (ae (aj (v := (.int .i64 ((x5 + 1)))) rfl) (ah (aa (ai (ai (ag (ae (ak xW rfl) (ae (aF h 7 rfl oD rfl rfl) (ae (ak xX rfl) (ae (aF h 7 rfl oD rfl rfl) (uw (R := (uY dY)) (vs := [u22, u24]) (xs := [x8.a, x8.b]) h 8 Ph rfl rfl rfl ⟨(h.gB 5 rfl).rdc, ⟨(h.gB 6 rfl).rdc, trivial⟩⟩ rfl fun w u28 h => ae (bY Gh rfl (h.dM 8 rfl)) (ae (au (v := (.int .i64 (0))) rfl) (ah (aa (aV ?_)))))))))))))))
 replace h := h.freeze 8 rfl
 refine gT (σ := Nat × Int × Int) (inl [4, 5, 6, 10, 11, 12, 29, 30, 31, 32, 33, 34, 35, 36, 37, 38, 39, 40, 41, 42, 43, 44, 45, 46, 47, 48, 49, 50, 51, 52]) (fun ⟨Us, i34, x32⟩ => [(6, (.int .i64 (x32))), (29, (.int .i64 (i34)))]) (fun ⟨Us, i34, x32⟩ w => SH w0 M BE w (hset [(1, .sr dY va a), (8, .rd (uY dY) u28 [x8.a, x8.b])]) ∧ i34 = (Us : Int) ∧ each (nJ F0 b) (nK Pp) ([x8.a, x8.b].drop Us) x32 = some r) (fun ⟨Us, i34, x32⟩ => [x8.a, x8.b].length - Us) ⟨0, 0, (x5 + 1)⟩ ⟨rfl, rfl, trivial⟩ ?_ ?_
 exact ⟨h.cn _, rfl, hs⟩
 rintro ⟨Us, i34, x32⟩ w dz ⟨h, hik, hs⟩
 refine ai (ag ?_)
 refine ae (dN rfl rfl) (ah (aa ?_))
 refine ai (iJ rfl (fun e38 => ?_) (fun e38 => ?_))
 refine aG (aa ?_)
 obtain ⟨xL, e39a, e39b⟩ := gL (hik ▸ e38)
 rw [e39b, dO] at hs
 generalize Ze : each (nJ F0 b) (nK Pp) ([x8.a, x8.b].drop (Us + 1)) = Po at hs
 have e39r := gP ((h.oZ 8 rfl)).cO hik e38
 refine bV (σ := Int) (inl [4, 5, 6, 10, 11, 12, 31, 32, 33, 34, 35, 36, 37, 38, 39, 40, 41, 42, 43, 44, 45, 46, 47, 48, 49, 50, 51]) (fun x40 => [(6, (.int .i64 (x40)))]) (fun x40 w => SH w0 M BE w (hset [(1, .sr dY va a), (8, .rd (uY dY) u28 [x8.a, x8.b])]) ∧ nI Po x40 = some r) ?_ ?_
 rintro x40 w dz ⟨h, hs⟩
 refine ag (ae (dw rfl rfl e39r) (ae (au (v := (.int .i64 ((i34 + 1)))) rfl) (ah (az ?_))))
 subst Ze
 exact jV ⟨Us + 1, i34 + 1, x40⟩ ⟨h.cn _, by omega, hs⟩ (by have := of_decide_eq_true e38; dsimp only; omega)
 refine aV (ai (ag ?_))
 obtain ⟨b42, o43, cs44, h, r45, i41⟩ := h.DI 8 9 rfl Gh rfl (jl hik) (gN hik e39a)
 obtain ⟨u46, rfl, g47⟩ := r45
 replace h := h.cZ 10 g47.up
 refine ae (i41 _ _ _ _ _ _ _ _ _ rfl rfl) (ae (eF (k := 0) h 9 rfl oD rfl rfl) (ae (aj (v := u46) rfl) (ah (aa (ai (ag (ae (au (v := u46) rfl) (ae (bY kC rfl (h.oZ 10 rfl)) (ae (jH rfl rfl) (ah (aa (aI hs rfl (fun c48 hs => ?_) (fun c48 hs => ?_)))))))))))))
 refine ai (ag (ae (au (v := u46) rfl) (ae (au (v := (.int .i64 (b))) rfl) ?_)))
 obtain ⟨a49, hs⟩ := bG hs
 refine ae (oh rfl rfl a49) ?_
 obtain ⟨yf, e51, hs⟩ := aQ hs
 refine bA Ow rfl rfl (ih _ _ h.lt u46 xL (h.oZ 10 rfl) (b - 1) _ e51) ?_
 rintro _ w ⟨k52, rfl⟩
 refine ⟨_, rfl, ?_⟩
 replace h := h.grow k52
 refine ae (au (v := (.tuple #[(.int .i64 (yf.1)), (.bool (yf.2))])) rfl) (ae (bC rfl rfl) (ae (bC rfl rfl) (ae (aj (v := (.int .i64 (yf.1))) rfl) (ae (aj (v := (.bool (yf.2))) rfl) (ah (aa (ai (ag (ae (au (v := (.int .i64 (x32))) rfl) (ae (au (v := (.int .i64 (yf.1))) rfl) ?_))))))))))
 obtain ⟨a53, hs⟩ := bG hs
 refine ae (dw rfl rfl a53) (ae (aj (v := (.int .i64 ((x32 + yf.1)))) rfl) (ah (aa (ai (ag (ae (au (v := (.bool (yf.2))) rfl) (ae (iq rfl) (ae (au (v := (.bool ((!yf.2)))) rfl) (aD rfl rfl (fun q => au (v := (.int .i64 ((x32 + yf.1)))) rfl) (aD rfl rfl (fun q => jH (dn q) rfl) (ae (gu rfl rfl lV) (ah (aa (aI hs rfl (fun c54 hs => ?_) (fun c54 hs => ?_)))))))))))))))
 refine ai (ag (ae (aj (v := (.int .i64 (0))) rfl) (ae (aj (v := (.bool (false))) rfl) (ah (aa (aK (aH (aC (aC (aH (aC (aH (aC (aC (aH (aC (DJ (v1 := (.int .i64 (0))) (v2 := (.bool (false))) Tryz.results128 rfl rfl ?_)))))))))))))))))
 obtain rfl := Option.some.inj hs
 exact ⟨h.grown, rfl⟩
 refine aG (aA (az ?_))
 exact bQ (x32 + yf.1) ⟨h.cn _, hs⟩
 refine aG (aA (az ?_))
 exact bQ x32 ⟨h.cn _, hs⟩
 rw [gM (hik ▸ e38), gU] at hs
 refine df (aN (aN (bE (aa (ai (ag (ae (au (v := (.int .i64 (x32))) rfl) (ae (jH rfl rfl) (ah (aa (aI hs rfl (fun c55 hs => ?_) (fun c55 hs => ?_))))))))))))
 refine ai (ag (ae (aj (v := (.int .i64 (0))) rfl) (ae (aj (v := (.bool (false))) rfl) (ah (aa (aK (aH (aC (aC (aH (aC (DJ (v1 := (.int .i64 (0))) (v2 := (.bool (false))) Tryz.results128 rfl rfl ?_))))))))))))
 obtain rfl := Option.some.inj hs
 exact ⟨h.grown, rfl⟩
 refine aG (aA (aa (ag (ae (dw rfl rfl e12r) (ae (au (v := (.int .i64 ((i7 + 1)))) rfl) (ah (az ?_)))))))
 subst Zd
 exact jV ⟨k6 + 1, i7 + 1, x32⟩ ⟨h.cn _, by omega, hs⟩ (by have := of_decide_eq_true e11; dsimp only; omega)
 rw [gM (hik ▸ e11), gU] at hs
 refine df (aN (aN (bE (aa (ai (ag (ae (au (v := (.int .i64 (x5))) rfl) (ae (aj (v := (.int .i64 (x5))) rfl) (ae (aj (v := (.bool (true))) rfl) (ah (aa (aK (DJ (v1 := (.int .i64 (x5))) (v2 := (.bool (true))) Tryz.results128 rfl rfl ?_)))))))))))))
 obtain rfl := Option.some.inj hs
 exact ⟨h.grown, rfl⟩
theorem jw (w0 : World) (M : BS) (hM : ∀ b, M b → b < w0.heap.size) (a : Str) (b : UInt8) (r : Bool) (hs : hasB a b = r) :
    Calls Tryz.prog 145 #[(bu a), (bu [b])] w0 (fun e w' => Grow w0 w' ∧ e = .returned (.bool r)) := by
  refine (Tryz.strings_Contains_one ⟨a.toArray⟩ b w0).mono ?_
  rintro e w' ⟨rfl, rfl⟩
  subst hs
  exact ⟨aP.refl _ _, by simp [hasB]⟩
def aY (a : Int) (b : Int) : Bool :=
  (decide ((0 : Int) ≤ a) && decide ((a : Int) < b))
theorem qI (w0 : World) (M : BS) (hM : ∀ b, M b → b < w0.heap.size) (a : Int) (b : Int) (r : Bool) (hs : aY a b = r) :
    Calls Tryz.prog 55 #[(.int .i64 (a)), (.int .i64 (b))] w0 (fun e w' => Grow w0 w' ∧ e = .returned (.bool r)) := by
 refine aS (args := [(.int .i64 (a)), (.int .i64 (b))]) Tryz.func55 rfl Tryz.ntmps55 (Nat.le_of_ble_eq_true rfl) ?_
 have h := SH.init hM
 refine ai (ag (ae (aj (v := (.bool (false))) rfl) (ah (aa (ai (ag (ae (au (v := (.int .i64 (a))) rfl) (ae (oK rfl rfl) (ae (au (v := (.bool (decide ((0 : Int) ≤ a)))) rfl) (aD rfl rfl (fun q => au (v := (.int .i64 (a))) rfl) (aD rfl rfl (fun q => au (v := (.int .i64 (b))) rfl) (aD rfl rfl (fun q => dN (dn q) (dn q)) (ae (fZ rfl rfl lV) (ae (aj (v := (.bool ((decide ((0 : Int) ≤ a) && decide ((a : Int) < b))))) rfl) (ah (aa (aK (cK (v := (.bool ((decide ((0 : Int) ≤ a) && decide ((a : Int) < b))))) Tryz.results55 rfl ?_))))))))))))))))))
 obtain rfl := hs
 exact ⟨h.grown, rfl⟩
def eP (a : Int) : Bool :=
  (bB a (-1000000000) 1000000000)
theorem BN (w0 : World) (M : BS) (hM : ∀ b, M b → b < w0.heap.size) (a : Int) (r : Bool) (hs : eP a = r) :
    Calls Tryz.prog 53 #[(.int .i64 (a))] w0 (fun e w' => Grow w0 w' ∧ e = .returned (.bool r)) := by
 refine aS (args := [(.int .i64 (a))]) Tryz.func53 rfl Tryz.ntmps53 (Nat.le_of_ble_eq_true rfl) ?_
 have h := SH.init hM
 refine ai (ag (ae (aj (v := (.bool (false))) rfl) (ah (aa (ai (ag (ae (au (v := (.int .i64 (a))) rfl) (bA xx rfl rfl (gD _ _ h.lt a (-1000000000) 1000000000 _ rfl) ?_))))))))
 rintro _ w ⟨k1, rfl⟩
 refine ⟨_, rfl, ?_⟩
 replace h := h.grow k1
 refine ae (aj (v := (.bool ((bB a (-1000000000) 1000000000)))) rfl) (ah (aa (aK (cK (v := (.bool ((bB a (-1000000000) 1000000000)))) Tryz.results53 rfl ?_))))
 obtain rfl := hs
 exact ⟨h.grown, rfl⟩
def fH (x2 : Bool) : Int :=
  bif (!x2) then 3 else 0
def dW (a : Tok) (b : List eO) (c : Int) : Int :=
  bif decide ((a.kind : Int) = 1) then fH (eP a.n) else bif decide ((a.kind : Int) = 2) then fH (aY a.n c) else bif decide ((a.kind : Int) = 3) then fH (bB a.n 1 5) else bif decide ((a.kind : Int) = 4) then fH (bB a.n 0 3) else bif decide ((a.kind : Int) = 5) then fH (bB a.n 1 4) else bif decide ((a.kind : Int) = 6) then bif (!(aY a.n (b.length : Int))) then 5 else fH true else 4
theorem sF (w0 : World) (M : BS) (hM : ∀ b, M b → b < w0.heap.size) (a : Tok) (vb : Value) (b : List eO) (hb : gp iH w0 BE M vb b) (c : Int) (r : Int) (hs : dW a b c = r) :
    Calls Tryz.prog 107 #[(.agg #[(.int .i64 (a.kind)), (.int .i64 (a.n))]), vb, (.int .i64 (c))] w0 (fun e w' => Grow w0 w' ∧ e = .returned (.int .i64 r)) := by
 refine aS (args := [(.agg #[(.int .i64 (a.kind)), (.int .i64 (a.n))]), vb, (.int .i64 (c))]) Tryz.func107 rfl Tryz.ntmps107 (Nat.le_of_ble_eq_true rfl) ?_
 have h := SH.init hM
 replace h := h.il 1 hb bR
 have MO := hb.cO
 refine ai (ag (rF (cs := [(.int .i64 (a.kind)), (.int .i64 (a.n))]) h 2 rfl rfl fun w b1 h => ae (aj (v := (.int .i64 (0))) rfl) (ah (aa (ai (ag (ae (aj (v := (.bool (false))) rfl) (ah (aa (bV (σ := Bool) (inl [6, 7, 8, 9, 10, 11, 12, 13, 14, 15, 16, 17, 18, 19, 20, 21, 22, 23, 24, 25, 26, 27, 28, 29, 30, 31, 32, 33, 34, 35, 36, 37, 38, 39, 40, 41, 42, 43]) (fun x2 => [(7, (.bool (x2)))]) (fun x2 w => SH w0 M BE w (hset []) ∧ fH x2 = r) ?_ ?_))))))))))
 rintro x2 w dz ⟨h, hs⟩
 refine ai (ai (ag (ae (au (v := (.bool (x2))) rfl) (ae (iq rfl) (ah (aa (aI hs rfl (fun c3 hs => ?_) (fun c3 hs => ?_))))))))
 refine ai (ag (ae (aj (v := (.int .i64 (3))) rfl) (ah (aa (aK (aC (cK (v := (.int .i64 (3))) Tryz.results107 rfl ?_)))))))
 obtain rfl := hs
 exact ⟨h.grown, rfl⟩
 refine aG (aa (ai (ag (ae (aj (v := (.int .i64 (0))) rfl) (ah (aa (aK (cK (v := (.int .i64 (0))) Tryz.results107 rfl ?_))))))))
 obtain rfl := hs
 exact ⟨h.grown, rfl⟩
 refine ai (ag (ae (ak CV rfl) (ae (aF h 2 rfl bz rfl rfl) (ah (aa (aV (ai (ag (ae (bI rfl rfl) (ae (aj (v := (.bool (decide ((a.kind : Int) = 1)))) rfl) (ah (aa (aI hs rfl (fun c4 hs => ?_) (fun c4 hs => ?_))))))))))))))
 refine ag (ae (ak mH rfl) (ae (aF h 2 rfl bz rfl rfl) (bA Xk rfl rfl (BN _ _ h.lt a.n _ rfl) ?_)))
 rintro _ w ⟨k5, rfl⟩
 refine ⟨_, rfl, ?_⟩
 replace h := h.grow k5
 refine ae (aj (v := (.bool ((eP a.n)))) rfl) (ah (aA (az ?_)))
 exact bQ (eP a.n) ⟨h.cn _, hs⟩
 refine ai (ag (ae (bI rfl rfl) (ae (aj (v := (.bool (decide ((a.kind : Int) = 2)))) rfl) (ah (aa (aI hs rfl (fun c6 hs => ?_) (fun c6 hs => ?_)))))))
 refine ag (ae (ak mH rfl) (ae (aF h 2 rfl bz rfl rfl) (ae (au (v := (.int .i64 (c))) rfl) (bA MK rfl rfl (qI _ _ h.lt a.n c _ rfl) ?_))))
 rintro _ w ⟨k7, rfl⟩
 refine ⟨_, rfl, ?_⟩
 replace h := h.grow k7
 refine ae (aj (v := (.bool ((aY a.n c)))) rfl) (ah (aA (az ?_)))
 exact bQ (aY a.n c) ⟨h.cn _, hs⟩
 refine ai (ag (ae (bI rfl rfl) (ae (aj (v := (.bool (decide ((a.kind : Int) = 3)))) rfl) (ah (aa (aI hs rfl (fun c8 hs => ?_) (fun c8 hs => ?_)))))))
 refine ag (ae (ak mH rfl) (ae (aF h 2 rfl bz rfl rfl) (bA xx rfl rfl (gD _ _ h.lt a.n 1 5 _ rfl) ?_)))
 rintro _ w ⟨k9, rfl⟩
 refine ⟨_, rfl, ?_⟩
 replace h := h.grow k9
 refine ae (aj (v := (.bool ((bB a.n 1 5)))) rfl) (ah (aA (az ?_)))
 exact bQ (bB a.n 1 5) ⟨h.cn _, hs⟩
 refine ai (ag (ae (bI rfl rfl) (ae (aj (v := (.bool (decide ((a.kind : Int) = 4)))) rfl) (ah (aa (aI hs rfl (fun c10 hs => ?_) (fun c10 hs => ?_)))))))
 refine ag (ae (ak mH rfl) (ae (aF h 2 rfl bz rfl rfl) (bA xx rfl rfl (gD _ _ h.lt a.n 0 3 _ rfl) ?_)))
 rintro _ w ⟨k11, rfl⟩
 refine ⟨_, rfl, ?_⟩
 replace h := h.grow k11
 refine ae (aj (v := (.bool ((bB a.n 0 3)))) rfl) (ah (aA (az ?_)))
 exact bQ (bB a.n 0 3) ⟨h.cn _, hs⟩
 refine ai (ag (ae (bI rfl rfl) (ae (aj (v := (.bool (decide ((a.kind : Int) = 5)))) rfl) (ah (aa (aI hs rfl (fun c12 hs => ?_) (fun c12 hs => ?_)))))))
 refine ag (ae (ak mH rfl) (ae (aF h 2 rfl bz rfl rfl) (bA xx rfl rfl (gD _ _ h.lt a.n 1 4 _ rfl) ?_)))
 rintro _ w ⟨k13, rfl⟩
 refine ⟨_, rfl, ?_⟩
 replace h := h.grow k13
 refine ae (aj (v := (.bool ((bB a.n 1 4)))) rfl) (ah (aA (az ?_)))
 exact bQ (bB a.n 1 4) ⟨h.cn _, hs⟩
 refine ai (ag (ae (bI rfl rfl) (ae (aj (v := (.bool (decide ((a.kind : Int) = 6)))) rfl) (ah (aa (aI hs rfl (fun c14 hs => ?_) (fun c14 hs => ?_)))))))
 refine ai (ai (ag (ae (ak mH rfl) (ae (aF h 2 rfl bz rfl rfl) (ae (au (v := vb) rfl) (ae (bY iy rfl (h.je 1 rfl)) (bA MK rfl rfl (qI _ _ h.lt a.n (b.length : Int) _ rfl) ?_)))))))
 rintro _ w ⟨k15, rfl⟩
 refine ⟨_, rfl, ?_⟩
 replace h := h.grow k15
 refine ae (iq rfl) (ah (aa (aI hs rfl (fun c16 hs => ?_) (fun c16 hs => ?_))))
 refine ai (ag (ae (aj (v := (.int .i64 (5))) rfl) (ah (aa (aK (aC (aH (aC (cK (v := (.int .i64 (5))) Tryz.results107 rfl ?_)))))))))
 obtain rfl := hs
 exact ⟨h.grown, rfl⟩
 refine aG (aa (ag (ae (aj (v := (.bool (true))) rfl) (ah (aA (az ?_))))))
 exact bQ true ⟨h.cn _, hs⟩
 refine ai (ag (ae (aj (v := (.int .i64 (4))) rfl) (ah (aa (aK (aH (aC (cK (v := (.int .i64 (4))) Tryz.results107 rfl ?_))))))))
 obtain rfl := hs
 exact ⟨h.grown, rfl⟩
def qw (a : Tok) (b : List eO) : Option Int :=
  bif decide ((a.kind : Int) = 3) then some 2 else bif decide ((a.kind : Int) = 4) then some 1 else bif decide ((a.kind : Int) = 6) then (idx b a.n).bind fun x5 => some x5.params else some 0
theorem rz (w0 : World) (M : BS) (hM : ∀ b, M b → b < w0.heap.size) (a : Tok) (vb : Value) (b : List eO) (hb : gp iH w0 BE M vb b) (r : Int) (hs : qw a b = some r) :
    Calls Tryz.prog 108 #[(.agg #[(.int .i64 (a.kind)), (.int .i64 (a.n))]), vb] w0 (fun e w' => Grow w0 w' ∧ e = .returned (.int .i64 r)) := by
 refine aS (args := [(.agg #[(.int .i64 (a.kind)), (.int .i64 (a.n))]), vb]) Tryz.func108 rfl Tryz.ntmps108 (Nat.le_of_ble_eq_true rfl) ?_
 have h := SH.init hM
 replace h := h.il 1 hb bR
 have MO := hb.cO
 refine ai (ag (rF (cs := [(.int .i64 (a.kind)), (.int .i64 (a.n))]) h 2 rfl rfl fun w b1 h => ae (aj (v := (.int .i64 (0))) rfl) (ah (aa (ai (ai (ag (ae (ak CV rfl) (ae (aF h 2 rfl bz rfl rfl) (ah (aa (aV (ai (ag (ae (bI rfl rfl) (ae (aj (v := (.bool (decide ((a.kind : Int) = 3)))) rfl) (ah (aa (aI hs rfl (fun c2 hs => ?_) (fun c2 hs => ?_))))))))))))))))))))
 refine ai (ag (ae (aj (v := (.int .i64 (2))) rfl) (ah (aa (aK (aH (aC (cK (v := (.int .i64 (2))) Tryz.results108 rfl ?_))))))))
 obtain rfl := Option.some.inj hs
 exact ⟨h.grown, rfl⟩
 refine ai (ag (ae (bI rfl rfl) (ae (aj (v := (.bool (decide ((a.kind : Int) = 4)))) rfl) (ah (aa (aI hs rfl (fun c3 hs => ?_) (fun c3 hs => ?_)))))))
 refine ai (ag (ae (aj (v := (.int .i64 (1))) rfl) (ah (aa (aK (aH (aC (cK (v := (.int .i64 (1))) Tryz.results108 rfl ?_))))))))
 obtain rfl := Option.some.inj hs
 exact ⟨h.grown, rfl⟩
 refine ai (ag (ae (bI rfl rfl) (ae (aj (v := (.bool (decide ((a.kind : Int) = 6)))) rfl) (ah (aa (aI hs rfl (fun c4 hs => ?_) (fun c4 hs => ?_)))))))
 refine ai (ag (ae (au (v := vb) rfl) (ae (ak mH rfl) (ae (aF h 2 rfl bz rfl rfl) ?_))))
 obtain ⟨x5, e6, hs⟩ := aQ hs
 obtain ⟨b8, o9, cs10, h, r11, i7⟩ := h.Bt 1 3 rfl iy rfl (aJ e6).1 (aJ e6).2
 obtain ⟨Ut, rfl, g13⟩ := rG r11
 replace h := h.cZ 4 g13.up
 refine ae (i7 _ _ _ _ _ _ _ _ _ rfl rfl) (ae (ak uA rfl) (ae (eF (k := 0) h 3 rfl bz rfl rfl) (ae (aj (v := (.int .i64 (x5.params))) rfl) (ah (aa (aK (aH (aC (cK (v := (.int .i64 (x5.params))) Tryz.results108 rfl ?_)))))))))
 obtain rfl := Option.some.inj hs
 exact ⟨h.grown, rfl⟩
 refine aG (aA (aa (ai (ag (ae (aj (v := (.int .i64 (0))) rfl) (ah (aa (aK (cK (v := (.int .i64 (0))) Tryz.results108 rfl ?_)))))))))
 obtain rfl := Option.some.inj hs
 exact ⟨h.grown, rfl⟩
def sG (a : List Int) (s : Int × Int) (RP : Int × Int → Option Int) : Option Int :=
  match s with | (DD, oQ) => bif decide ((oQ : Int) < (a.length : Int)) then (idx a oQ).bind fun x25 => gz (jA (oQ + 1)) (RP ((max DD x25), (oQ + 1))) else some DD
def slices_Max_int (N : Nat) (a : List Int) : Option Int :=
  bif decide (((a.length : Int) : Int) < 1) then none else (idx a 0).bind fun x2 => again (sG a) N (x2, 1)
theorem DZ (N : Nat) (w0 : World) (M : BS) (hM : ∀ b, M b → b < w0.heap.size) (va : Value) (a : List Int) (ha : gp fF w0 BE M va a) (r : Int) (hs : slices_Max_int N a = some r) :
    Calls Tryz.prog 164 #[va] w0 (fun e w' => Grow w0 w' ∧ e = .returned (.int .i64 r)) := by
 refine aS (args := [va]) Tryz.func164 rfl Tryz.ntmps164 (Nat.le_of_ble_eq_true rfl) ?_
 have h := SH.init hM
 replace h := h.il 1 ha bR
 have u7 := ha.cO
 refine ai (ag (ae (aj (v := (.int .i64 (0))) rfl) (ah (aa (ai (ai (ag (ae (au (v := va) rfl) (ae (bY bW rfl (h.je 1 rfl)) (ae (dN rfl rfl) (ah (aa (aI hs rfl (fun c1 hs => ?_) (fun c1 hs => ?_))))))))))))))
 cases hs
 refine aG (aa (ai (ag (ae (au (v := va) rfl) ?_))))
 obtain ⟨x2, e3, hs⟩ := aQ hs
 obtain ⟨b5, o6, cs7, h, r8, i4⟩ := h.Bt 1 2 rfl bW rfl (aJ e3).1 (aJ e3).2
 obtain rfl := r8
 refine ae (i4 _ _ _ _ _ _ _ _ _ rfl rfl) (ae (eF (k := 0) h 2 rfl bz rfl rfl) (ae (aj (v := (.int .i64 (x2))) rfl) (ah (aa (ai (ai (ag (ae (aj (v := (.int .i64 (1))) rfl) (ah (aa (aV (gT (σ := Nat × Int × Int) (inl [3, 4, 12, 13, 14, 15, 16, 17, 18, 19, 20, 21, 22, 23]) (fun ⟨m20, DD, oQ⟩ => [(3, (.int .i64 (DD))), (4, (.int .i64 (oQ)))]) (fun ⟨m20, DD, oQ⟩ w => SH w0 M BE w (hset [(1, .sr fF va a)]) ∧ again (sG a) m20 (DD, oQ) = some r) (fun ⟨m20, DD, oQ⟩ => m20) ⟨N, x2, 1⟩ ⟨rfl, rfl, trivial⟩ ?_ ?_))))))))))))
 exact ⟨h.cn _, hs⟩
 rintro ⟨m20, DD, oQ⟩ w dz ⟨h, hs⟩
 obtain ⟨Zf, m20e, m20h⟩ := qm hs
 subst m20e
 replace hs := m20h
 generalize RQ : again (sG a) Zf = RP at hs
 refine ai (ai (ag (ae (au (v := (.int .i64 (oQ))) rfl) (ae (au (v := va) rfl) (ae (bY bW rfl (h.je 1 rfl)) (ae (dN rfl rfl) (ah (aa (aI hs rfl (fun c24 hs => ?_) (fun c24 hs => ?_))))))))))
 refine aG (aa (ai (aV (ag (ae (au (v := (.int .i64 (DD))) rfl) (ae (au (v := va) rfl) (ae (au (v := (.int .i64 (oQ))) rfl) ?_)))))))
 obtain ⟨x25, e26, hs⟩ := aQ hs
 obtain ⟨b28, o29, cs30, h, r31, i27⟩ := h.Bt 1 3 rfl bW rfl (aJ e26).1 (aJ e26).2
 obtain rfl := r31
 refine ae (i27 _ _ _ _ _ _ _ _ _ rfl rfl) (ae (eF (k := 0) h 3 rfl bz rfl rfl) (ae (Y2 rfl rfl) (ae (aj (v := (.int .i64 ((max DD x25)))) rfl) (ah (aA (aa (ag (ae (au (v := (.int .i64 (oQ))) rfl) ?_))))))))
 obtain ⟨a32, hs⟩ := bG hs
 refine ae (dw rfl rfl a32) (ae (aj (v := (.int .i64 ((oQ + 1)))) rfl) (ah (az ?_)))
 subst RQ
 exact jV ⟨Zf, (max DD x25), (oQ + 1)⟩ ⟨h.cn _, hs⟩
 refine df (aN (aN (bE (aa (ai (ag (ae (au (v := (.int .i64 (DD))) rfl) (ae (aj (v := (.int .i64 (DD))) rfl) (ah (aa (aK (cK (v := (.int .i64 (DD))) Tryz.results164 rfl ?_))))))))))))
 obtain rfl := Option.some.inj hs
 exact ⟨h.grown, rfl⟩
def kD (x29 : Tok) (b : List eO) (C8 : List Int → Option Int) (x66 : List Int) : Option Int :=
  (qw x29 b).bind fun rq => gz (Room 8 x66 [rq]) (C8 (x66 ++ [rq]))
def kE (vI : List Int) (Pq : List Int → Option Int) (i28 : Int) (x29 : Tok) (b : List eO) (C8 : List Int → Option Int) (Yp : Bool) : Option Int :=
  bif Yp then gz (jA ((vI.length : Int) - 1)) ((sub? vI 0 ((vI.length : Int) - 1)).bind fun x60 => Pq (vI.take (((vI.length : Int) - 1)).toNat)) else bif (decide ((0 : Int) < i28) && decide (((vI.length : Int) : Int) = 0)) then some 4 else bif decide ((0 : Int) < i28) then gz (jA ((vI.length : Int) - 1)) ((idx vI ((vI.length : Int) - 1)).bind fun Zg => gz (jA (Zg - 1)) (kD x29 b C8 (vI.set (((vI.length : Int) - 1)).toNat (Zg - 1)))) else kD x29 b C8 vI
def kF (i28 : Int) (x29 : Tok) (b : List eO) (C8 : List Int → Option Int) (vI : List Int) (Pq : List Int → Option Int) : Option Int :=
  bif decide ((0 : Int) < (vI.length : Int)) then gz (jA ((vI.length : Int) - 1)) ((idx vI ((vI.length : Int) - 1)).bind fun x89 => kE vI Pq i28 x29 b C8 (decide ((x89 : Int) = 0))) else kE vI Pq i28 x29 b C8 false
def kG (D5 : Bool) : Option Int :=
  bif D5 then some 4 else some 0
def kH (N : Nat) (b : List eO) (c : Int) (i28 : Int) (x29 : Tok) (Ps : List Int) (C8 : List Int → Option Int) : Option Int :=
  bif decide (((dW x29 b c) : Int) ≠ 0) then some (dW x29 b c) else again (kF i28 x29 b C8) N Ps
def kI (N : Nat) (a : List Tok) (Ps : List Int) : Option Int :=
  bif decide (((a.length : Int) : Int) = 0) then kG true else gz (Room 8 [0] Ps) ((slices_Max_int N ([0] ++ Ps)).bind fun U9 => kG (decide ((0 : Int) < U9)))
def kJ (x4 : eO) (s : Unit) (J5 : Unit → Option Int) : Option Int :=
  bif (!(bB x4.params 0 3)) then some 3 else J5 ()
def kK (N : Nat) (b : List eO) (c : Int) (a : List Tok) (s : Unit) : Option Int :=
  fT (kH N b c) (kI N a) 0 a []
def oF (N : Nat) (a : List Tok) (b : List eO) (c : Int) : Option Int :=
  bif decide ((24 : Int) < (a.length : Int)) then some 2 else each kJ (kK N b c a) b ()
theorem rH (N : Nat) (w0 : World) (M : BS) (hM : ∀ b, M b → b < w0.heap.size) (va : Value) (a : List Tok) (ha : gp jY w0 BE M va a) (vb : Value) (b : List eO) (hb : gp iH w0 BE M vb b) (c : Int) (r : Int) (hs : oF N a b c = some r) :
    Calls Tryz.prog 146 #[va, vb, (.int .i64 (c))] w0 (fun e w' => Grow w0 w' ∧ e = .returned (.int .i64 r)) := by
 refine aS (args := [va, vb, (.int .i64 (c))]) Tryz.func146 rfl Tryz.ntmps146 (Nat.le_of_ble_eq_true rfl) ?_
 have h := SH.init hM
 replace h := h.il 1 ha bR
 replace h := h.il 2 hb (eT bR)
 have u7 := ha.cO
 have MO := hb.cO
 refine ai (ag (ae (aj (v := (.int .i64 (0))) rfl) (ah (aa (ai (ai (ag (ae (au (v := va) rfl) (ae (bY jP rfl (h.je 1 rfl)) (ae (jH rfl rfl) (ah (aa (aI hs rfl (fun c1 hs => ?_) (fun c1 hs => ?_))))))))))))))
 refine ai (ag (ae (aj (v := (.int .i64 (2))) rfl) (ah (aa (aK (aC (cK (v := (.int .i64 (2))) Tryz.results146 rfl ?_)))))))
 obtain rfl := Option.some.inj hs
 exact ⟨h.grown, rfl⟩
 refine aG (aa (ai (ai (ag (ae (au (v := vb) rfl) (ae (bY iy rfl (h.je 2 rfl)) (ae (au (v := (.int .i64 (0))) rfl) (ah (aa (aV (gT (σ := Nat × Int) (inl [6, 8, 18, 19, 20, 21, 22, 23, 24, 25, 26]) (fun ⟨k2, i3⟩ => [(18, (.int .i64 (i3)))]) (fun ⟨k2, i3⟩ w => SH w0 M BE w (hset [(1, .sr jY va a), (2, .sr iH vb b)]) ∧ i3 = (k2 : Int) ∧ each kJ (kK N b c a) (b.drop k2) () = some r) (fun ⟨k2, i3⟩ => b.length - k2) ⟨0, 0⟩ ⟨rfl, trivial⟩ ?_ ?_)))))))))))
 exact ⟨h.cn _, rfl, hs⟩
 rintro ⟨k2, i3⟩ w dz ⟨h, hik, hs⟩
 refine ai (ag ?_)
 refine ae (dN rfl rfl) (ah (aa ?_))
 refine ai (iJ rfl (fun e7 => ?_) (fun e7 => ?_))
 refine aG (aa ?_)
 obtain ⟨x4, Zh, Zi⟩ := gL (hik ▸ e7)
 rw [Zi, dO] at hs
 generalize MP : each kJ (kK N b c a) (b.drop (k2 + 1)) = J5 at hs
 have Xr := gP ((h.je 2 rfl)).cO hik e7
 refine ai (aV (ai (ag ?_)))
 obtain ⟨b10, o11, Zj, h, Zk, i9⟩ := h.Bt 2 3 rfl iy rfl (jl hik) (gN hik Zh)
 obtain ⟨Pt, rfl, g15⟩ := rG Zk
 replace h := h.cZ 4 g15.up
 refine ae (i9 _ _ _ _ _ _ _ _ _ rfl rfl) (ae (jW (k := 0) (vs := [(.int .i64 (x4.params)), (.int .i64 (x4.locals)), Pt]) h 3 rfl lF rfl rfl rfl (Nat.le_of_ble_eq_true rfl)) (bT h 5 lF fun w b16 h => dm (vs := [(.int .i64 (x4.params)), (.int .i64 (x4.locals)), Pt]) h 5 [(.int .i64 (x4.params)), (.int .i64 (x4.locals)), Pt] rfl lF rfl rfl rfl rfl rfl (ax rfl (ax rfl (ax (h.gB 4 rfl).one aZ))) fun w h => ah (aa (ai (ag (ae (ak uA rfl) (ae (aF h 5 rfl bz rfl rfl) (bA xx rfl rfl (gD _ _ h.lt x4.params 0 3 _ rfl) ?_))))))))
 rintro _ w ⟨k17, rfl⟩
 refine ⟨_, rfl, ?_⟩
 replace h := h.grow k17
 refine ae (iq rfl) (ah (aa (aI hs rfl (fun c18 hs => ?_) (fun c18 hs => ?_))))
 refine ai (ag (ae (aj (v := (.int .i64 (3))) rfl) (ah (aa (aK (aH (aC (aC (aH (aC (cK (v := (.int .i64 (3))) Tryz.results146 rfl ?_)))))))))))
 obtain rfl := Option.some.inj hs
 exact ⟨h.grown, rfl⟩
 refine aG (aA (aa (ag (ae (dw rfl rfl Xr) (ae (au (v := (.int .i64 ((i3 + 1)))) rfl) (ah (az ?_)))))))
 subst MP
 exact jV ⟨k2 + 1, i3 + 1⟩ ⟨h.cn _, by omega, hs⟩ (by have := of_decide_eq_true e7; dsimp only; omega)
 rw [gM (hik ▸ e7), gU] at hs
 refine df (aN (aN (bE (aa (ai (ag (ae (aj (v := (.slice none 0 0)) rfl) (ah (aa (ai (ai (ag (ae (au (v := va) rfl) (ae (bY jP rfl (h.je 1 rfl)) (ae (au (v := (.int .i64 (0))) rfl) (ah (aa (aV ?_))))))))))))))))))
 replace h := h.xO (R := fF) (E := 3) 9
 refine gT (σ := Nat × Int × Value × List Int) (inl [6, 9, 10, 11, 12, 29, 30, 31, 32, 33, 34, 35, 36, 37, 38, 39, 40, 41, 42, 43, 44, 45, 46, 47, 48, 49, 50, 51, 52, 53, 54, 55, 56, 57, 58, 59, 60, 61, 62, 63, 64, 65, 66, 67, 68, 69, 70, 71, 72, 73, 74, 75, 76, 77, 78, 79, 80, 81]) (fun ⟨k27, i28, v25, Ps⟩ => [(9, v25), (29, (.int .i64 (i28)))]) (fun ⟨k27, i28, v25, Ps⟩ w => SH w0 M BE w (hset [(1, .sr jY va a), (2, .sr iH vb b), (9, .own fF 3 v25 Ps)]) ∧ i28 = (k27 : Int) ∧ fT (kH N b c) (kI N a) i28 (a.drop k27) Ps = some r) (fun ⟨k27, i28, v25, Ps⟩ => a.length - k27) ⟨0, 0, (.slice none 0 0), []⟩ ⟨rfl, rfl, trivial⟩ ?_ ?_
 exact ⟨h.cn _, rfl, hs⟩
 rintro ⟨k27, i28, v25, Ps⟩ w dz ⟨h, hik, hs⟩
 refine ai (ag ?_)
 refine ae (dN rfl rfl) (ah (aa ?_))
 refine ai (iJ rfl (fun e32 => ?_) (fun e32 => ?_))
 refine aG (aa ?_)
 obtain ⟨x29, e33a, e33b⟩ := gL (hik ▸ e32)
 rw [e33b, jr] at hs
 generalize Zl : fT (kH N b c) (kI N a) (i28 + 1) (a.drop (k27 + 1)) = C8 at hs
 have e33r := gP ((h.je 1 rfl)).cO hik e32
 refine ai (aV (ai (ag (ae (au (v := (.int .i64 (i28))) rfl) ?_))))
 obtain ⟨b35, o36, cs37, h, r38, i34⟩ := h.Bt 1 10 rfl jP rfl (jl hik) (gN hik e33a)
 obtain rfl := r38
 refine ae (i34 _ _ _ _ _ _ _ _ _ rfl rfl) (ae (jW (k := 0) (vs := [(.int .i64 (x29.kind)), (.int .i64 (x29.n))]) h 10 rfl jJ rfl rfl rfl (Nat.le_of_ble_eq_true rfl)) (bT h 11 jJ fun w b39 h => ae (aj (v := (.int .i64 (i28))) rfl) (dm (vs := [(.int .i64 (x29.kind)), (.int .i64 (x29.n))]) h 11 [(.int .i64 (x29.kind)), (.int .i64 (x29.n))] rfl jJ rfl rfl rfl rfl rfl (ax rfl (ax rfl aZ)) fun w h => ah (aa (ai (ai (ag (ae (dS (vs := [(.int .i64 (x29.kind)), (.int .i64 (x29.n))]) h 11 rfl jJ rfl rfl rfl) (ae (au (v := vb) rfl) (ae (au (v := (.int .i64 (c))) rfl) (bA Ot rfl rfl (sF _ _ h.lt x29 vb b (h.je 2 rfl) c _ rfl) ?_)))))))))))
 rintro _ w ⟨k40, rfl⟩
 refine ⟨_, rfl, ?_⟩
 replace h := h.grow k40
 refine ae (aj (v := (.int .i64 ((dW x29 b c)))) rfl) (ah (aa (ai (ag (ae (au (v := (.int .i64 ((dW x29 b c)))) rfl) (ae (gq rfl rfl) (ah (aa (aI hs rfl (fun Xt hs => ?_) (fun Xt hs => ?_))))))))))
 refine ai (ag (ae (au (v := (.int .i64 ((dW x29 b c)))) rfl) (ae (aj (v := (.int .i64 ((dW x29 b c)))) rfl) (ah (aa (aK (aC (aH (aC (aC (aH (aC (cK (v := (.int .i64 ((dW x29 b c)))) Tryz.results146 rfl ?_)))))))))))))
 obtain rfl := Option.some.inj hs
 exact ⟨h.grown, rfl⟩
 refine aG (aa (ai (aV (gT (σ := Nat × Value × List Int) (inl [9, 41, 42, 43, 44, 45, 46, 47, 48, 49, 50, 51, 52, 53, 54, 55, 56, 57]) (fun ⟨Zm, v48, vI⟩ => [(9, v48)]) (fun ⟨Zm, v48, vI⟩ w => SH w0 M BE w (hset [(1, .sr jY va a), (2, .sr iH vb b), (9, .own fF 3 v48 vI), (11, .blk b39 [(.int .i64 (x29.kind)), (.int .i64 (x29.n))])]) ∧ again (kF i28 x29 b C8) Zm vI = some r) (fun ⟨Zm, v48, vI⟩ => Zm) ⟨N, v25, Ps⟩ ⟨rfl, trivial⟩ ?_ ?_))))
 exact ⟨h.cn _, hs⟩
 rintro ⟨Zm, v48, vI⟩ w dz ⟨h, hs⟩
 obtain ⟨Zn, m53e, m53h⟩ := qm hs
 subst m53e
 replace hs := m53h
 generalize Zo : again (kF i28 x29 b C8) Zn = Pq at hs
 refine ai (bV (σ := Bool) (inl [41, 42, 43, 44, 45, 46, 47, 48, 49, 50, 51, 52]) (fun Yp => [(52, (.bool (Yp)))]) (fun Yp w => SH w0 M BE w (hset [(1, .sr jY va a), (2, .sr iH vb b), (9, .own fF 3 v48 vI), (11, .blk b39 [(.int .i64 (x29.kind)), (.int .i64 (x29.n))])]) ∧ kE vI Pq i28 x29 b C8 Yp = some r) ?_ ?_)
 rintro Yp w dz ⟨h, hs⟩
 refine aI hs rfl (fun c58 hs => ?_) (fun c58 hs => ?_)
 refine aG (aa (aV (ag (ae (au (v := v48) rfl) (ae (au (v := v48) rfl) (ae (bY bW rfl (h.dM 9 rfl)) ?_))))))
 obtain ⟨a59, hs⟩ := bG hs
 refine ae (oh rfl rfl a59) ?_
 obtain ⟨x60, e61, hs⟩ := aQ hs
 obtain ⟨e64, e64a, e64b, e64c⟩ := Iy e61
 obtain ⟨Yq, h, i63⟩ := h.Y0 9 rfl bW rfl e64b e64c
 refine ae (i63 _ _ _ _ _ _ _ _ _ _ rfl (.inl ⟨rfl, rfl⟩) (.inr (congrArg some rfl))) (ae (aj (v := Yq) rfl) (ah (aA (az ?_))))
 subst Zo
 exact jV ⟨Zn, Yq, (vI.take (((vI.length : Int) - 1)).toNat)⟩ ⟨h.cn _, hs⟩
 refine df (aN (aN (bE (aa (ai (ai (ag (ae (au (v := (.int .i64 (i28))) rfl) (ae (jH rfl rfl) (ae (au (v := (.bool (decide ((0 : Int) < i28)))) rfl) (aD rfl rfl (fun q => au (v := v48) rfl) (aD rfl rfl (fun q => bY bW (dn q) (h.dM 9 rfl)) (aD rfl rfl (fun q => bI (dn q) rfl) (ae (fZ rfl rfl lV) (ah (aa (aI hs rfl (fun vg hs => ?_) (fun vg hs => ?_))))))))))))))))))
 refine ai (ag (ae (aj (v := (.int .i64 (4))) rfl) (ah (aa (aK (aC (aH (aC (aC (aH (aC (cK (v := (.int .i64 (4))) Tryz.results146 rfl ?_))))))))))))
 obtain rfl := Option.some.inj hs
 exact ⟨h.grown, rfl⟩
 refine aG (aa (bV (σ := List Int) (inl [65, 66, 67, 68, 69, 70, 71, 72, 73, 74]) (fun x66 => []) (fun x66 w => SH w0 M BE w (hset [(1, .sr jY va a), (2, .sr iH vb b), (9, .own fF 3 v48 x66), (11, .blk b39 [(.int .i64 (x29.kind)), (.int .i64 (x29.n))])]) ∧ kD x29 b C8 x66 = some r) ?_ ?_))
 rintro x66 w dz ⟨h, hs⟩
 refine ag (ae (au (v := v48) rfl) (ae (dS (vs := [(.int .i64 (x29.kind)), (.int .i64 (x29.n))]) h 11 rfl jJ rfl rfl rfl) (ae (au (v := vb) rfl) ?_)))
 obtain ⟨rq, Va, hs⟩ := aQ hs
 refine bA JV rfl rfl (rz _ _ h.lt x29 vb b (h.je 2 rfl) _ Va) ?_
 rintro _ w ⟨k69, rfl⟩
 refine ⟨_, rfl, ?_⟩
 replace h := h.grow k69
 refine uw (R := fF) (vs := [(.int .i64 (rq))]) (xs := [rq]) h 13 ky rfl rfl rfl ⟨rfl, trivial⟩ rfl fun w u70 h => ?_
 obtain ⟨a71, hs⟩ := bG hs
 refine mo (R := fF) (m := [rq]) h 9 rfl (h.dM 13 rfl) ky rfl rfl rfl a71.1 a71.2 fun w u72 h => ae (aj (v := u72) rfl) (ah (aA (aa (ag (ae (dw rfl rfl e33r) (ae (au (v := (.int .i64 ((i28 + 1)))) rfl) (ah (az ?_))))))))
 subst Zl
 exact jV ⟨k27 + 1, i28 + 1, u72, (x66 ++ [rq])⟩ ⟨h.cn _, by omega, hs⟩ (by have := of_decide_eq_true e32; dsimp only; omega)
 refine ai (ag (ae (au (v := (.int .i64 (i28))) rfl) (ae (jH rfl rfl) (ah (aa (aI hs rfl (fun c73 hs => ?_) (fun c73 hs => ?_)))))))
 refine ag (ae (au (v := v48) rfl) (ae (au (v := v48) rfl) (ae (bY bW rfl (h.dM 9 rfl)) ?_)))
 obtain ⟨a74, hs⟩ := bG hs
 refine ae (oh rfl rfl a74) ?_
 obtain ⟨Zg, Yr, hs⟩ := aQ hs
 obtain ⟨b78, q79, i77⟩ := h.wo 9 rfl bW rfl (aJ Yr).1 (aJ Yr).2
 refine ae (i77 _ _ _ _ _ _ _ _ _ rfl rfl) ?_
 obtain ⟨cs80, m81, r82⟩ := h.yN 9 rfl q79 (aJ Yr).2
 obtain rfl := r82
 refine ae (oL (k := 0) m81 bz rfl rfl) ?_
 obtain ⟨a83, hs⟩ := bG hs
 refine ae (oh rfl rfl a83) ?_
 obtain ⟨H8, q86, i84⟩ := h.wo 9 rfl bW rfl (aJ Yr).1 (aJ Yr).2
 refine ae (i84 _ _ _ _ _ _ _ _ _ rfl rfl) (IA (off := 0) (a' := (Zg - 1)) h 9 rfl q86 rfl (aJ Yr).2 bz rfl rfl rfl rfl (fun cs hq => set1 rfl hq rfl rfl) fun w h => ah (az ?_))
 exact bQ (vI.set (((vI.length : Int) - 1)).toNat (Zg - 1)) ⟨h.cn _, hs⟩
 refine aG (az ?_)
 exact bQ vI ⟨h.cn _, hs⟩
 refine ag (ae (au (v := v48) rfl) (ae (bY bW rfl (h.dM 9 rfl)) (ae (jH rfl rfl) (ae (au (v := (.bool (decide ((0 : Int) < (vI.length : Int))))) rfl) (lW (b := decide ((0 : Int) < (vI.length : Int))) hs (fun c87 hs => ?_) (fun c87 hs => ?_))))))
 refine eY rfl (congrArg Value.bool c87) (ae (au (v := v48) rfl) (eY rfl (congrArg Value.bool c87) (ae (au (v := v48) rfl) (eY rfl (congrArg Value.bool c87) (ae (bY bW rfl (h.dM 9 rfl)) (eY rfl (congrArg Value.bool c87) ?_))))))
 obtain ⟨a88, hs⟩ := bG hs
 refine ae (oh rfl rfl a88) (eY rfl (congrArg Value.bool c87) ?_)
 obtain ⟨x89, Zp, hs⟩ := aQ hs
 obtain ⟨b92, q93, i91⟩ := h.wo 9 rfl bW rfl (aJ Zp).1 (aJ Zp).2
 refine ae (i91 _ _ _ _ _ _ _ _ _ rfl rfl) (eY rfl (congrArg Value.bool c87) ?_)
 obtain ⟨cs94, m95, r96⟩ := h.yN 9 rfl q93 (aJ Zp).2
 obtain rfl := r96
 refine ae (oL (k := 0) m95 bz rfl rfl) (eY rfl (congrArg Value.bool c87) (ae (bI rfl rfl) (ae (fw (b := true) (v := (.bool (decide ((x89 : Int) = 0)))) (congrArg Value.bool c87) rfl) (ah (az ?_)))))
 exact bQ (decide ((x89 : Int) = 0)) ⟨h.cn _, hs⟩
 refine dh (b' := false) rfl (congrArg Value.bool c87) rfl (dh (b' := false) rfl (congrArg Value.bool c87) rfl (dh (b' := false) rfl (congrArg Value.bool c87) rfl (dh (b' := false) rfl (congrArg Value.bool c87) rfl (dh (b' := false) rfl (congrArg Value.bool c87) rfl (dh (b' := false) rfl (congrArg Value.bool c87) rfl (dh (b' := false) rfl (congrArg Value.bool c87) rfl (ae (fw (b := false) (v := (.bool (false))) (congrArg Value.bool c87) rfl) (ah (az ?_)))))))))
 exact bQ false ⟨h.cn _, hs⟩
 rw [gM (hik ▸ e32), ql] at hs
 refine df (aN (aN (bE (aa (ai (bV (σ := Bool) (inl [82, 83, 84, 85, 86, 87, 88, 89, 90, 91]) (fun D5 => [(91, (.bool (D5)))]) (fun D5 w => SH w0 M BE w (hset []) ∧ kG D5 = some r) ?_ ?_))))))
 rintro D5 w dz ⟨h, hs⟩
 refine aI hs rfl (fun c98 hs => ?_) (fun c98 hs => ?_)
 refine ai (ag (ae (aj (v := (.int .i64 (4))) rfl) (ah (aa (aK (aC (cK (v := (.int .i64 (4))) Tryz.results146 rfl ?_)))))))
 obtain rfl := Option.some.inj hs
 exact ⟨h.grown, rfl⟩
 refine aG (aa (ai (ag (ae (aj (v := (.int .i64 (0))) rfl) (ah (aa (aK (cK (v := (.int .i64 (0))) Tryz.results146 rfl ?_))))))))
 obtain rfl := Option.some.inj hs
 exact ⟨h.grown, rfl⟩
 refine ag (ae (au (v := va) rfl) (ae (bY jP rfl (h.je 1 rfl)) (ae (bI rfl rfl) (ae (au (v := (.bool (decide (((a.length : Int) : Int) = 0)))) rfl) (lW (b := decide (((a.length : Int) : Int) = 0)) hs (fun Pv hs => ?_) (fun Pv hs => ?_))))))
 refine dh (b' := true) rfl (congrArg Value.bool Pv) rfl (dh (b' := true) rfl (congrArg Value.bool Pv) rfl (dh (b' := true) rfl (congrArg Value.bool Pv) rfl (dh (b' := true) rfl (congrArg Value.bool Pv) rfl (dh (b' := true) rfl (congrArg Value.bool Pv) rfl (ae (fw (b := true) (v := (.bool (true))) (congrArg Value.bool Pv) rfl) (ah (az ?_)))))))
 exact bQ true ⟨h.cn _, hs⟩
 refine eY rfl (congrArg Value.bool Pv) (uw (R := fF) (vs := [(.int .i64 (0))]) (xs := [0]) h 14 ky rfl rfl rfl ⟨rfl, trivial⟩ rfl fun w Xu h => eY rfl (congrArg Value.bool Pv) (ae (au (v := v25) rfl) (eY rfl (congrArg Value.bool Pv) ?_)))
 obtain ⟨Vb, hs⟩ := bG hs
 refine mo (R := fF) (m := Ps) h 14 rfl (h.dM 9 rfl) ky rfl rfl rfl Vb.1 Vb.2 fun w u102 h => eY rfl (congrArg Value.bool Pv) ?_
 obtain ⟨U9, Vd, hs⟩ := aQ hs
 refine bA U7 rfl rfl (DZ N _ _ h.lt u102 ([0] ++ Ps) (h.dM 14 rfl) _ Vd) ?_
 rintro _ w ⟨k105, rfl⟩
 refine ⟨_, rfl, ?_⟩
 replace h := h.grow k105
 refine eY rfl (congrArg Value.bool Pv) (ae (jH rfl rfl) (ae (fw (b := false) (v := (.bool (decide ((0 : Int) < U9)))) (congrArg Value.bool Pv) rfl) (ah (az ?_))))
 exact bQ (decide ((0 : Int) < U9)) ⟨h.cn _, hs⟩
def bD (jG : Str) : Bool :=
  (hasB jG 78)
theorem uE (w0 : World) (M : BS) (hM : ∀ b, M b → b < w0.heap.size) (jG : Str) (q0 : Nat) (hq0 : ∃ E, w0.heap[q0]? = some (.cells #[(bu jG)] E (0, 0))) (r : Bool) (hs : bD jG = r) :
    Calls Tryz.prog 144 #[(bu [78]), (.pointer (some ⟨q0, 0, none⟩))] w0 (fun e w' => Grow w0 w' ∧ e = .returned (.bool r)) := by
 refine aS (args := [(bu [78]), (.pointer (some ⟨q0, 0, none⟩))]) Tryz.func144 rfl Tryz.ntmps144 (Nat.le_of_ble_eq_true rfl) ?_
 have h := SH.init hM
 replace h := h.IC 1 (cs := [(bu jG)]) hq0 bR
 refine ai (ag (ae (aj (v := (.bool (false))) rfl) (ah (aa (ai (ag (ae (eF (k := 0) h 1 rfl xZ rfl rfl) (ae (au (v := (bu [78])) rfl) (bA A8 rfl rfl (jw _ _ h.lt jG 78 _ rfl) ?_)))))))))
 rintro _ w ⟨k1, rfl⟩
 refine ⟨_, rfl, ?_⟩
 replace h := h.grow k1
 refine ae (aj (v := (.bool ((hasB jG 78)))) rfl) (ah (aa (aK (cK (v := (.bool ((hasB jG 78)))) Tryz.results144 rfl ?_))))
 obtain rfl := hs
 exact ⟨h.grown, rfl⟩
def bL (jG : Str) : Bool :=
  (hasB jG 69)
theorem uF (w0 : World) (M : BS) (hM : ∀ b, M b → b < w0.heap.size) (jG : Str) (q0 : Nat) (hq0 : ∃ E, w0.heap[q0]? = some (.cells #[(bu jG)] E (0, 0))) (r : Bool) (hs : bL jG = r) :
    Calls Tryz.prog 144 #[(bu [69]), (.pointer (some ⟨q0, 0, none⟩))] w0 (fun e w' => Grow w0 w' ∧ e = .returned (.bool r)) := by
 refine aS (args := [(bu [69]), (.pointer (some ⟨q0, 0, none⟩))]) Tryz.func144 rfl Tryz.ntmps144 (Nat.le_of_ble_eq_true rfl) ?_
 have h := SH.init hM
 replace h := h.IC 1 (cs := [(bu jG)]) hq0 bR
 refine ai (ag (ae (aj (v := (.bool (false))) rfl) (ah (aa (ai (ag (ae (eF (k := 0) h 1 rfl xZ rfl rfl) (ae (au (v := (bu [69])) rfl) (bA A8 rfl rfl (jw _ _ h.lt jG 69 _ rfl) ?_)))))))))
 rintro _ w ⟨k1, rfl⟩
 refine ⟨_, rfl, ?_⟩
 replace h := h.grow k1
 refine ae (aj (v := (.bool ((hasB jG 69)))) rfl) (ah (aa (aK (cK (v := (.bool ((hasB jG 69)))) Tryz.results144 rfl ?_))))
 obtain rfl := hs
 exact ⟨h.grown, rfl⟩
def cz (jG : Str) : Bool :=
  (hasB jG 70)
theorem nD (w0 : World) (M : BS) (hM : ∀ b, M b → b < w0.heap.size) (jG : Str) (q0 : Nat) (hq0 : ∃ E, w0.heap[q0]? = some (.cells #[(bu jG)] E (0, 0))) (r : Bool) (hs : cz jG = r) :
    Calls Tryz.prog 144 #[(bu [70]), (.pointer (some ⟨q0, 0, none⟩))] w0 (fun e w' => Grow w0 w' ∧ e = .returned (.bool r)) := by
 refine aS (args := [(bu [70]), (.pointer (some ⟨q0, 0, none⟩))]) Tryz.func144 rfl Tryz.ntmps144 (Nat.le_of_ble_eq_true rfl) ?_
 have h := SH.init hM
 replace h := h.IC 1 (cs := [(bu jG)]) hq0 bR
 refine ai (ag (ae (aj (v := (.bool (false))) rfl) (ah (aa (ai (ag (ae (eF (k := 0) h 1 rfl xZ rfl rfl) (ae (au (v := (bu [70])) rfl) (bA A8 rfl rfl (jw _ _ h.lt jG 70 _ rfl) ?_)))))))))
 rintro _ w ⟨k1, rfl⟩
 refine ⟨_, rfl, ?_⟩
 replace h := h.grow k1
 refine ae (aj (v := (.bool ((hasB jG 70)))) rfl) (ah (aa (aK (cK (v := (.bool ((hasB jG 70)))) Tryz.results144 rfl ?_))))
 obtain rfl := hs
 exact ⟨h.grown, rfl⟩
def fe (jG : Str) : Bool :=
  (hasB jG 65)
theorem uG (w0 : World) (M : BS) (hM : ∀ b, M b → b < w0.heap.size) (jG : Str) (q0 : Nat) (hq0 : ∃ E, w0.heap[q0]? = some (.cells #[(bu jG)] E (0, 0))) (r : Bool) (hs : fe jG = r) :
    Calls Tryz.prog 144 #[(bu [65]), (.pointer (some ⟨q0, 0, none⟩))] w0 (fun e w' => Grow w0 w' ∧ e = .returned (.bool r)) := by
 refine aS (args := [(bu [65]), (.pointer (some ⟨q0, 0, none⟩))]) Tryz.func144 rfl Tryz.ntmps144 (Nat.le_of_ble_eq_true rfl) ?_
 have h := SH.init hM
 replace h := h.IC 1 (cs := [(bu jG)]) hq0 bR
 refine ai (ag (ae (aj (v := (.bool (false))) rfl) (ah (aa (ai (ag (ae (eF (k := 0) h 1 rfl xZ rfl rfl) (ae (au (v := (bu [65])) rfl) (bA A8 rfl rfl (jw _ _ h.lt jG 65 _ rfl) ?_)))))))))
 rintro _ w ⟨k1, rfl⟩
 refine ⟨_, rfl, ?_⟩
 replace h := h.grow k1
 refine ae (aj (v := (.bool ((hasB jG 65)))) rfl) (ah (aa (aK (cK (v := (.bool ((hasB jG 65)))) Tryz.results144 rfl ?_))))
 obtain rfl := hs
 exact ⟨h.grown, rfl⟩
def oU (jG : Str) : Bool :=
  (hasB jG 66)
theorem uH (w0 : World) (M : BS) (hM : ∀ b, M b → b < w0.heap.size) (jG : Str) (q0 : Nat) (hq0 : ∃ E, w0.heap[q0]? = some (.cells #[(bu jG)] E (0, 0))) (r : Bool) (hs : oU jG = r) :
    Calls Tryz.prog 144 #[(bu [66]), (.pointer (some ⟨q0, 0, none⟩))] w0 (fun e w' => Grow w0 w' ∧ e = .returned (.bool r)) := by
 refine aS (args := [(bu [66]), (.pointer (some ⟨q0, 0, none⟩))]) Tryz.func144 rfl Tryz.ntmps144 (Nat.le_of_ble_eq_true rfl) ?_
 have h := SH.init hM
 replace h := h.IC 1 (cs := [(bu jG)]) hq0 bR
 refine ai (ag (ae (aj (v := (.bool (false))) rfl) (ah (aa (ai (ag (ae (eF (k := 0) h 1 rfl xZ rfl rfl) (ae (au (v := (bu [66])) rfl) (bA A8 rfl rfl (jw _ _ h.lt jG 66 _ rfl) ?_)))))))))
 rintro _ w ⟨k1, rfl⟩
 refine ⟨_, rfl, ?_⟩
 replace h := h.grow k1
 refine ae (aj (v := (.bool ((hasB jG 66)))) rfl) (ah (aa (aK (cK (v := (.bool ((hasB jG 66)))) Tryz.results144 rfl ?_))))
 obtain rfl := hs
 exact ⟨h.grown, rfl⟩
def kL (Ie : Unit → Option Int) (sH : Int) : Option Int :=
  bif decide ((sH : Int) ≠ 0) then some sH else Ie ()
def kM (F0 : List bF → List eO → Int → Option Int) (x3 : bF) (b : List eO) (c : Int) (Ie : Unit → Option Int) (xL : Int) : Option Int :=
  bif decide ((xL : Int) = 0) then (F0 x3.b b c).bind fun y39 => kL Ie y39 else kL Ie xL
def kN (F0 : List bF → List eO → Int → Option Int) (x3 : bF) (a : List bF) (b : List eO) (c : Int) (Ie : Unit → Option Int) (x34 : Int) : Option Int :=
  bif decide ((x34 : Int) = 0) then (F0 x3.a b c).bind fun zf => kM F0 x3 b c Ie zf else kM F0 x3 b c Ie x34
def kP (N : Nat) (F0 : List bF → List eO → Int → Option Int) (x3 : bF) (b : List eO) (c : Int) (a : List bF) (Ie : Unit → Option Int) (yg : Int) : Option Int :=
  bif (decide ((yg : Int) = 0) && (cz ((lk x3.kind ([(1, [78, 69]), (2, [78, 69, 70]), (3, [69]), (4, []), (5, [69]), (6, [69, 65, 66]), (7, [69, 65]), (8, [69])] : List (Int × Str))).getD []))) then (oF N x3.f b c).bind fun yO => kN F0 x3 a b c Ie yO else kN F0 x3 a b c Ie yg
def kQ (N : Nat) (F0 : List bF → List eO → Int → Option Int) (a : List bF) (b : List eO) (c : Int) (x3 : bF) (s : Unit) (Ie : Unit → Option Int) : Option Int :=
  bif ((((((!(lk x3.kind ([(1, [78, 69]), (2, [78, 69, 70]), (3, [69]), (4, []), (5, [69]), (6, [69, 65, 66]), (7, [69, 65]), (8, [69])] : List (Int × Str))).isSome) || (decide ((x3.n : Int) ≠ 0) && (!(bD ((lk x3.kind ([(1, [78, 69]), (2, [78, 69, 70]), (3, [69]), (4, []), (5, [69]), (6, [69, 65, 66]), (7, [69, 65]), (8, [69])] : List (Int × Str))).getD []))))) || (decide ((0 : Int) < (x3.e.length : Int)) && (!(bL ((lk x3.kind ([(1, [78, 69]), (2, [78, 69, 70]), (3, [69]), (4, []), (5, [69]), (6, [69, 65, 66]), (7, [69, 65]), (8, [69])] : List (Int × Str))).getD []))))) || (decide ((0 : Int) < (x3.f.length : Int)) && (!(cz ((lk x3.kind ([(1, [78, 69]), (2, [78, 69, 70]), (3, [69]), (4, []), (5, [69]), (6, [69, 65, 66]), (7, [69, 65]), (8, [69])] : List (Int × Str))).getD []))))) || (decide ((0 : Int) < (x3.a.length : Int)) && (!(fe ((lk x3.kind ([(1, [78, 69]), (2, [78, 69, 70]), (3, [69]), (4, []), (5, [69]), (6, [69, 65, 66]), (7, [69, 65]), (8, [69])] : List (Int × Str))).getD []))))) || (decide ((0 : Int) < (x3.b.length : Int)) && (!(oU ((lk x3.kind ([(1, [78, 69]), (2, [78, 69, 70]), (3, [69]), (4, []), (5, [69]), (6, [69, 65, 66]), (7, [69, 65]), (8, [69])] : List (Int × Str))).getD []))))) then some 4 else bif ((decide ((x3.kind : Int) = 1) && (!(aY x3.n c))) || (decide ((x3.kind : Int) = 2) && (!(bB x3.n 0 3)))) then some 3 else bif (hasB ((lk x3.kind ([(1, [78, 69]), (2, [78, 69, 70]), (3, [69]), (4, []), (5, [69]), (6, [69, 65, 66]), (7, [69, 65]), (8, [69])] : List (Int × Str))).getD []) 69) then (oF N x3.e b c).bind fun zH => kP N F0 x3 b c a Ie zH else kP N F0 x3 b c a Ie 0
def kR (s : Unit) : Option Int :=
  some 0
def qP (N : Nat) (F0 : List bF → List eO → Int → Option Int) (a : List bF) (b : List eO) (c : Int) : Option Int :=
  each (kQ N F0 a b c) kR a ()
def iU : Nat → List bF → List eO → Int → Option Int
  | 0 => fun _ _ _ => none
  | N + 1 => qP N (iU N)
theorem xy : ∀ (N : Nat) (w0 : World) (M : BS) (hM : ∀ b, M b → b < w0.heap.size) (va : Value) (a : List bF) (ha : gp dY w0 BE M va a) (vb : Value) (b : List eO) (hb : gp iH w0 BE M vb b) (c : Int) (r : Int) (hs : iU N a b c = some r),
    Calls Tryz.prog 129 #[va, vb, (.int .i64 (c))] w0 (fun e w' => Grow w0 w' ∧ e = .returned (.int .i64 r)) := by
 intro N
 induction N with
 | zero => intro w0 M hM va a ha vb b hb c r hs; cases hs
 | succ N ih =>
 intro w0 M hM va a ha vb b hb c r hs
 replace hs : qP N (iU N) a b c = some r := hs
 generalize iU N = F0 at hs ih
 refine aS (args := [va, vb, (.int .i64 (c))]) Tryz.func129 rfl Tryz.ntmps129 (Nat.le_of_ble_eq_true rfl) ?_
 have h := SH.init hM
 replace h := h.il 1 ha bR
 replace h := h.il 2 hb (eT bR)
 have u7 := ha.cO
 have MO := hb.cO
 refine ai (ag (ae (aj (v := (.int .i64 (0))) rfl) (ah (aa (ai (ai (ag (ae (au (v := va) rfl) (ae (bY kC rfl (h.je 1 rfl)) (ae (au (v := (.int .i64 (0))) rfl) (ah (aa (aV (gT (σ := Nat × Int) (inl [6, 8, 9, 10, 11, 12, 15, 16, 17, 18, 19, 20, 21, 22, 23, 24, 25, 26, 27, 28, 29, 30, 31, 32, 33, 34, 35, 36, 37, 38, 39, 40, 41, 42, 43, 44, 45, 46, 47, 48, 49, 50, 51, 52, 53, 54, 55, 56, 57, 58, 59, 60, 61, 62, 63, 64, 65, 66, 67, 68, 69, 70, 71, 72, 73, 74, 75, 76, 77, 78, 79, 80, 81, 82, 83, 84, 85, 86, 87, 88, 89, 90, 91, 92, 93, 94, 95, 96, 97, 98, 99, 100, 101, 102, 103, 104, 105, 106, 107, 108, 109, 110, 111, 112, 113, 114, 115, 116, 117, 118, 119, 120, 121, 122, 123, 124, 125, 126, 127, 128, 129, 130, 131, 132, 133, 134, 135, 136, 137, 138, 139, 140]) (fun ⟨k1, i2⟩ => [(15, (.int .i64 (i2)))]) (fun ⟨k1, i2⟩ w => SH w0 M BE w (hset [(1, .sr dY va a), (2, .sr iH vb b)]) ∧ i2 = (k1 : Int) ∧ each (kQ N F0 a b c) kR (a.drop k1) () = some r) (fun ⟨k1, i2⟩ => a.length - k1) ⟨0, 0⟩ ⟨rfl, trivial⟩ ?_ ?_))))))))))))))
 exact ⟨h.cn _, rfl, hs⟩
 rintro ⟨k1, i2⟩ w dz ⟨h, hik, hs⟩
 refine ai (ag ?_)
 refine ae (dN rfl rfl) (ah (aa ?_))
 refine ai (iJ rfl (fun e6 => ?_) (fun e6 => ?_))
 refine aG (aa ?_)
 obtain ⟨x3, e7a, Zq⟩ := gL (hik ▸ e6)
 rw [Zq, dO] at hs
 generalize Xv : each (kQ N F0 a b c) kR (a.drop (k1 + 1)) = Ie at hs
 have e7r := gP ((h.je 1 rfl)).cO hik e6
 refine ai (aV (ai (ag ?_)))
 obtain ⟨b9, o10, cs11, h, Zr, i8⟩ := h.Bt 1 3 rfl kC rfl (jl hik) (gN hik e7a)
 obtain ⟨Ml, FN, C9, K4, rfl, g14, g16, g18, g20⟩ := yU Zr
 replace h := h.cZ 4 g14.up
 replace h := h.cZ 5 g16.up.up
 replace h := h.cZ 6 g18.up.up.up
 replace h := h.cZ 7 g20.up.up.up.up
 refine ae (i8 _ _ _ _ _ _ _ _ _ rfl rfl) (ae (jW (k := 0) (vs := [(.int .i64 (x3.kind)), (.int .i64 (x3.n)), Ml, FN, C9, K4]) h 3 rfl nH rfl rfl rfl (Nat.le_of_ble_eq_true rfl)) (bT h 8 nH fun w Ig h => dm (vs := [(.int .i64 (x3.kind)), (.int .i64 (x3.n)), Ml, FN, C9, K4]) h 8 [(.int .i64 (x3.kind)), (.int .i64 (x3.n)), Ml, FN, C9, K4] rfl nH rfl rfl rfl rfl rfl (ax rfl (ax rfl (ax (h.gB 4 rfl).one (ax (h.gB 5 rfl).one (ax (h.gB 6 rfl).one (ax (h.gB 7 rfl).one aZ)))))) fun w h => ah (aa (ai (ag (AQ h 9 fun w b22 h => mF (oM := [(1, (bu [78, 69]))]) h 9 rfl kz rfl rfl rfl rfl fun w h => mF (oM := [(1, (bu [78, 69])), (2, (bu [78, 69, 70]))]) h 9 rfl kz rfl rfl rfl rfl fun w h => mF (oM := [(1, (bu [78, 69])), (2, (bu [78, 69, 70])), (3, (bu [69]))]) h 9 rfl kz rfl rfl rfl rfl fun w h => mF (oM := [(1, (bu [78, 69])), (2, (bu [78, 69, 70])), (3, (bu [69])), (4, (bu []))]) h 9 rfl kz rfl rfl rfl rfl fun w h => mF (oM := [(1, (bu [78, 69])), (2, (bu [78, 69, 70])), (3, (bu [69])), (4, (bu [])), (5, (bu [69]))]) h 9 rfl kz rfl rfl rfl rfl fun w h => mF (oM := [(1, (bu [78, 69])), (2, (bu [78, 69, 70])), (3, (bu [69])), (4, (bu [])), (5, (bu [69])), (6, (bu [69, 65, 66]))]) h 9 rfl kz rfl rfl rfl rfl fun w h => mF (oM := [(1, (bu [78, 69])), (2, (bu [78, 69, 70])), (3, (bu [69])), (4, (bu [])), (5, (bu [69])), (6, (bu [69, 65, 66])), (7, (bu [69, 65]))]) h 9 rfl kz rfl rfl rfl rfl fun w h => mF (oM := [(1, (bu [78, 69])), (2, (bu [78, 69, 70])), (3, (bu [69])), (4, (bu [])), (5, (bu [69])), (6, (bu [69, 65, 66])), (7, (bu [69, 65])), (8, (bu [69]))]) h 9 rfl kz rfl rfl rfl rfl fun w h => ae (au (v := (.map (some b22))) rfl) (ae (ak jB rfl) (ae (aF h 8 rfl bz rfl rfl) (ae (Y4 (f := bu) (zz := []) ([(1, [78, 69]), (2, [78, 69, 70]), (3, [69]), (4, []), (5, [69]), (6, [69, 65, 66]), (7, [69, 65]), (8, [69])] : List (Int × Str)) h 9 rfl kz rfl rfl rfl rfl) (ae (au (v := (.tuple #[(bu ((lk x3.kind ([(1, [78, 69]), (2, [78, 69, 70]), (3, [69]), (4, []), (5, [69]), (6, [69, 65, 66]), (7, [69, 65]), (8, [69])] : List (Int × Str))).getD [])), (.bool ((lk x3.kind ([(1, [78, 69]), (2, [78, 69, 70]), (3, [69]), (4, []), (5, [69]), (6, [69, 65, 66]), (7, [69, 65]), (8, [69])] : List (Int × Str))).isSome))])) rfl) (ae (bC rfl rfl) (ae (bC rfl rfl) ?_))))))))))))
 refine o7 h 10 xZ fun w BH h => fq h 10 [(bu ((lk x3.kind ([(1, [78, 69]), (2, [78, 69, 70]), (3, [69]), (4, []), (5, [69]), (6, [69, 65, 66]), (7, [69, 65]), (8, [69])] : List (Int × Str))).getD []))] rfl xZ rfl rfl rfl rfl rfl fun w h => ae (aj (v := (.bool ((lk x3.kind ([(1, [78, 69]), (2, [78, 69, 70]), (3, [69]), (4, []), (5, [69]), (6, [69, 65, 66]), (7, [69, 65]), (8, [69])] : List (Int × Str))).isSome))) rfl) (ah (aa (ai (ag (ae (ru (c1 := []) (c2 := [(.pointer (some ⟨BH, 0, none⟩))]) rfl rfl) (ae (aj (v := (.func (.func 144) #[] #[(.pointer (some ⟨BH, 0, none⟩))])) rfl) (ah (aa (ai (ai (ag (ae (au (v := (.bool ((lk x3.kind ([(1, [78, 69]), (2, [78, 69, 70]), (3, [69]), (4, []), (5, [69]), (6, [69, 65, 66]), (7, [69, 65]), (8, [69])] : List (Int × Str))).isSome))) rfl) (ae (iq rfl) (ae (au (v := (.bool ((!(lk x3.kind ([(1, [78, 69]), (2, [78, 69, 70]), (3, [69]), (4, []), (5, [69]), (6, [69, 65, 66]), (7, [69, 65]), (8, [69])] : List (Int × Str))).isSome)))) rfl) (aD rfl rfl (fun q => ak uB rfl) (aD rfl rfl (fun q => aF h 8 rfl bz (dn q) rfl) (aD rfl rfl (fun q => gq (dn q) rfl) (aD rfl rfl (fun q => au (v := (.bool (decide ((x3.n : Int) ≠ 0)))) (dn q)) (kr ((!(lk x3.kind ([(1, [78, 69]), (2, [78, 69, 70]), (3, [69]), (4, []), (5, [69]), (6, [69, 65, 66]), (7, [69, 65]), (8, [69])] : List (Int × Str))).isSome) == false) rfl rfl (fun q => au (v := (.func (.func 144) #[] #[(.pointer (some ⟨BH, 0, none⟩))])) rfl) (AR [(.pointer (some ⟨BH, 0, none⟩))] ((!(lk x3.kind ([(1, [78, 69]), (2, [78, 69, 70]), (3, [69]), (4, []), (5, [69]), (6, [69, 65, 66]), (7, [69, 65]), (8, [69])] : List (Int × Str))).isSome) == false) rfl rfl zb (fun q => (dn q)) (fun q => lD rfl rfl) (uE _ _ h.lt ((lk x3.kind ([(1, [78, 69]), (2, [78, 69, 70]), (3, [69]), (4, []), (5, [69]), (6, [69, 65, 66]), (7, [69, 65]), (8, [69])] : List (Int × Str))).getD []) BH (h.qE 10 rfl) _ rfl) fun w k24 => ?_))))))))))))))))))))
 replace h := h.grow k24
 refine kr ((!(lk x3.kind ([(1, [78, 69]), (2, [78, 69, 70]), (3, [69]), (4, []), (5, [69]), (6, [69, 65, 66]), (7, [69, 65]), (8, [69])] : List (Int × Str))).isSome) == false) rfl rfl (fun q => iq (dn q)) (aD rfl rfl (fun q => fZ (dn q) (OZ q) lV) (ae (gu rfl rfl lV) (ae (au (v := (.bool (((!(lk x3.kind ([(1, [78, 69]), (2, [78, 69, 70]), (3, [69]), (4, []), (5, [69]), (6, [69, 65, 66]), (7, [69, 65]), (8, [69])] : List (Int × Str))).isSome) || (decide ((x3.n : Int) ≠ 0) && (!(bD ((lk x3.kind ([(1, [78, 69]), (2, [78, 69, 70]), (3, [69]), (4, []), (5, [69]), (6, [69, 65, 66]), (7, [69, 65]), (8, [69])] : List (Int × Str))).getD [])))))))) rfl) (aD rfl rfl (fun q => ak xV rfl) (aD rfl rfl (fun q => aF h 8 rfl wD (dn q) rfl) (aD rfl rfl (fun q => bY jP (dn q) (h.oZ 4 rfl)) (aD rfl rfl (fun q => jH (dn q) rfl) (aD rfl rfl (fun q => au (v := (.bool (decide ((0 : Int) < (x3.e.length : Int))))) (dn q)) (kr (((!(lk x3.kind ([(1, [78, 69]), (2, [78, 69, 70]), (3, [69]), (4, []), (5, [69]), (6, [69, 65, 66]), (7, [69, 65]), (8, [69])] : List (Int × Str))).isSome) || (decide ((x3.n : Int) ≠ 0) && (!(bD ((lk x3.kind ([(1, [78, 69]), (2, [78, 69, 70]), (3, [69]), (4, []), (5, [69]), (6, [69, 65, 66]), (7, [69, 65]), (8, [69])] : List (Int × Str))).getD []))))) == false) rfl rfl (fun q => au (v := (.func (.func 144) #[] #[(.pointer (some ⟨BH, 0, none⟩))])) rfl) (AR [(.pointer (some ⟨BH, 0, none⟩))] (((!(lk x3.kind ([(1, [78, 69]), (2, [78, 69, 70]), (3, [69]), (4, []), (5, [69]), (6, [69, 65, 66]), (7, [69, 65]), (8, [69])] : List (Int × Str))).isSome) || (decide ((x3.n : Int) ≠ 0) && (!(bD ((lk x3.kind ([(1, [78, 69]), (2, [78, 69, 70]), (3, [69]), (4, []), (5, [69]), (6, [69, 65, 66]), (7, [69, 65]), (8, [69])] : List (Int × Str))).getD []))))) == false) rfl rfl zb (fun q => (dn q)) (fun q => lD rfl rfl) (uF _ _ h.lt ((lk x3.kind ([(1, [78, 69]), (2, [78, 69, 70]), (3, [69]), (4, []), (5, [69]), (6, [69, 65, 66]), (7, [69, 65]), (8, [69])] : List (Int × Str))).getD []) BH (h.qE 10 rfl) _ rfl) fun w k25 => ?_))))))))))
 replace h := h.grow k25
 refine kr (((!(lk x3.kind ([(1, [78, 69]), (2, [78, 69, 70]), (3, [69]), (4, []), (5, [69]), (6, [69, 65, 66]), (7, [69, 65]), (8, [69])] : List (Int × Str))).isSome) || (decide ((x3.n : Int) ≠ 0) && (!(bD ((lk x3.kind ([(1, [78, 69]), (2, [78, 69, 70]), (3, [69]), (4, []), (5, [69]), (6, [69, 65, 66]), (7, [69, 65]), (8, [69])] : List (Int × Str))).getD []))))) == false) rfl rfl (fun q => iq (dn q)) (aD rfl rfl (fun q => fZ (dn q) (OZ q) lV) (ae (gu rfl rfl lV) (ae (au (v := (.bool ((((!(lk x3.kind ([(1, [78, 69]), (2, [78, 69, 70]), (3, [69]), (4, []), (5, [69]), (6, [69, 65, 66]), (7, [69, 65]), (8, [69])] : List (Int × Str))).isSome) || (decide ((x3.n : Int) ≠ 0) && (!(bD ((lk x3.kind ([(1, [78, 69]), (2, [78, 69, 70]), (3, [69]), (4, []), (5, [69]), (6, [69, 65, 66]), (7, [69, 65]), (8, [69])] : List (Int × Str))).getD []))))) || (decide ((0 : Int) < (x3.e.length : Int)) && (!(bL ((lk x3.kind ([(1, [78, 69]), (2, [78, 69, 70]), (3, [69]), (4, []), (5, [69]), (6, [69, 65, 66]), (7, [69, 65]), (8, [69])] : List (Int × Str))).getD [])))))))) rfl) (aD rfl rfl (fun q => ak Ac rfl) (aD rfl rfl (fun q => aF h 8 rfl wD (dn q) rfl) (aD rfl rfl (fun q => bY jP (dn q) (h.oZ 5 rfl)) (aD rfl rfl (fun q => jH (dn q) rfl) (aD rfl rfl (fun q => au (v := (.bool (decide ((0 : Int) < (x3.f.length : Int))))) (dn q)) (kr ((((!(lk x3.kind ([(1, [78, 69]), (2, [78, 69, 70]), (3, [69]), (4, []), (5, [69]), (6, [69, 65, 66]), (7, [69, 65]), (8, [69])] : List (Int × Str))).isSome) || (decide ((x3.n : Int) ≠ 0) && (!(bD ((lk x3.kind ([(1, [78, 69]), (2, [78, 69, 70]), (3, [69]), (4, []), (5, [69]), (6, [69, 65, 66]), (7, [69, 65]), (8, [69])] : List (Int × Str))).getD []))))) || (decide ((0 : Int) < (x3.e.length : Int)) && (!(bL ((lk x3.kind ([(1, [78, 69]), (2, [78, 69, 70]), (3, [69]), (4, []), (5, [69]), (6, [69, 65, 66]), (7, [69, 65]), (8, [69])] : List (Int × Str))).getD []))))) == false) rfl rfl (fun q => au (v := (.func (.func 144) #[] #[(.pointer (some ⟨BH, 0, none⟩))])) rfl) (AR [(.pointer (some ⟨BH, 0, none⟩))] ((((!(lk x3.kind ([(1, [78, 69]), (2, [78, 69, 70]), (3, [69]), (4, []), (5, [69]), (6, [69, 65, 66]), (7, [69, 65]), (8, [69])] : List (Int × Str))).isSome) || (decide ((x3.n : Int) ≠ 0) && (!(bD ((lk x3.kind ([(1, [78, 69]), (2, [78, 69, 70]), (3, [69]), (4, []), (5, [69]), (6, [69, 65, 66]), (7, [69, 65]), (8, [69])] : List (Int × Str))).getD []))))) || (decide ((0 : Int) < (x3.e.length : Int)) && (!(bL ((lk x3.kind ([(1, [78, 69]), (2, [78, 69, 70]), (3, [69]), (4, []), (5, [69]), (6, [69, 65, 66]), (7, [69, 65]), (8, [69])] : List (Int × Str))).getD []))))) == false) rfl rfl zb (fun q => (dn q)) (fun q => lD rfl rfl) (nD _ _ h.lt ((lk x3.kind ([(1, [78, 69]), (2, [78, 69, 70]), (3, [69]), (4, []), (5, [69]), (6, [69, 65, 66]), (7, [69, 65]), (8, [69])] : List (Int × Str))).getD []) BH (h.qE 10 rfl) _ rfl) fun w k26 => ?_))))))))))
 replace h := h.grow k26
 refine kr ((((!(lk x3.kind ([(1, [78, 69]), (2, [78, 69, 70]), (3, [69]), (4, []), (5, [69]), (6, [69, 65, 66]), (7, [69, 65]), (8, [69])] : List (Int × Str))).isSome) || (decide ((x3.n : Int) ≠ 0) && (!(bD ((lk x3.kind ([(1, [78, 69]), (2, [78, 69, 70]), (3, [69]), (4, []), (5, [69]), (6, [69, 65, 66]), (7, [69, 65]), (8, [69])] : List (Int × Str))).getD []))))) || (decide ((0 : Int) < (x3.e.length : Int)) && (!(bL ((lk x3.kind ([(1, [78, 69]), (2, [78, 69, 70]), (3, [69]), (4, []), (5, [69]), (6, [69, 65, 66]), (7, [69, 65]), (8, [69])] : List (Int × Str))).getD []))))) == false) rfl rfl (fun q => iq (dn q)) (aD rfl rfl (fun q => fZ (dn q) (OZ q) lV) (ae (gu rfl rfl lV) (ae (au (v := (.bool (((((!(lk x3.kind ([(1, [78, 69]), (2, [78, 69, 70]), (3, [69]), (4, []), (5, [69]), (6, [69, 65, 66]), (7, [69, 65]), (8, [69])] : List (Int × Str))).isSome) || (decide ((x3.n : Int) ≠ 0) && (!(bD ((lk x3.kind ([(1, [78, 69]), (2, [78, 69, 70]), (3, [69]), (4, []), (5, [69]), (6, [69, 65, 66]), (7, [69, 65]), (8, [69])] : List (Int × Str))).getD []))))) || (decide ((0 : Int) < (x3.e.length : Int)) && (!(bL ((lk x3.kind ([(1, [78, 69]), (2, [78, 69, 70]), (3, [69]), (4, []), (5, [69]), (6, [69, 65, 66]), (7, [69, 65]), (8, [69])] : List (Int × Str))).getD []))))) || (decide ((0 : Int) < (x3.f.length : Int)) && (!(cz ((lk x3.kind ([(1, [78, 69]), (2, [78, 69, 70]), (3, [69]), (4, []), (5, [69]), (6, [69, 65, 66]), (7, [69, 65]), (8, [69])] : List (Int × Str))).getD [])))))))) rfl) (aD rfl rfl (fun q => ak xW rfl) (aD rfl rfl (fun q => aF h 8 rfl oD (dn q) rfl) (aD rfl rfl (fun q => bY kC (dn q) (h.oZ 6 rfl)) (aD rfl rfl (fun q => jH (dn q) rfl) (aD rfl rfl (fun q => au (v := (.bool (decide ((0 : Int) < (x3.a.length : Int))))) (dn q)) (kr (((((!(lk x3.kind ([(1, [78, 69]), (2, [78, 69, 70]), (3, [69]), (4, []), (5, [69]), (6, [69, 65, 66]), (7, [69, 65]), (8, [69])] : List (Int × Str))).isSome) || (decide ((x3.n : Int) ≠ 0) && (!(bD ((lk x3.kind ([(1, [78, 69]), (2, [78, 69, 70]), (3, [69]), (4, []), (5, [69]), (6, [69, 65, 66]), (7, [69, 65]), (8, [69])] : List (Int × Str))).getD []))))) || (decide ((0 : Int) < (x3.e.length : Int)) && (!(bL ((lk x3.kind ([(1, [78, 69]), (2, [78, 69, 70]), (3, [69]), (4, []), (5, [69]), (6, [69, 65, 66]), (7, [69, 65]), (8, [69])] : List (Int × Str))).getD []))))) || (decide ((0 : Int) < (x3.f.length : Int)) && (!(cz ((lk x3.kind ([(1, [78, 69]), (2, [78, 69, 70]), (3, [69]), (4, []), (5, [69]), (6, [69, 65, 66]), (7, [69, 65]), (8, [69])] : List (Int × Str))).getD []))))) == false) rfl rfl (fun q => au (v := (.func (.func 144) #[] #[(.pointer (some ⟨BH, 0, none⟩))])) rfl) (AR [(.pointer (some ⟨BH, 0, none⟩))] (((((!(lk x3.kind ([(1, [78, 69]), (2, [78, 69, 70]), (3, [69]), (4, []), (5, [69]), (6, [69, 65, 66]), (7, [69, 65]), (8, [69])] : List (Int × Str))).isSome) || (decide ((x3.n : Int) ≠ 0) && (!(bD ((lk x3.kind ([(1, [78, 69]), (2, [78, 69, 70]), (3, [69]), (4, []), (5, [69]), (6, [69, 65, 66]), (7, [69, 65]), (8, [69])] : List (Int × Str))).getD []))))) || (decide ((0 : Int) < (x3.e.length : Int)) && (!(bL ((lk x3.kind ([(1, [78, 69]), (2, [78, 69, 70]), (3, [69]), (4, []), (5, [69]), (6, [69, 65, 66]), (7, [69, 65]), (8, [69])] : List (Int × Str))).getD []))))) || (decide ((0 : Int) < (x3.f.length : Int)) && (!(cz ((lk x3.kind ([(1, [78, 69]), (2, [78, 69, 70]), (3, [69]), (4, []), (5, [69]), (6, [69, 65, 66]), (7, [69, 65]), (8, [69])] : List (Int × Str))).getD []))))) == false) rfl rfl zb (fun q => (dn q)) (fun q => lD rfl rfl) (uG _ _ h.lt ((lk x3.kind ([(1, [78, 69]), (2, [78, 69, 70]), (3, [69]), (4, []), (5, [69]), (6, [69, 65, 66]), (7, [69, 65]), (8, [69])] : List (Int × Str))).getD []) BH (h.qE 10 rfl) _ rfl) fun w k27 => ?_))))))))))
 replace h := h.grow k27
 refine kr (((((!(lk x3.kind ([(1, [78, 69]), (2, [78, 69, 70]), (3, [69]), (4, []), (5, [69]), (6, [69, 65, 66]), (7, [69, 65]), (8, [69])] : List (Int × Str))).isSome) || (decide ((x3.n : Int) ≠ 0) && (!(bD ((lk x3.kind ([(1, [78, 69]), (2, [78, 69, 70]), (3, [69]), (4, []), (5, [69]), (6, [69, 65, 66]), (7, [69, 65]), (8, [69])] : List (Int × Str))).getD []))))) || (decide ((0 : Int) < (x3.e.length : Int)) && (!(bL ((lk x3.kind ([(1, [78, 69]), (2, [78, 69, 70]), (3, [69]), (4, []), (5, [69]), (6, [69, 65, 66]), (7, [69, 65]), (8, [69])] : List (Int × Str))).getD []))))) || (decide ((0 : Int) < (x3.f.length : Int)) && (!(cz ((lk x3.kind ([(1, [78, 69]), (2, [78, 69, 70]), (3, [69]), (4, []), (5, [69]), (6, [69, 65, 66]), (7, [69, 65]), (8, [69])] : List (Int × Str))).getD []))))) == false) rfl rfl (fun q => iq (dn q)) (aD rfl rfl (fun q => fZ (dn q) (OZ q) lV) (ae (gu rfl rfl lV) (ae (au (v := (.bool ((((((!(lk x3.kind ([(1, [78, 69]), (2, [78, 69, 70]), (3, [69]), (4, []), (5, [69]), (6, [69, 65, 66]), (7, [69, 65]), (8, [69])] : List (Int × Str))).isSome) || (decide ((x3.n : Int) ≠ 0) && (!(bD ((lk x3.kind ([(1, [78, 69]), (2, [78, 69, 70]), (3, [69]), (4, []), (5, [69]), (6, [69, 65, 66]), (7, [69, 65]), (8, [69])] : List (Int × Str))).getD []))))) || (decide ((0 : Int) < (x3.e.length : Int)) && (!(bL ((lk x3.kind ([(1, [78, 69]), (2, [78, 69, 70]), (3, [69]), (4, []), (5, [69]), (6, [69, 65, 66]), (7, [69, 65]), (8, [69])] : List (Int × Str))).getD []))))) || (decide ((0 : Int) < (x3.f.length : Int)) && (!(cz ((lk x3.kind ([(1, [78, 69]), (2, [78, 69, 70]), (3, [69]), (4, []), (5, [69]), (6, [69, 65, 66]), (7, [69, 65]), (8, [69])] : List (Int × Str))).getD []))))) || (decide ((0 : Int) < (x3.a.length : Int)) && (!(fe ((lk x3.kind ([(1, [78, 69]), (2, [78, 69, 70]), (3, [69]), (4, []), (5, [69]), (6, [69, 65, 66]), (7, [69, 65]), (8, [69])] : List (Int × Str))).getD [])))))))) rfl) (aD rfl rfl (fun q => ak xX rfl) (aD rfl rfl (fun q => aF h 8 rfl oD (dn q) rfl) (aD rfl rfl (fun q => bY kC (dn q) (h.oZ 7 rfl)) (aD rfl rfl (fun q => jH (dn q) rfl) (aD rfl rfl (fun q => au (v := (.bool (decide ((0 : Int) < (x3.b.length : Int))))) (dn q)) (kr ((((((!(lk x3.kind ([(1, [78, 69]), (2, [78, 69, 70]), (3, [69]), (4, []), (5, [69]), (6, [69, 65, 66]), (7, [69, 65]), (8, [69])] : List (Int × Str))).isSome) || (decide ((x3.n : Int) ≠ 0) && (!(bD ((lk x3.kind ([(1, [78, 69]), (2, [78, 69, 70]), (3, [69]), (4, []), (5, [69]), (6, [69, 65, 66]), (7, [69, 65]), (8, [69])] : List (Int × Str))).getD []))))) || (decide ((0 : Int) < (x3.e.length : Int)) && (!(bL ((lk x3.kind ([(1, [78, 69]), (2, [78, 69, 70]), (3, [69]), (4, []), (5, [69]), (6, [69, 65, 66]), (7, [69, 65]), (8, [69])] : List (Int × Str))).getD []))))) || (decide ((0 : Int) < (x3.f.length : Int)) && (!(cz ((lk x3.kind ([(1, [78, 69]), (2, [78, 69, 70]), (3, [69]), (4, []), (5, [69]), (6, [69, 65, 66]), (7, [69, 65]), (8, [69])] : List (Int × Str))).getD []))))) || (decide ((0 : Int) < (x3.a.length : Int)) && (!(fe ((lk x3.kind ([(1, [78, 69]), (2, [78, 69, 70]), (3, [69]), (4, []), (5, [69]), (6, [69, 65, 66]), (7, [69, 65]), (8, [69])] : List (Int × Str))).getD []))))) == false) rfl rfl (fun q => au (v := (.func (.func 144) #[] #[(.pointer (some ⟨BH, 0, none⟩))])) rfl) (AR [(.pointer (some ⟨BH, 0, none⟩))] ((((((!(lk x3.kind ([(1, [78, 69]), (2, [78, 69, 70]), (3, [69]), (4, []), (5, [69]), (6, [69, 65, 66]), (7, [69, 65]), (8, [69])] : List (Int × Str))).isSome) || (decide ((x3.n : Int) ≠ 0) && (!(bD ((lk x3.kind ([(1, [78, 69]), (2, [78, 69, 70]), (3, [69]), (4, []), (5, [69]), (6, [69, 65, 66]), (7, [69, 65]), (8, [69])] : List (Int × Str))).getD []))))) || (decide ((0 : Int) < (x3.e.length : Int)) && (!(bL ((lk x3.kind ([(1, [78, 69]), (2, [78, 69, 70]), (3, [69]), (4, []), (5, [69]), (6, [69, 65, 66]), (7, [69, 65]), (8, [69])] : List (Int × Str))).getD []))))) || (decide ((0 : Int) < (x3.f.length : Int)) && (!(cz ((lk x3.kind ([(1, [78, 69]), (2, [78, 69, 70]), (3, [69]), (4, []), (5, [69]), (6, [69, 65, 66]), (7, [69, 65]), (8, [69])] : List (Int × Str))).getD []))))) || (decide ((0 : Int) < (x3.a.length : Int)) && (!(fe ((lk x3.kind ([(1, [78, 69]), (2, [78, 69, 70]), (3, [69]), (4, []), (5, [69]), (6, [69, 65, 66]), (7, [69, 65]), (8, [69])] : List (Int × Str))).getD []))))) == false) rfl rfl zb (fun q => (dn q)) (fun q => lD rfl rfl) (uH _ _ h.lt ((lk x3.kind ([(1, [78, 69]), (2, [78, 69, 70]), (3, [69]), (4, []), (5, [69]), (6, [69, 65, 66]), (7, [69, 65]), (8, [69])] : List (Int × Str))).getD []) BH (h.qE 10 rfl) _ rfl) fun w k28 => ?_))))))))))
 replace h := h.grow k28
 refine kr ((((((!(lk x3.kind ([(1, [78, 69]), (2, [78, 69, 70]), (3, [69]), (4, []), (5, [69]), (6, [69, 65, 66]), (7, [69, 65]), (8, [69])] : List (Int × Str))).isSome) || (decide ((x3.n : Int) ≠ 0) && (!(bD ((lk x3.kind ([(1, [78, 69]), (2, [78, 69, 70]), (3, [69]), (4, []), (5, [69]), (6, [69, 65, 66]), (7, [69, 65]), (8, [69])] : List (Int × Str))).getD []))))) || (decide ((0 : Int) < (x3.e.length : Int)) && (!(bL ((lk x3.kind ([(1, [78, 69]), (2, [78, 69, 70]), (3, [69]), (4, []), (5, [69]), (6, [69, 65, 66]), (7, [69, 65]), (8, [69])] : List (Int × Str))).getD []))))) || (decide ((0 : Int) < (x3.f.length : Int)) && (!(cz ((lk x3.kind ([(1, [78, 69]), (2, [78, 69, 70]), (3, [69]), (4, []), (5, [69]), (6, [69, 65, 66]), (7, [69, 65]), (8, [69])] : List (Int × Str))).getD []))))) || (decide ((0 : Int) < (x3.a.length : Int)) && (!(fe ((lk x3.kind ([(1, [78, 69]), (2, [78, 69, 70]), (3, [69]), (4, []), (5, [69]), (6, [69, 65, 66]), (7, [69, 65]), (8, [69])] : List (Int × Str))).getD []))))) == false) rfl rfl (fun q => iq (dn q)) (aD rfl rfl (fun q => fZ (dn q) (OZ q) lV) (ae (gu rfl rfl lV) (ah (aa (aI hs rfl (fun c29 hs => ?_) (fun c29 hs => ?_))))))
 refine ai (ag (ae (aj (v := (.int .i64 (4))) rfl) (ah (aa (aK (aC (aH (aC (aC (aH (aC (cK (v := (.int .i64 (4))) Tryz.results129 rfl ?_))))))))))))
 obtain rfl := Option.some.inj hs
 exact ⟨h.grown, rfl⟩
 refine aG (aa (ai (ai (ag (ae (ak jB rfl) (ae (aF h 8 rfl bz rfl rfl) (ae (bI rfl rfl) (ae (au (v := (.bool (decide ((x3.kind : Int) = 1)))) rfl) (aD rfl rfl (fun q => ak uB rfl) (aD rfl rfl (fun q => aF h 8 rfl bz (dn q) rfl) (aD rfl rfl (fun q => au (v := (.int .i64 (c))) rfl) (KN rfl rfl MK rfl (fun q => lD (dn q) (lD (dn q) rfl)) (qI _ _ h.lt x3.n c _ rfl) fun w k30 => ?_))))))))))))
 replace h := h.grow k30
 refine aD rfl rfl (fun q => iq (dn q)) (ae (fZ rfl rfl lV) (ae (au (v := (.bool ((decide ((x3.kind : Int) = 1) && (!(aY x3.n c)))))) rfl) (aD rfl rfl (fun q => ak jB rfl) (aD rfl rfl (fun q => aF h 8 rfl bz (dn q) rfl) (aD rfl rfl (fun q => bI (dn q) rfl) (aD rfl rfl (fun q => au (v := (.bool (decide ((x3.kind : Int) = 2)))) (dn q)) (kr ((decide ((x3.kind : Int) = 1) && (!(aY x3.n c))) == false) rfl rfl (fun q => ak uB rfl) (kr ((decide ((x3.kind : Int) = 1) && (!(aY x3.n c))) == false) rfl rfl (fun q => aF h 8 rfl bz (dn q) rfl) (Oc ((decide ((x3.kind : Int) = 1) && (!(aY x3.n c))) == false) rfl rfl xx rfl (fun q => lD (dn q) (lD rfl (lD rfl rfl))) (gD _ _ h.lt x3.n 0 3 _ rfl) fun w k31 => ?_)))))))))
 replace h := h.grow k31
 refine kr ((decide ((x3.kind : Int) = 1) && (!(aY x3.n c))) == false) rfl rfl (fun q => iq (dn q)) (aD rfl rfl (fun q => fZ (dn q) (OZ q) lV) (ae (gu rfl rfl lV) (ah (aa (aI hs rfl (fun c32 hs => ?_) (fun c32 hs => ?_))))))
 refine ai (ag (ae (aj (v := (.int .i64 (3))) rfl) (ah (aa (aK (aC (aH (aC (aC (aH (aC (cK (v := (.int .i64 (3))) Tryz.results129 rfl ?_))))))))))))
 obtain rfl := Option.some.inj hs
 exact ⟨h.grown, rfl⟩
 refine aG (aa (ai (ag (ae (aj (v := (.int .i64 (0))) rfl) (ah (aa (bV (σ := Int) (inl [12, 105, 106, 107, 108, 109, 110, 111]) (fun yg => [(12, (.int .i64 (yg)))]) (fun yg w => SH w0 M BE w (hset [(1, .sr dY va a), (2, .sr iH vb b), (4, .rd jY Ml x3.e), (5, .rd jY FN x3.f), (6, .rd dY C9 x3.a), (7, .rd dY K4 x3.b), (8, .blk Ig [(.int .i64 (x3.kind)), (.int .i64 (x3.n)), Ml, FN, C9, K4]), (10, .blk BH [(bu ((lk x3.kind ([(1, [78, 69]), (2, [78, 69, 70]), (3, [69]), (4, []), (5, [69]), (6, [69, 65, 66]), (7, [69, 65]), (8, [69])] : List (Int × Str))).getD []))])]) ∧ kP N F0 x3 b c a Ie yg = some r) ?_ ?_)))))))
 rintro yg w dz ⟨h, hs⟩
 refine bV (σ := Int) (inl [12, 112, 113, 114, 115, 116, 117, 118, 119, 120, 121, 122]) (fun x34 => [(12, (.int .i64 (x34))), (115, (gv (decide ((yg : Int) = 0) == true) (.func (.func 144) #[] #[(.pointer (some ⟨BH, 0, none⟩))])))]) (fun x34 w => SH w0 M BE w (hset [(1, .sr dY va a), (2, .sr iH vb b), (4, .rd jY Ml x3.e), (5, .rd jY FN x3.f), (6, .rd dY C9 x3.a), (7, .rd dY K4 x3.b), (8, .blk Ig [(.int .i64 (x3.kind)), (.int .i64 (x3.n)), Ml, FN, C9, K4]), (10, .blk BH [(bu ((lk x3.kind ([(1, [78, 69]), (2, [78, 69, 70]), (3, [69]), (4, []), (5, [69]), (6, [69, 65, 66]), (7, [69, 65]), (8, [69])] : List (Int × Str))).getD []))])]) ∧ kN F0 x3 a b c Ie x34 = some r) ?_ ?_
 rintro x34 w dz ⟨h, hs⟩
 refine bV (σ := Int) (inl [12, 123, 124, 125, 126, 127, 128, 129]) (fun xL => [(12, (.int .i64 (xL)))]) (fun xL w => SH w0 M BE w (hset [(1, .sr dY va a), (2, .sr iH vb b), (4, .rd jY Ml x3.e), (5, .rd jY FN x3.f), (6, .rd dY C9 x3.a), (7, .rd dY K4 x3.b), (8, .blk Ig [(.int .i64 (x3.kind)), (.int .i64 (x3.n)), Ml, FN, C9, K4]), (10, .blk BH [(bu ((lk x3.kind ([(1, [78, 69]), (2, [78, 69, 70]), (3, [69]), (4, []), (5, [69]), (6, [69, 65, 66]), (7, [69, 65]), (8, [69])] : List (Int × Str))).getD []))])]) ∧ kM F0 x3 b c Ie xL = some r) ?_ ?_
 rintro xL w dz ⟨h, hs⟩
 refine bV (σ := Int) (inl [12, 130, 131, 132, 133, 134, 135, 136]) (fun sH => [(12, (.int .i64 (sH)))]) (fun sH w => SH w0 M BE w (hset [(1, .sr dY va a), (2, .sr iH vb b), (10, .blk BH [(bu ((lk x3.kind ([(1, [78, 69]), (2, [78, 69, 70]), (3, [69]), (4, []), (5, [69]), (6, [69, 65, 66]), (7, [69, 65]), (8, [69])] : List (Int × Str))).getD []))])]) ∧ kL Ie sH = some r) ?_ ?_
 rintro sH w dz ⟨h, hs⟩
 refine ai (ag (ae (au (v := (.int .i64 (sH))) rfl) (ae (gq rfl rfl) (ah (aa (aI hs rfl (fun c37 hs => ?_) (fun c37 hs => ?_)))))))
 refine ai (ag (ae (au (v := (.int .i64 (sH))) rfl) (ae (aj (v := (.int .i64 (sH))) rfl) (ah (aa (aK (aH (aC (aC (aH (aC (cK (v := (.int .i64 (sH))) Tryz.results129 rfl ?_))))))))))))
 obtain rfl := Option.some.inj hs
 exact ⟨h.grown, rfl⟩
 refine aG (aA (aa (ag (ae (dw rfl rfl e7r) (ae (au (v := (.int .i64 ((i2 + 1)))) rfl) (ah (az ?_)))))))
 subst Xv
 exact jV ⟨k1 + 1, i2 + 1⟩ ⟨h.cn _, by omega, hs⟩ (by have := of_decide_eq_true e6; dsimp only; omega)
 refine ai (ag (ae (au (v := (.int .i64 (xL))) rfl) (ae (bI rfl rfl) (ah (aa (aI hs rfl (fun c38 hs => ?_) (fun c38 hs => ?_)))))))
 refine ag (ae (ak xX rfl) (ae (aF h 8 rfl oD rfl rfl) (ae (au (v := vb) rfl) (ae (au (v := (.int .i64 (c))) rfl) ?_))))
 obtain ⟨y39, e40, hs⟩ := aQ hs
 refine bA JX rfl rfl (ih _ _ h.lt K4 x3.b (h.oZ 7 rfl) vb b (h.je 2 rfl) c _ e40) ?_
 rintro _ w ⟨k41, rfl⟩
 refine ⟨_, rfl, ?_⟩
 replace h := h.grow k41
 refine ae (aj (v := (.int .i64 (y39))) rfl) (ah (az ?_))
 exact bQ y39 ⟨h.cn _, hs⟩
 refine aG (az ?_)
 exact bQ xL ⟨h.cn _, hs⟩
 refine ai (ag (ae (au (v := (.int .i64 (x34))) rfl) (ae (bI rfl rfl) (ah (aa (aI hs rfl (fun c42 hs => ?_) (fun c42 hs => ?_)))))))
 refine ag (ae (ak xW rfl) (ae (aF h 8 rfl oD rfl rfl) (ae (au (v := vb) rfl) (ae (au (v := (.int .i64 (c))) rfl) ?_))))
 obtain ⟨zf, e44, hs⟩ := aQ hs
 refine bA JX rfl rfl (ih _ _ h.lt C9 x3.a (h.oZ 6 rfl) vb b (h.je 2 rfl) c _ e44) ?_
 rintro _ w ⟨k45, rfl⟩
 refine ⟨_, rfl, ?_⟩
 replace h := h.grow k45
 refine ae (aj (v := (.int .i64 (zf))) rfl) (ah (az ?_))
 exact bQ zf ⟨h.cn _, hs⟩
 refine aG (az ?_)
 exact bQ x34 ⟨h.cn _, hs⟩
 refine ai (ag (ae (au (v := (.int .i64 (yg))) rfl) (ae (bI rfl rfl) (ae (au (v := (.bool (decide ((yg : Int) = 0)))) rfl) (aD rfl rfl (fun q => au (v := (.func (.func 144) #[] #[(.pointer (some ⟨BH, 0, none⟩))])) rfl) (F3 [(.pointer (some ⟨BH, 0, none⟩))] rfl rfl zb (fun q => (dn q)) (fun q => lD rfl rfl) (nD _ _ h.lt ((lk x3.kind ([(1, [78, 69]), (2, [78, 69, 70]), (3, [69]), (4, []), (5, [69]), (6, [69, 65, 66]), (7, [69, 65]), (8, [69])] : List (Int × Str))).getD []) BH (h.qE 10 rfl) _ rfl) fun w k46 => ?_))))))
 replace h := h.grow k46
 refine ae (fZ rfl rfl lV) (ah (aa (aI hs rfl (fun Zt hs => ?_) (fun Zt hs => ?_))))
 refine ag (ae (ak Ac rfl) (ae (aF h 8 rfl wD rfl rfl) (ae (au (v := vb) rfl) (ae (au (v := (.int .i64 (c))) rfl) ?_))))
 obtain ⟨yO, e49, hs⟩ := aQ hs
 refine bA Ox rfl rfl (rH N _ _ h.lt FN x3.f (h.oZ 5 rfl) vb b (h.je 2 rfl) c _ e49) ?_
 rintro _ w ⟨k50, rfl⟩
 refine ⟨_, rfl, ?_⟩
 replace h := h.grow k50
 refine ae (aj (v := (.int .i64 (yO))) rfl) (ah (az ?_))
 exact bQ yO ⟨h.cn _, hs⟩
 refine aG (az ?_)
 exact bQ yg ⟨h.cn _, hs⟩
 refine ai (ag (ae (au (v := (.func (.func 144) #[] #[(.pointer (some ⟨BH, 0, none⟩))])) rfl) (lX (args := [(bu [69]), (.pointer (some ⟨BH, 0, none⟩))]) zb rfl rfl (aS (args := [(bu [69]), (.pointer (some ⟨BH, 0, none⟩))]) Tryz.func144 rfl Tryz.ntmps144 (Nat.le_of_ble_eq_true rfl) (ai (ag (ae (aj (v := (.bool (false))) rfl) (ah (aa (ai (ag (ae (aF h 10 rfl xZ rfl rfl) (ae (au (v := (bu [69])) rfl) (bA A8 rfl rfl (jw _ _ h.lt ((lk x3.kind ([(1, [78, 69]), (2, [78, 69, 70]), (3, [69]), (4, []), (5, [69]), (6, [69, 65, 66]), (7, [69, 65]), (8, [69])] : List (Int × Str))).getD []) 69 _ rfl) ?_))))))))))))))
 rintro _ w ⟨Zu, rfl⟩
 refine ⟨_, rfl, ?_⟩
 replace h := h.grow Zu
 refine ae (aj (v := (.bool ((hasB ((lk x3.kind ([(1, [78, 69]), (2, [78, 69, 70]), (3, [69]), (4, []), (5, [69]), (6, [69, 65, 66]), (7, [69, 65]), (8, [69])] : List (Int × Str))).getD []) 69)))) rfl) (ah (aa (aK (cK (v := (.bool ((hasB ((lk x3.kind ([(1, [78, 69]), (2, [78, 69, 70]), (3, [69]), (4, []), (5, [69]), (6, [69, 65, 66]), (7, [69, 65]), (8, [69])] : List (Int × Str))).getD []) 69)))) Tryz.results144 rfl (⟨_, rfl, ?_⟩)))))
 refine ah (aa (aI hs rfl (fun Bv hs => ?_) (fun Bv hs => ?_)))
 refine ag (ae (ak xV rfl) (ae (aF h 8 rfl wD rfl rfl) (ae (au (v := vb) rfl) (ae (au (v := (.int .i64 (c))) rfl) ?_))))
 obtain ⟨zH, e54, hs⟩ := aQ hs
 refine bA Ox rfl rfl (rH N _ _ h.lt Ml x3.e (h.oZ 4 rfl) vb b (h.je 2 rfl) c _ e54) ?_
 rintro _ w ⟨Zv, rfl⟩
 refine ⟨_, rfl, ?_⟩
 replace h := h.grow Zv
 refine ae (aj (v := (.int .i64 (zH))) rfl) (ah (az ?_))
 exact bQ zH ⟨h.cn _, hs⟩
 refine aG (az ?_)
 exact bQ 0 ⟨h.cn _, hs⟩
 rw [gM (hik ▸ e6), gU] at hs
 refine df (aN (aN (bE (aa (ai (ag (ae (aj (v := (.int .i64 (0))) rfl) (ah (aa (aK (cK (v := (.int .i64 (0))) Tryz.results129 rfl ?_)))))))))))
 obtain rfl := Option.some.inj hs
 exact ⟨h.grown, rfl⟩
def kS (N : Nat) (a : List eO) (xg : eO) (s : Unit) (yh : Unit → Option Int) : Option Int :=
  (l5 N xg.body 4).bind fun lG => bif (!lG.2) then some 2 else (iU N xg.body a xg.locals).bind fun V4 => bif decide ((V4 : Int) ≠ 0) then some V4 else yh ()
def kT (s : Unit) : Option Int :=
  some 0
def kU (i4 : Int) (x5 : eO) (s : Unit) (nx7 : Unit → Option Int) : Option Int :=
  bif (((!(bB x5.params 0 3)) || (!(bB x5.locals x5.params 6))) || (decide ((i4 : Int) = 0) && decide ((x5.params : Int) ≠ 0))) then some 3 else nx7 ()
def kV (N : Nat) (a : List eO) (s : Unit) : Option Int :=
  each (kS N a) kT a ()
def rJ (N : Nat) (a : List eO) : Option Int :=
  bif (!(bB (a.length : Int) 1 4)) then some 2 else fT kU (kV N a) 0 a ()
theorem wU (N : Nat) (w0 : World) (M : BS) (hM : ∀ b, M b → b < w0.heap.size) (va : Value) (a : List eO) (ha : gp iH w0 BE M va a) (r : Int) (hs : rJ N a = some r) :
    Calls Tryz.prog 112 #[va] w0 (fun e w' => Grow w0 w' ∧ e = .returned (.int .i64 r)) := by
 refine aS (args := [va]) Tryz.func112 rfl Tryz.ntmps112 (Nat.le_of_ble_eq_true rfl) ?_
 have h := SH.init hM
 replace h := h.il 1 ha bR
 have u7 := ha.cO
 refine ai (ag (ae (aj (v := (.int .i64 (0))) rfl) (ah (aa (ai (ai (ag (ae (au (v := va) rfl) (ae (bY iy rfl (h.je 1 rfl)) (bA xx rfl rfl (gD _ _ h.lt (a.length : Int) 1 4 _ rfl) ?_))))))))))
 rintro _ w ⟨k1, rfl⟩
 refine ⟨_, rfl, ?_⟩
 replace h := h.grow k1
 refine ae (iq rfl) (ah (aa (aI hs rfl (fun c2 hs => ?_) (fun c2 hs => ?_))))
 refine ai (ag (ae (aj (v := (.int .i64 (2))) rfl) (ah (aa (aK (aC (cK (v := (.int .i64 (2))) Tryz.results112 rfl ?_)))))))
 obtain rfl := Option.some.inj hs
 exact ⟨h.grown, rfl⟩
 refine aG (aa (ai (ai (ag (ae (au (v := va) rfl) (ae (bY iy rfl (h.je 1 rfl)) (ae (au (v := (.int .i64 (0))) rfl) (ah (aa (aV (gT (σ := Nat × Int) (inl [2, 3, 4, 16, 17, 18, 19, 20, 21, 22, 23, 24, 25, 26, 27, 28, 29, 30, 31, 32, 33, 34, 35, 36, 37, 38, 39, 40, 41, 42]) (fun ⟨k3, i4⟩ => [(16, (.int .i64 (i4)))]) (fun ⟨k3, i4⟩ w => SH w0 M BE w (hset [(1, .sr iH va a)]) ∧ i4 = (k3 : Int) ∧ fT kU (kV N a) i4 (a.drop k3) () = some r) (fun ⟨k3, i4⟩ => a.length - k3) ⟨0, 0⟩ ⟨rfl, trivial⟩ ?_ ?_)))))))))))
 exact ⟨h.cn _, rfl, hs⟩
 rintro ⟨k3, i4⟩ w dz ⟨h, hik, hs⟩
 refine ai (ag ?_)
 refine ae (dN rfl rfl) (ah (aa ?_))
 refine ai (iJ rfl (fun e8 => ?_) (fun e8 => ?_))
 refine aG (aa ?_)
 obtain ⟨x5, e9a, e9b⟩ := gL (hik ▸ e8)
 rw [e9b, jr] at hs
 generalize hnx7 : fT kU (kV N a) (i4 + 1) (a.drop (k3 + 1)) = nx7 at hs
 have e9r := gP ((h.je 1 rfl)).cO hik e8
 refine ai (aV (ai (ag (ae (au (v := (.int .i64 (i4))) rfl) ?_))))
 obtain ⟨b11, o12, Zw, h, r14, i10⟩ := h.Bt 1 2 rfl iy rfl (jl hik) (gN hik e9a)
 obtain ⟨FN, rfl, g16⟩ := rG r14
 replace h := h.cZ 3 g16.up
 refine ae (i10 _ _ _ _ _ _ _ _ _ rfl rfl) (ae (jW (k := 0) (vs := [(.int .i64 (x5.params)), (.int .i64 (x5.locals)), FN]) h 2 rfl lF rfl rfl rfl (Nat.le_of_ble_eq_true rfl)) (bT h 4 lF fun w b17 h => ae (aj (v := (.int .i64 (i4))) rfl) (dm (vs := [(.int .i64 (x5.params)), (.int .i64 (x5.locals)), FN]) h 4 [(.int .i64 (x5.params)), (.int .i64 (x5.locals)), FN] rfl lF rfl rfl rfl rfl rfl (ax rfl (ax rfl (ax (h.gB 3 rfl).one aZ))) fun w h => ah (aa (ai (ag (ae (ak uA rfl) (ae (aF h 4 rfl bz rfl rfl) (bA xx rfl rfl (gD _ _ h.lt x5.params 0 3 _ rfl) ?_)))))))))
 rintro _ w ⟨k18, rfl⟩
 refine ⟨_, rfl, ?_⟩
 replace h := h.grow k18
 refine ae (iq rfl) (ae (au (v := (.bool ((!(bB x5.params 0 3))))) rfl) (aD rfl rfl (fun q => ak xU rfl) (aD rfl rfl (fun q => aF h 4 rfl bz (dn q) rfl) (aD rfl rfl (fun q => ak uA rfl) (aD rfl rfl (fun q => aF h 4 rfl bz (dn q) rfl) (KN rfl rfl xx rfl (fun q => lD (dn q) (lD (dn q) (lD rfl rfl))) (gD _ _ h.lt x5.locals x5.params 6 _ rfl) fun w k19 => ?_))))))
 replace h := h.grow k19
 refine aD rfl rfl (fun q => iq (dn q)) (ae (gu rfl rfl lV) (ae (au (v := (.bool (((!(bB x5.params 0 3)) || (!(bB x5.locals x5.params 6)))))) rfl) (aD rfl rfl (fun q => au (v := (.int .i64 (i4))) rfl) (aD rfl rfl (fun q => bI (dn q) rfl) (aD rfl rfl (fun q => au (v := (.bool (decide ((i4 : Int) = 0)))) (dn q)) (kr (((!(bB x5.params 0 3)) || (!(bB x5.locals x5.params 6))) == false) rfl rfl (fun q => ak uA rfl) (kr (((!(bB x5.params 0 3)) || (!(bB x5.locals x5.params 6))) == false) rfl rfl (fun q => aF h 4 rfl bz (dn q) rfl) (kr (((!(bB x5.params 0 3)) || (!(bB x5.locals x5.params 6))) == false) rfl rfl (fun q => gq (dn q) rfl) (aD rfl rfl (fun q => fZ (dn q) (OZ q) lV) (ae (gu rfl rfl lV) (ah (aa (aI hs rfl (fun c20 hs => ?_) (fun c20 hs => ?_))))))))))))))
 refine ai (ag (ae (aj (v := (.int .i64 (3))) rfl) (ah (aa (aK (aH (aC (aC (aH (aC (cK (v := (.int .i64 (3))) Tryz.results112 rfl ?_)))))))))))
 obtain rfl := Option.some.inj hs
 exact ⟨h.grown, rfl⟩
 refine aG (aA (aa (ag (ae (dw rfl rfl e9r) (ae (au (v := (.int .i64 ((i4 + 1)))) rfl) (ah (az ?_)))))))
 subst hnx7
 exact jV ⟨k3 + 1, i4 + 1⟩ ⟨h.cn _, by omega, hs⟩ (by have := of_decide_eq_true e8; dsimp only; omega)
 rw [gM (hik ▸ e8), ql] at hs
 refine df (aN (aN (bE (aa (ai (ai (ag (ae (au (v := va) rfl) (ae (bY iy rfl (h.je 1 rfl)) (ae (au (v := (.int .i64 (0))) rfl) (ah (aa (aV (gT (σ := Nat × Int) (inl [2, 6, 7, 8, 9, 45, 46, 47, 48, 49, 50, 51, 52, 53, 54, 55, 56, 57, 58, 59, 60, 61, 62, 63, 64, 65, 66]) (fun ⟨k21, i22⟩ => [(45, (.int .i64 (i22)))]) (fun ⟨k21, i22⟩ w => SH w0 M BE w (hset [(1, .sr iH va a)]) ∧ i22 = (k21 : Int) ∧ each (kS N a) kT (a.drop k21) () = some r) (fun ⟨k21, i22⟩ => a.length - k21) ⟨0, 0⟩ ⟨rfl, trivial⟩ ?_ ?_))))))))))))))
 exact ⟨h.cn _, rfl, hs⟩
 rintro ⟨k21, i22⟩ w dz ⟨h, hik, hs⟩
 refine ai (ag ?_)
 refine ae (dN rfl rfl) (ah (aa ?_))
 refine ai (iJ rfl (fun e26 => ?_) (fun e26 => ?_))
 refine aG (aa ?_)
 obtain ⟨xg, e27a, e27b⟩ := gL (hik ▸ e26)
 rw [e27b, dO] at hs
 generalize RS : each (kS N a) kT (a.drop (k21 + 1)) = yh at hs
 have e27r := gP ((h.je 1 rfl)).cO hik e26
 refine ai (aV (ai (ag ?_)))
 obtain ⟨b29, o30, cs31, h, r32, i28⟩ := h.Bt 1 5 rfl iy rfl (jl hik) (gN hik e27a)
 obtain ⟨u33, rfl, g34⟩ := rG r32
 replace h := h.cZ 6 g34.up
 refine ae (i28 _ _ _ _ _ _ _ _ _ rfl rfl) (ae (jW (k := 0) (vs := [(.int .i64 (xg.params)), (.int .i64 (xg.locals)), u33]) h 5 rfl lF rfl rfl rfl (Nat.le_of_ble_eq_true rfl)) (bT h 7 lF fun w b35 h => dm (vs := [(.int .i64 (xg.params)), (.int .i64 (xg.locals)), u33]) h 7 [(.int .i64 (xg.params)), (.int .i64 (xg.locals)), u33] rfl lF rfl rfl rfl rfl rfl (ax rfl (ax rfl (ax (h.gB 6 rfl).one aZ))) fun w h => ah (aa (ai (ai (ag (ae (ak Ab rfl) (ae (aF h 7 rfl oD rfl rfl) ?_))))))))
 obtain ⟨lG, e37, hs⟩ := aQ hs
 refine bA Ow rfl rfl (Bu N _ _ h.lt u33 xg.body (h.oZ 6 rfl) 4 _ e37) ?_
 rintro _ w ⟨Zx, rfl⟩
 refine ⟨_, rfl, ?_⟩
 replace h := h.grow Zx
 refine ae (au (v := (.tuple #[(.int .i64 (lG.1)), (.bool (lG.2))])) rfl) (ae (bC rfl rfl) (ae (bC rfl rfl) (ae (aj (v := (.int .i64 (lG.1))) rfl) (ae (aj (v := (.bool (lG.2))) rfl) (ah (aa (ai (ag (ae (au (v := (.bool (lG.2))) rfl) (ae (iq rfl) (ah (aa (aI hs rfl (fun c39 hs => ?_) (fun c39 hs => ?_))))))))))))))
 refine ai (ag (ae (aj (v := (.int .i64 (2))) rfl) (ah (aa (aK (aC (aH (aC (aC (aH (aC (cK (v := (.int .i64 (2))) Tryz.results112 rfl ?_))))))))))))
 obtain rfl := Option.some.inj hs
 exact ⟨h.grown, rfl⟩
 refine aG (aa (ai (ag (ae (ak Ab rfl) (ae (aF h 7 rfl oD rfl rfl) (ae (au (v := va) rfl) (ae (ak xU rfl) (ae (aF h 7 rfl bz rfl rfl) ?_))))))))
 obtain ⟨V4, e41, hs⟩ := aQ hs
 refine bA JX rfl rfl (xy N _ _ h.lt u33 xg.body (h.oZ 6 rfl) va a (h.je 1 rfl) xg.locals _ e41) ?_
 rintro _ w ⟨k42, rfl⟩
 refine ⟨_, rfl, ?_⟩
 replace h := h.grow k42
 refine ae (aj (v := (.int .i64 (V4))) rfl) (ah (aa (ai (ag (ae (au (v := (.int .i64 (V4))) rfl) (ae (gq rfl rfl) (ah (aa (aI hs rfl (fun c43 hs => ?_) (fun c43 hs => ?_))))))))))
 refine ai (ag (ae (au (v := (.int .i64 (V4))) rfl) (ae (aj (v := (.int .i64 (V4))) rfl) (ah (aa (aK (aH (aC (aC (aH (aC (cK (v := (.int .i64 (V4))) Tryz.results112 rfl ?_))))))))))))
 obtain rfl := Option.some.inj hs
 exact ⟨h.grown, rfl⟩
 refine aG (aA (aa (ag (ae (dw rfl rfl e27r) (ae (au (v := (.int .i64 ((i22 + 1)))) rfl) (ah (az ?_)))))))
 subst RS
 exact jV ⟨k21 + 1, i22 + 1⟩ ⟨h.cn _, by omega, hs⟩ (by have := of_decide_eq_true e26; dsimp only; omega)
 rw [gM (hik ▸ e26), gU] at hs
 refine df (aN (aN (bE (aa (ai (ag (ae (aj (v := (.int .i64 (0))) rfl) (ah (aa (aK (cK (v := (.int .i64 (0))) Tryz.results112 rfl ?_)))))))))))
 obtain rfl := Option.some.inj hs
 exact ⟨h.grown, rfl⟩
theorem sI (w0 : World) (M : BS) (hM : ∀ b, M b → b < w0.heap.size) (hT : uy Tryz.prog 4 w0) (a : Int) (r : Str) (hs : IG a = some r) :
    Calls Tryz.prog 125 #[.int .i64 a] w0 (fun e w' => Grow w0 w' ∧ e = .returned (bu r)) :=
  WN Tryz.strconv_Itoa hT hs
theorem yj (w0 : World) (M : BS) (hM : ∀ b, M b → b < w0.heap.size) (hT : uy Tryz.prog 4 w0) (a : Str) (r : List Str) (hs : CQ a = some r) :
    Calls Tryz.prog 111 #[bu a] w0 (fun e w' => Grow w0 w' ∧ ∃ u, e = .returned u ∧ fo nA w' M u r) :=
  Rq Tryz.strings_Fields (q := 0) (by kernel_rfl) hM hT hs
def jh (a : Tok) : Option Str :=
  (IG a.n).bind fun y2 => bif decide ((a.kind : Int) = 2) then gz ([118].length + y2.length ≤ 9223372036854775807) (some ([118] ++ y2)) else bif decide ((a.kind : Int) = 3) then gz (jA (a.n + 1)) ((subs? [63, 43, 45, 42, 60, 61] a.n (a.n + 1)).bind fun x9 => some x9) else bif decide ((a.kind : Int) = 4) then gz ([46].length + y2.length ≤ 9223372036854775807) (some ([46] ++ y2)) else bif decide ((a.kind : Int) = 5) then gz ([110, 101, 119].length + y2.length ≤ 9223372036854775807) (some ([110, 101, 119] ++ y2)) else bif decide ((a.kind : Int) = 6) then gz ([102].length + y2.length ≤ 9223372036854775807) (some ([102] ++ y2)) else some y2
theorem oG (w0 : World) (M : BS) (hM : ∀ b, M b → b < w0.heap.size) (hT : uy Tryz.prog 4 w0) (a : Tok) (r : Str) (hs : jh a = some r) :
    Calls Tryz.prog 106 #[(.agg #[(.int .i64 (a.kind)), (.int .i64 (a.n))])] w0 (fun e w' => Grow w0 w' ∧ e = .returned (bu r)) := by
 refine aS (args := [(.agg #[(.int .i64 (a.kind)), (.int .i64 (a.n))])]) Tryz.func106 rfl Tryz.ntmps106 (Nat.le_of_ble_eq_true rfl) ?_
 have h := SH.init hM
 refine ai (ag (rF (cs := [(.int .i64 (a.kind)), (.int .i64 (a.n))]) h 1 rfl rfl fun w b1 h => ae (aj (v := (bu [])) rfl) (ah (aa (ai (ag (ae (ak mH rfl) (ae (aF h 1 rfl bz rfl rfl) ?_))))))))
 obtain ⟨y2, e3, hs⟩ := aQ hs
 refine bA FM rfl rfl (sI _ _ h.lt (hT.go h.keep) a.n _ e3) ?_
 rintro _ w ⟨k4, rfl⟩
 refine ⟨_, rfl, ?_⟩
 replace h := h.grow k4
 refine ae (aj (v := (bu y2)) rfl) (ah (aa (ai (ai (ag (ae (ak CV rfl) (ae (aF h 1 rfl bz rfl rfl) (ah (aa (aV (ai (ag (ae (bI rfl rfl) (ae (aj (v := (.bool (decide ((a.kind : Int) = 2)))) rfl) (ah (aa (aI hs rfl (fun c5 hs => ?_) (fun c5 hs => ?_))))))))))))))))))
 refine ai (ag (ae (au (v := (bu y2)) rfl) ?_))
 obtain ⟨a6, hs⟩ := bG hs
 refine ae (lJ rfl rfl a6) (ae (aj (v := (bu ([118] ++ y2))) rfl) (ah (aa (aK (aH (aC (cK (v := (bu ([118] ++ y2))) Tryz.results106 rfl ?_)))))))
 obtain rfl := Option.some.inj hs
 exact ⟨h.grown, rfl⟩
 refine ai (ag (ae (bI rfl rfl) (ae (aj (v := (.bool (decide ((a.kind : Int) = 3)))) rfl) (ah (aa (aI hs rfl (fun c7 hs => ?_) (fun c7 hs => ?_)))))))
 refine ai (ag (ae (ak mH rfl) (ae (aF h 1 rfl bz rfl rfl) (ae (ak mH rfl) (ae (aF h 1 rfl bz rfl rfl) ?_)))))
 obtain ⟨a8, hs⟩ := bG hs
 refine ae (dw rfl rfl a8) ?_
 obtain ⟨x9, e10, hs⟩ := aQ hs
 obtain ⟨RU, RV, e11c, e11⟩ := Mx e10
 refine ae (Mw e11 Tryz.underlying9 rfl (.inr (congrArg some rfl)) (.inr (congrArg some rfl)) RU RV e11c) (ae (aj (v := (bu x9)) rfl) (ah (aa (aK (aH (aC (cK (v := (bu x9)) Tryz.results106 rfl ?_)))))))
 obtain rfl := Option.some.inj hs
 exact ⟨h.grown, rfl⟩
 refine ai (ag (ae (bI rfl rfl) (ae (aj (v := (.bool (decide ((a.kind : Int) = 4)))) rfl) (ah (aa (aI hs rfl (fun c12 hs => ?_) (fun c12 hs => ?_)))))))
 refine ai (ag (ae (au (v := (bu y2)) rfl) ?_))
 obtain ⟨a13, hs⟩ := bG hs
 refine ae (lJ rfl rfl a13) (ae (aj (v := (bu ([46] ++ y2))) rfl) (ah (aa (aK (aH (aC (cK (v := (bu ([46] ++ y2))) Tryz.results106 rfl ?_)))))))
 obtain rfl := Option.some.inj hs
 exact ⟨h.grown, rfl⟩
 refine ai (ag (ae (bI rfl rfl) (ae (aj (v := (.bool (decide ((a.kind : Int) = 5)))) rfl) (ah (aa (aI hs rfl (fun c14 hs => ?_) (fun c14 hs => ?_)))))))
 refine ai (ag (ae (au (v := (bu y2)) rfl) ?_))
 obtain ⟨a15, hs⟩ := bG hs
 refine ae (lJ rfl rfl a15) (ae (aj (v := (bu ([110, 101, 119] ++ y2))) rfl) (ah (aa (aK (aH (aC (cK (v := (bu ([110, 101, 119] ++ y2))) Tryz.results106 rfl ?_)))))))
 obtain rfl := Option.some.inj hs
 exact ⟨h.grown, rfl⟩
 refine ai (ag (ae (bI rfl rfl) (ae (aj (v := (.bool (decide ((a.kind : Int) = 6)))) rfl) (ah (aa (aI hs rfl (fun c16 hs => ?_) (fun c16 hs => ?_)))))))
 refine ai (ag (ae (au (v := (bu y2)) rfl) ?_))
 obtain ⟨a17, hs⟩ := bG hs
 refine ae (lJ rfl rfl a17) (ae (aj (v := (bu ([102] ++ y2))) rfl) (ah (aa (aK (aH (aC (cK (v := (bu ([102] ++ y2))) Tryz.results106 rfl ?_)))))))
 obtain rfl := Option.some.inj hs
 exact ⟨h.grown, rfl⟩
 refine aG (aA (aa (ai (ag (ae (au (v := (bu y2)) rfl) (ae (aj (v := (bu y2)) rfl) (ah (aa (aK (cK (v := (bu y2)) Tryz.results106 rfl ?_))))))))))
 obtain rfl := Option.some.inj hs
 exact ⟨h.grown, rfl⟩
def mI (x7 : Tok) (x4 : Str) (FO : Str → Option Str) : Option Str :=
  (jh x7).bind fun Bw => gz ([32].length + Bw.length ≤ 9223372036854775807) (gz (x4.length + ([32] ++ Bw).length ≤ 9223372036854775807) (FO (x4 ++ ([32] ++ Bw))))
def mJ (x4 : Str) : Option Str :=
  some x4
def pI (a : List Tok) : Option Str :=
  each mI mJ a []
theorem sJ (w0 : World) (M : BS) (hM : ∀ b, M b → b < w0.heap.size) (hT : uy Tryz.prog 4 w0) (va : Value) (a : List Tok) (ha : gp jY w0 BE M va a) (r : Str) (hs : pI a = some r) :
    Calls Tryz.prog 147 #[va] w0 (fun e w' => Grow w0 w' ∧ e = .returned (bu r)) := by
 refine aS (args := [va]) Tryz.func147 rfl Tryz.ntmps147 (Nat.le_of_ble_eq_true rfl) ?_
 have h := SH.init hM
 replace h := h.il 1 ha bR
 have u7 := ha.cO
 refine ai (ag (ae (aj (v := (bu [])) rfl) (ah (aa (ai (ag (ae (aj (v := (bu [])) rfl) (ah (aa (ai (ai (ag (ae (au (v := va) rfl) (ae (bY jP rfl (h.je 1 rfl)) (ae (au (v := (.int .i64 (0))) rfl) (ah (aa (aV (gT (σ := Nat × Int × Str) (inl [3, 5, 8, 9, 10, 11, 12, 13, 14, 15, 16, 17]) (fun ⟨k5, i6, x4⟩ => [(3, (bu x4)), (8, (.int .i64 (i6)))]) (fun ⟨k5, i6, x4⟩ w => SH w0 M BE w (hset [(1, .sr jY va a)]) ∧ i6 = (k5 : Int) ∧ each mI mJ (a.drop k5) x4 = some r) (fun ⟨k5, i6, x4⟩ => a.length - k5) ⟨0, 0, []⟩ ⟨rfl, rfl, trivial⟩ ?_ ?_)))))))))))))))))))
 exact ⟨h.cn _, rfl, hs⟩
 rintro ⟨k5, i6, x4⟩ w dz ⟨h, hik, hs⟩
 refine ai (ag ?_)
 refine ae (dN rfl rfl) (ah (aa ?_))
 refine ai (iJ rfl (fun e10 => ?_) (fun e10 => ?_))
 refine aG (aa ?_)
 obtain ⟨x7, RU, RV⟩ := gL (hik ▸ e10)
 rw [RV, dO] at hs
 generalize RX : each mI mJ (a.drop (k5 + 1)) = FO at hs
 have RY := gP ((h.je 1 rfl)).cO hik e10
 refine ai (aV (ai (ag ?_)))
 obtain ⟨b13, o14, cs15, h, r16, i12⟩ := h.Bt 1 2 rfl jP rfl (jl hik) (gN hik RU)
 obtain rfl := r16
 refine ae (i12 _ _ _ _ _ _ _ _ _ rfl rfl) (ae (jW (k := 0) (vs := [(.int .i64 (x7.kind)), (.int .i64 (x7.n))]) h 2 rfl jJ rfl rfl rfl (Nat.le_of_ble_eq_true rfl)) (bT h 3 jJ fun w b17 h => dm (vs := [(.int .i64 (x7.kind)), (.int .i64 (x7.n))]) h 3 [(.int .i64 (x7.kind)), (.int .i64 (x7.n))] rfl jJ rfl rfl rfl rfl rfl (ax rfl (ax rfl aZ)) fun w h => ah (aa (ag (ae (au (v := (bu x4)) rfl) (ae (dS (vs := [(.int .i64 (x7.kind)), (.int .i64 (x7.n))]) h 3 rfl jJ rfl rfl rfl) ?_))))))
 obtain ⟨Bw, e19, hs⟩ := aQ hs
 refine bA JU rfl rfl (oG _ _ h.lt (hT.go h.keep) x7 _ e19) ?_
 rintro _ w ⟨k20, rfl⟩
 refine ⟨_, rfl, ?_⟩
 replace h := h.grow k20
 obtain ⟨a21, hs⟩ := bG hs
 refine ae (lJ rfl rfl a21) ?_
 obtain ⟨a22, hs⟩ := bG hs
 refine ae (lJ rfl rfl a22) (ae (aj (v := (bu (x4 ++ ([32] ++ Bw)))) rfl) (ah (aA (aa (ag (ae (dw rfl rfl RY) (ae (au (v := (.int .i64 ((i6 + 1)))) rfl) (ah (az ?_)))))))))
 subst RX
 exact jV ⟨k5 + 1, i6 + 1, (x4 ++ ([32] ++ Bw))⟩ ⟨h.cn _, by omega, hs⟩ (by have := of_decide_eq_true e10; dsimp only; omega)
 rw [gM (hik ▸ e10), gU] at hs
 refine df (aN (aN (bE (aa (ai (ag (ae (au (v := (bu x4)) rfl) (ae (aj (v := (bu x4)) rfl) (ah (aa (aK (cK (v := (bu x4)) Tryz.results147 rfl ?_))))))))))))
 obtain rfl := Option.some.inj hs
 exact ⟨h.grown, rfl⟩
def lK (FO : Str → Option Str) (wE : Str) : Option Str :=
  FO wE
def lL (F0 : List bF → Option Str) (x7 : bF) (FO : Str → Option Str) (x34 : Str) : Option Str :=
  bif decide ((x7.kind : Int) = 6) then (F0 x7.b).bind fun lG => gz ([32].length + lG.length ≤ 9223372036854775807) (gz (x34.length + ([32] ++ lG).length ≤ 9223372036854775807) (lK FO (x34 ++ ([32] ++ lG)))) else lK FO x34
def lM (F0 : List bF → Option Str) (x7 : bF) (a : List bF) (FO : Str → Option Str) (x30 : Str) : Option Str :=
  (pI x7.e).bind fun pJ => (pI x7.f).bind fun pK => gz (pJ.length + pK.length ≤ 9223372036854775807) (gz (x30.length + (pJ ++ pK).length ≤ 9223372036854775807) (bif (decide ((x7.kind : Int) = 6) || decide ((x7.kind : Int) = 7)) then (F0 x7.a).bind fun wF => gz ([32].length + wF.length ≤ 9223372036854775807) (gz ((x30 ++ (pJ ++ pK)).length + ([32] ++ wF).length ≤ 9223372036854775807) (lL F0 x7 FO ((x30 ++ (pJ ++ pK)) ++ ([32] ++ wF)))) else lL F0 x7 FO (x30 ++ (pJ ++ pK))))
def lN (F0 : List bF → Option Str) (a : List bF) (x7 : bF) (x4 : Str) (FO : Str → Option Str) : Option Str :=
  gz (jA (x7.kind - 1)) ((CQ [115, 101, 116, 32, 112, 117, 116, 32, 115, 97, 121, 32, 112, 97, 117, 115, 101, 32, 103, 111, 32, 105, 102, 32, 119, 104, 105, 108, 101, 32, 114, 101, 116, 117, 114, 110]).bind fun K5 => (idx K5 (x7.kind - 1)).bind fun pM => gz ([32].length + pM.length ≤ 9223372036854775807) (gz (x4.length + ([32] ++ pM).length ≤ 9223372036854775807) (bif decide ((x7.kind : Int) ≤ 2) then (IG x7.n).bind fun yO => gz ([32].length + yO.length ≤ 9223372036854775807) (gz ((x4 ++ ([32] ++ pM)).length + ([32] ++ yO).length ≤ 9223372036854775807) (lM F0 x7 a FO ((x4 ++ ([32] ++ pM)) ++ ([32] ++ yO)))) else lM F0 x7 a FO (x4 ++ ([32] ++ pM)))))
def lQ (x4 : Str) : Option Str :=
  gz (x4.length + [32, 125].length ≤ 9223372036854775807) (some (x4 ++ [32, 125]))
def rM (F0 : List bF → Option Str) (a : List bF) : Option Str :=
  each (lN F0 a) lQ a [123]
def jo : Nat → List bF → Option Str
  | 0 => fun _ => none
  | N + 1 => rM (jo N)
theorem yl : ∀ (N : Nat) (w0 : World) (M : BS) (hM : ∀ b, M b → b < w0.heap.size) (hT : uy Tryz.prog 4 w0) (va : Value) (a : List bF) (ha : gp dY w0 BE M va a) (r : Str) (hs : jo N a = some r),
    Calls Tryz.prog 130 #[va] w0 (fun e w' => Grow w0 w' ∧ e = .returned (bu r)) := by
 intro N
 induction N with
 | zero => intro w0 M hM hT va a ha r hs; cases hs
 | succ N ih =>
 intro w0 M hM hT va a ha r hs
 replace hs : rM (jo N) a = some r := hs
 generalize jo N = F0 at hs ih
 refine aS (args := [va]) Tryz.func130 rfl Tryz.ntmps130 (Nat.le_of_ble_eq_true rfl) ?_
 have h := SH.init hM
 replace h := h.il 1 ha bR
 have u7 := ha.cO
 refine ai (ag (ae (aj (v := (bu [])) rfl) (ah (aa (ai (ag (ae (aj (v := (bu [123])) rfl) (ah (aa (ai (ai (ag (ae (au (v := va) rfl) (ae (bY kC rfl (h.je 1 rfl)) (ae (au (v := (.int .i64 (0))) rfl) (ah (aa (aV (gT (σ := Nat × Int × Str) (inl [3, 5, 8, 9, 10, 11, 12, 13, 14, 15, 16, 17, 18, 19, 20, 21, 22, 23, 24, 25, 26, 27, 28, 29, 30, 31, 32, 33, 34, 35, 36, 37, 38, 39, 40, 41, 42, 43, 44, 45, 46, 47, 48, 49, 50, 51, 52, 53, 54, 55, 56, 57, 58, 59, 60, 61, 62]) (fun ⟨k5, i6, x4⟩ => [(3, (bu x4)), (8, (.int .i64 (i6)))]) (fun ⟨k5, i6, x4⟩ w => SH w0 M BE w (hset [(1, .sr dY va a)]) ∧ i6 = (k5 : Int) ∧ each (lN F0 a) lQ (a.drop k5) x4 = some r) (fun ⟨k5, i6, x4⟩ => a.length - k5) ⟨0, 0, [123]⟩ ⟨rfl, rfl, trivial⟩ ?_ ?_)))))))))))))))))))
 exact ⟨h.cn _, rfl, hs⟩
 rintro ⟨k5, i6, x4⟩ w dz ⟨h, hik, hs⟩
 refine ai (ag ?_)
 refine ae (dN rfl rfl) (ah (aa ?_))
 refine ai (iJ rfl (fun e10 => ?_) (fun e10 => ?_))
 refine aG (aa ?_)
 obtain ⟨x7, RU, RV⟩ := gL (hik ▸ e10)
 rw [RV, dO] at hs
 generalize RX : each (lN F0 a) lQ (a.drop (k5 + 1)) = FO at hs
 have RY := gP ((h.je 1 rfl)).cO hik e10
 refine bV (σ := Str) (inl [3, 5, 10, 11, 12, 13, 14, 15, 16, 17, 18, 19, 20, 21, 22, 23, 24, 25, 26, 27, 28, 29, 30, 31, 32, 33, 34, 35, 36, 37, 38, 39, 40, 41, 42, 43, 44, 45, 46, 47, 48, 49, 50, 51, 52, 53, 54, 55, 56, 57, 58, 59, 60, 61]) (fun wE => [(3, (bu wE))]) (fun wE w => SH w0 M BE w (hset [(1, .sr dY va a)]) ∧ lK FO wE = some r) ?_ ?_
 rintro wE w dz ⟨h, hs⟩
 refine ag (ae (dw rfl rfl RY) (ae (au (v := (.int .i64 ((i6 + 1)))) rfl) (ah (az ?_))))
 subst RX
 exact jV ⟨k5 + 1, i6 + 1, wE⟩ ⟨h.cn _, by omega, hs⟩ (by have := of_decide_eq_true e10; dsimp only; omega)
 refine aV (ai (ag ?_))
 obtain ⟨b14, o15, cs16, h, r17, i13⟩ := h.Bt 1 2 rfl kC rfl (jl hik) (gN hik RU)
 obtain ⟨Mk, u20, u22, u24, rfl, g19, g21, g23, g25⟩ := yU r17
 replace h := h.cZ 3 g19.up
 replace h := h.cZ 4 g21.up.up
 replace h := h.cZ 5 g23.up.up.up
 replace h := h.cZ 6 g25.up.up.up.up
 refine ae (i13 _ _ _ _ _ _ _ _ _ rfl rfl) (ae (jW (k := 0) (vs := [(.int .i64 (x7.kind)), (.int .i64 (x7.n)), Mk, u20, u22, u24]) h 2 rfl nH rfl rfl rfl (Nat.le_of_ble_eq_true rfl)) (bT h 7 nH fun w Xq h => dm (vs := [(.int .i64 (x7.kind)), (.int .i64 (x7.n)), Mk, u20, u22, u24]) h 7 [(.int .i64 (x7.kind)), (.int .i64 (x7.n)), Mk, u20, u22, u24] rfl nH rfl rfl rfl rfl rfl (ax rfl (ax rfl (ax (h.gB 3 rfl).one (ax (h.gB 4 rfl).one (ax (h.gB 5 rfl).one (ax (h.gB 6 rfl).one aZ)))))) fun w h => ah (aa (ai (CP mixed h fun w h => dA 0 (aP.refl BE _) rfl ay (by kernel_rfl) (by kernel_rfl) (by kernel_rfl) (fun w hk => au (v := (bu x4)) rfl) (dA 2 (aP.refl BE _) rfl ay (by kernel_rfl) (by kernel_rfl) (by kernel_rfl) (fun w hk => ak jB rfl) (dA 3 (aP.refl BE _) rfl ay (by kernel_rfl) (by kernel_rfl) (by kernel_rfl) (fun w hk => have h := h.grow hk; aF h 7 rfl bz rfl rfl) ?_)))))))
 obtain ⟨Gj, hs⟩ := bG hs
 refine dA 4 (aP.refl BE _) rfl ay (by kernel_rfl) (by kernel_rfl) (by kernel_rfl) (fun w hk => oh rfl rfl Gj) ?_
 obtain ⟨RZ, K6⟩ : ∃ x, x = w := ⟨_, rfl⟩
 have rV : Grow RZ w := K6 ▸ aP.refl BE w
 refine KP K6.symm (xn 1 (by kernel_rfl) rfl ay ?_)
 obtain ⟨K5, R3, hs⟩ := aQ hs
 refine bA Ou rfl rfl (yj _ _ h.lt (hT.go h.keep) [115, 101, 116, 32, 112, 117, 116, 32, 115, 97, 121, 32, 112, 97, 117, 115, 101, 32, 103, 111, 32, 105, 102, 32, 119, 104, 105, 108, 101, 32, 114, 101, 116, 117, 114, 110] _ R3) ?_
 rintro _ w ⟨K7, Zy, rfl, R4⟩
 refine ⟨_, rfl, ?_⟩
 replace h := h.Ir 20 K7 R4
 replace rV := rV.trans K7
 refine ah (qW rV ?_)
 obtain ⟨pM, K8, hs⟩ := aQ hs
 obtain ⟨Zz, ZA, Yt, h, R5, R6⟩ := h.DI 20 68 rfl dZ rfl (aJ K8).1 (aJ K8).2
 obtain rfl := R5
 refine dA 5 rV rfl ay (by kernel_rfl) (by kernel_rfl) (by kernel_rfl) (fun w hk => R6 _ _ _ _ _ _ _ _ _ rfl rfl) (Od rV ?_)
 obtain ⟨Pw, MQ⟩ : ∃ x, x = w := ⟨_, rfl⟩
 have Yu : Grow Pw w := MQ ▸ aP.refl _ _
 refine dA 6 (aP.refl BE _) rfl ay (by kernel_rfl) (by kernel_rfl) (by kernel_rfl) (fun w hk => have h := h.grow hk; eF (k := 0) h 68 rfl xZ rfl rfl) ?_
 obtain ⟨R7, hs⟩ := bG hs
 refine dA 7 (aP.refl BE _) rfl ay (by kernel_rfl) (by kernel_rfl) (by kernel_rfl) (fun w hk => lJ rfl rfl R7) ?_
 obtain ⟨R8, hs⟩ := bG hs
 refine dA 8 (aP.refl BE _) rfl ay (by kernel_rfl) (by kernel_rfl) (by kernel_rfl) (fun w hk => lJ rfl rfl R8) (dA 9 (aP.refl BE _) rfl ay (by kernel_rfl) (by kernel_rfl) (by kernel_rfl) (fun w hk => aj (v := (bu (x4 ++ ([32] ++ pM)))) rfl) (vQ (by kernel_rfl) (aa (bV (σ := Str) (inl [3, 21, 22, 23, 24, 25, 26, 27, 28, 29]) (fun x30 => [(3, (bu x30))]) (fun x30 w => SH w0 M BE w (hset [(1, .sr dY va a), (3, .rd jY Mk x7.e), (4, .rd jY u20 x7.f), (5, .rd dY u22 x7.a), (6, .rd dY u24 x7.b), (7, .blk Xq [(.int .i64 (x7.kind)), (.int .i64 (x7.n)), Mk, u20, u22, u24])]) ∧ lM F0 x7 a FO x30 = some r) ?_ ?_))))
 rintro x30 w dz ⟨h, hs⟩
 refine ai (CP mixed h fun w h => dA 0 (aP.refl BE _) rfl ay (by kernel_rfl) (by kernel_rfl) (by kernel_rfl) (fun w hk => au (v := (bu x30)) rfl) (dA 1 (aP.refl BE _) rfl ay (by kernel_rfl) (by kernel_rfl) (by kernel_rfl) (fun w hk => ak xV rfl) (dA 2 (aP.refl BE _) rfl ay (by kernel_rfl) (by kernel_rfl) (by kernel_rfl) (fun w hk => have h := h.grow hk; aF h 7 rfl wD rfl rfl) (dA 4 (aP.refl BE _) rfl ay (by kernel_rfl) (by kernel_rfl) (by kernel_rfl) (fun w hk => ak Ac rfl) (dA 5 (aP.refl BE _) rfl ay (by kernel_rfl) (by kernel_rfl) (by kernel_rfl) (fun w hk => have h := h.grow hk; aF h 7 rfl wD rfl rfl) ?_)))))
 obtain ⟨MR, K9⟩ : ∃ x, x = w := ⟨_, rfl⟩
 have mq : Grow MR w := K9 ▸ aP.refl BE w
 refine KP K9.symm (xn 3 (by kernel_rfl) rfl ay ?_)
 obtain ⟨pJ, R9, hs⟩ := aQ hs
 refine bA Oy rfl rfl (sJ _ _ h.lt (hT.go h.keep) Mk x7.e (h.oZ 3 rfl) _ R9) ?_
 rintro _ w ⟨La, rfl⟩
 refine ⟨_, rfl, ?_⟩
 replace h := h.grow La
 replace mq := mq.trans La
 refine ah (qW mq (xn 6 (by kernel_rfl) rfl ay ?_))
 obtain ⟨pK, Sa, hs⟩ := aQ hs
 refine bA Oy rfl rfl (sJ _ _ h.lt (hT.go h.keep) u20 x7.f (h.oZ 4 rfl) _ Sa) ?_
 rintro _ w ⟨Lb, rfl⟩
 refine ⟨_, rfl, ?_⟩
 replace h := h.grow Lb
 replace mq := mq.trans Lb
 refine ah (qW mq ?_)
 obtain ⟨Sb, hs⟩ := bG hs
 refine dA 7 mq rfl ay (by kernel_rfl) (by kernel_rfl) (by kernel_rfl) (fun w hk => lJ rfl rfl Sb) ?_
 obtain ⟨Sc, hs⟩ := bG hs
 refine dA 8 mq rfl ay (by kernel_rfl) (by kernel_rfl) (by kernel_rfl) (fun w hk => lJ rfl rfl Sc) (dA 9 mq rfl ay (by kernel_rfl) (by kernel_rfl) (by kernel_rfl) (fun w hk => aj (v := (bu (x30 ++ (pJ ++ pK)))) rfl) (vQ (by kernel_rfl) (aa (bV (σ := Str) (inl [3, 39, 40, 41, 42, 43, 44, 45, 46, 47, 48, 49, 50, 51, 52]) (fun x34 => [(3, (bu x34))]) (fun x34 w => SH w0 M BE w (hset [(1, .sr dY va a), (3, .rd jY Mk x7.e), (4, .rd jY u20 x7.f), (5, .rd dY u22 x7.a), (6, .rd dY u24 x7.b), (7, .blk Xq [(.int .i64 (x7.kind)), (.int .i64 (x7.n)), Mk, u20, u22, u24])]) ∧ lL F0 x7 FO x34 = some r) ?_ ?_))))
 rintro x34 w dz ⟨h, hs⟩
 refine ai (ag (ae (ak jB rfl) (ae (aF h 7 rfl bz rfl rfl) (ae (bI rfl rfl) (ah (aa (aI hs rfl (fun ZB hs => ?_) (fun ZB hs => ?_))))))))
 refine ag (ae (au (v := (bu x34)) rfl) (ae (ak xX rfl) (ae (aF h 7 rfl oD rfl rfl) ?_)))
 obtain ⟨lG, e37, hs⟩ := aQ hs
 refine bA JY rfl rfl (ih _ _ h.lt (hT.go h.keep) u24 x7.b (h.oZ 6 rfl) _ e37) ?_
 rintro _ w ⟨Zx, rfl⟩
 refine ⟨_, rfl, ?_⟩
 replace h := h.grow Zx
 obtain ⟨a39, hs⟩ := bG hs
 refine ae (lJ rfl rfl a39) ?_
 obtain ⟨a40, hs⟩ := bG hs
 refine ae (lJ rfl rfl a40) (ae (aj (v := (bu (x34 ++ ([32] ++ lG)))) rfl) (ah (aA (az ?_))))
 exact bQ (x34 ++ ([32] ++ lG)) ⟨h.cn _, hs⟩
 refine aG (aA (az ?_))
 exact bQ x34 ⟨h.cn _, hs⟩
 refine ai (ag (ae (ak jB rfl) (ae (aF h 7 rfl bz rfl rfl) (ae (bI rfl rfl) (ae (au (v := (.bool (decide ((x7.kind : Int) = 6)))) rfl) (aD rfl rfl (fun q => ak jB rfl) (aD rfl rfl (fun q => aF h 7 rfl bz (dn q) rfl) (aD rfl rfl (fun q => bI (dn q) rfl) (ae (gu rfl rfl lV) (ah (aa (aI hs rfl (fun Xt hs => ?_) (fun Xt hs => ?_)))))))))))))
 refine ag (ae (au (v := (bu (x30 ++ (pJ ++ pK)))) rfl) (ae (ak xW rfl) (ae (aF h 7 rfl oD rfl rfl) ?_)))
 obtain ⟨wF, e43, hs⟩ := aQ hs
 refine bA JY rfl rfl (ih _ _ h.lt (hT.go h.keep) u22 x7.a (h.oZ 5 rfl) _ e43) ?_
 rintro _ w ⟨k44, rfl⟩
 refine ⟨_, rfl, ?_⟩
 replace h := h.grow k44
 obtain ⟨a45, hs⟩ := bG hs
 refine ae (lJ rfl rfl a45) ?_
 obtain ⟨a46, hs⟩ := bG hs
 refine ae (lJ rfl rfl a46) (ae (aj (v := (bu ((x30 ++ (pJ ++ pK)) ++ ([32] ++ wF)))) rfl) (ah (az ?_)))
 exact bQ ((x30 ++ (pJ ++ pK)) ++ ([32] ++ wF)) ⟨h.cn _, hs⟩
 refine aG (az ?_)
 exact bQ (x30 ++ (pJ ++ pK)) ⟨h.cn _, hs⟩
 refine ai (ag (ae (ak jB rfl) (ae (aF h 7 rfl bz rfl rfl) (ae (CE rfl rfl) (ah (aa (aI hs rfl (fun Zt hs => ?_) (fun Zt hs => ?_))))))))
 refine ag (ae (au (v := (bu (x4 ++ ([32] ++ pM)))) rfl) (ae (ak uB rfl) (ae (aF h 7 rfl bz rfl rfl) ?_)))
 obtain ⟨yO, e49, hs⟩ := aQ hs
 refine bA FM rfl rfl (sI _ _ h.lt (hT.go h.keep) x7.n _ e49) ?_
 rintro _ w ⟨k50, rfl⟩
 refine ⟨_, rfl, ?_⟩
 replace h := h.grow k50
 obtain ⟨a51, hs⟩ := bG hs
 refine ae (lJ rfl rfl a51) ?_
 obtain ⟨a52, hs⟩ := bG hs
 refine ae (lJ rfl rfl a52) (ae (aj (v := (bu ((x4 ++ ([32] ++ pM)) ++ ([32] ++ yO)))) rfl) (ah (az ?_)))
 exact bQ ((x4 ++ ([32] ++ pM)) ++ ([32] ++ yO)) ⟨h.cn _, hs⟩
 refine aG (az ?_)
 exact bQ (x4 ++ ([32] ++ pM)) ⟨h.cn _, hs⟩
 rw [gM (hik ▸ e10), gU] at hs
 refine df (aN (aN (bE (aa (ai (ag (ae (au (v := (bu x4)) rfl) ?_)))))))
 obtain ⟨a53, hs⟩ := bG hs
 refine ae (lJ rfl rfl a53) (ae (aj (v := (bu (x4 ++ [32, 125]))) rfl) (ah (aa (aK (cK (v := (bu (x4 ++ [32, 125]))) Tryz.results130 rfl ?_)))))
 obtain rfl := Option.some.inj hs
 exact ⟨h.grown, rfl⟩
theorem Gl (w0 : World) (M : BS) (hM : ∀ b, M b → b < w0.heap.size) (va : Value) (a : List Str) (ha : gp nA w0 BE M va a) (b : Str) (r : Str) (hs : Rh a b = some r) :
    Calls Tryz.prog 131 #[va, bu b] w0 (fun e w' => Grow w0 w' ∧ e = .returned (bu r)) :=
  WR Tryz.strings_Join_none Tryz.strings_Join ha hs
def lS (N : Nat) (fQ : eO) (x8 : List Str) (qJ : List Str → Option Str) : Option Str :=
  (IG fQ.params).bind fun oq => gz ([102, 117, 110, 32].length + oq.length ≤ 9223372036854775807) (gz (([102, 117, 110, 32] ++ oq).length + [32].length ≤ 9223372036854775807) ((IG fQ.locals).bind fun qQ => gz ((([102, 117, 110, 32] ++ oq) ++ [32]).length + qQ.length ≤ 9223372036854775807) (gz (((([102, 117, 110, 32] ++ oq) ++ [32]) ++ qQ).length + [32].length ≤ 9223372036854775807) ((jo N fQ.body).bind fun rO => gz ((((([102, 117, 110, 32] ++ oq) ++ [32]) ++ qQ) ++ [32]).length + rO.length ≤ 9223372036854775807) (gz (Room 16 x8 [((((([102, 117, 110, 32] ++ oq) ++ [32]) ++ qQ) ++ [32]) ++ rO)]) (qJ (x8 ++ [((((([102, 117, 110, 32] ++ oq) ++ [32]) ++ qQ) ++ [32]) ++ rO)])))))))
def lT (x8 : List Str) : Option Str :=
  (Rh x8 [32]).bind fun FP => some FP
def sK (N : Nat) (a : List eO) : Option Str :=
  each (lS N) lT a []
theorem xz (N : Nat) (w0 : World) (M : BS) (hM : ∀ b, M b → b < w0.heap.size) (hT : uy Tryz.prog 4 w0) (va : Value) (a : List eO) (ha : gp iH w0 BE M va a) (r : Str) (hs : sK N a = some r) :
    Calls Tryz.prog 113 #[va] w0 (fun e w' => Grow w0 w' ∧ e = .returned (bu r)) := by
 refine aS (args := [va]) Tryz.func113 rfl Tryz.ntmps113 (Nat.le_of_ble_eq_true rfl) ?_
 have h := SH.init hM
 replace h := h.il 1 ha bR
 have u7 := ha.cO
 refine ai (ag (ae (aj (v := (bu [])) rfl) (ah (aa (ai (ag (ae (aj (v := (.slice none 0 0)) rfl) (ah (aa (ai (ai (ag (ae (au (v := va) rfl) (ae (bY iy rfl (h.je 1 rfl)) (ae (au (v := (.int .i64 (0))) rfl) (ah (aa (aV ?_))))))))))))))))))
 replace h := h.xO (R := nA) (E := 9) 5
 refine gT (σ := Nat × Int × Value × List Str) (inl [3, 5, 8, 9, 10, 11, 12, 13, 14, 15, 16, 17, 18, 19, 20, 21, 22, 23, 24, 25, 26, 27, 28, 29]) (fun ⟨k9, i10, v7, x8⟩ => [(3, v7), (8, (.int .i64 (i10)))]) (fun ⟨k9, i10, v7, x8⟩ w => SH w0 M BE w (hset [(1, .sr iH va a), (5, .own nA 9 v7 x8)]) ∧ i10 = (k9 : Int) ∧ each (lS N) lT (a.drop k9) x8 = some r) (fun ⟨k9, i10, v7, x8⟩ => a.length - k9) ⟨0, 0, (.slice none 0 0), []⟩ ⟨rfl, rfl, trivial⟩ ?_ ?_
 exact ⟨h.cn _, rfl, hs⟩
 rintro ⟨k9, i10, v7, x8⟩ w dz ⟨h, hik, hs⟩
 refine ai (ag ?_)
 refine ae (dN rfl rfl) (ah (aa ?_))
 refine ai (iJ rfl (fun e14 => ?_) (fun e14 => ?_))
 refine aG (aa ?_)
 obtain ⟨fQ, Sd, Sg⟩ := gL (hik ▸ e14)
 rw [Sg, dO] at hs
 generalize Lc : each (lS N) lT (a.drop (k9 + 1)) = qJ at hs
 have Si := gP ((h.je 1 rfl)).cO hik e14
 refine ai (aV (ai (ag ?_)))
 obtain ⟨b17, o18, Xw, h, Ve, i16⟩ := h.Bt 1 6 rfl iy rfl (jl hik) (gN hik Sd)
 obtain ⟨u21, rfl, g22⟩ := rG Ve
 replace h := h.cZ 7 g22.up
 refine ae (i16 _ _ _ _ _ _ _ _ _ rfl rfl) (ae (jW (k := 0) (vs := [(.int .i64 (fQ.params)), (.int .i64 (fQ.locals)), u21]) h 6 rfl lF rfl rfl rfl (Nat.le_of_ble_eq_true rfl)) (bT h 8 lF fun w BH h => dm (vs := [(.int .i64 (fQ.params)), (.int .i64 (fQ.locals)), u21]) h 8 [(.int .i64 (fQ.params)), (.int .i64 (fQ.locals)), u21] rfl lF rfl rfl rfl rfl rfl (ax rfl (ax rfl (ax (h.gB 7 rfl).one aZ))) fun w h => ah (aa (lY (L := (ob v7)) mixed h fun w h => bg 0 (aP.refl _ _) rfl ay (by kernel_rfl) (by kernel_rfl) (by kernel_rfl) (fun w hk => au (v := v7) rfl) (bg 1 (aP.refl _ _) rfl ay (by kernel_rfl) (by kernel_rfl) (by kernel_rfl) (fun w hk => ak uA rfl) (bg 2 (aP.refl _ _) rfl ay (by kernel_rfl) (by kernel_rfl) (by kernel_rfl) (fun w hk => have h := h.qN 5 rfl hk; aF h 8 rfl bz rfl rfl) (bg 6 (aP.refl _ _) rfl ay (by kernel_rfl) (by kernel_rfl) (by kernel_rfl) (fun w hk => ak xU rfl) (bg 7 (aP.refl _ _) rfl ay (by kernel_rfl) (by kernel_rfl) (by kernel_rfl) (fun w hk => have h := h.qN 5 rfl hk; aF h 8 rfl bz rfl rfl) (bg 11 (aP.refl _ _) rfl ay (by kernel_rfl) (by kernel_rfl) (by kernel_rfl) (fun w hk => ak Ab rfl) (bg 12 (aP.refl _ _) rfl ay (by kernel_rfl) (by kernel_rfl) (by kernel_rfl) (fun w hk => have h := h.qN 5 rfl hk; aF h 8 rfl oD rfl rfl) ?_))))))))))
 obtain ⟨RZ, K6⟩ : ∃ x, x = w := ⟨_, rfl⟩
 have rV : aP (ob v7) RZ w := K6 ▸ aP.refl (ob v7) w
 refine sj K6.symm (bN 3 (by kernel_rfl) rfl ay ?_)
 obtain ⟨oq, Sj, hs⟩ := aQ hs
 refine bA FM rfl rfl (sI _ _ h.lt (hT.go h.keep) fQ.params _ Sj) ?_
 rintro _ w ⟨Ld, rfl⟩
 refine ⟨_, rfl, ?_⟩
 replace h := h.grow Ld
 replace rV := rV.grow Ld
 refine ah (aX rV ?_)
 obtain ⟨Gj, hs⟩ := bG hs
 refine bg 4 rV rfl ay (by kernel_rfl) (by kernel_rfl) (by kernel_rfl) (fun w hk => lJ rfl rfl Gj) ?_
 obtain ⟨Sk, hs⟩ := bG hs
 refine bg 5 rV rfl ay (by kernel_rfl) (by kernel_rfl) (by kernel_rfl) (fun w hk => lJ rfl rfl Sk) (bN 8 (by kernel_rfl) rfl ay ?_)
 obtain ⟨qQ, Sl, hs⟩ := aQ hs
 refine bA FM rfl rfl (sI _ _ h.lt (hT.go h.keep) fQ.locals _ Sl) ?_
 rintro _ w ⟨Le, rfl⟩
 refine ⟨_, rfl, ?_⟩
 replace h := h.grow Le
 replace rV := rV.grow Le
 refine ah (aX rV ?_)
 obtain ⟨Sm, hs⟩ := bG hs
 refine bg 9 rV rfl ay (by kernel_rfl) (by kernel_rfl) (by kernel_rfl) (fun w hk => lJ rfl rfl Sm) ?_
 obtain ⟨Px, hs⟩ := bG hs
 refine bg 10 rV rfl ay (by kernel_rfl) (by kernel_rfl) (by kernel_rfl) (fun w hk => lJ rfl rfl Px) (bN 13 (by kernel_rfl) rfl ay ?_)
 obtain ⟨rO, Py, hs⟩ := aQ hs
 refine bA JY rfl rfl (yl N _ _ h.lt (hT.go h.keep) u21 fQ.body (h.oZ 7 rfl) _ Py) ?_
 rintro _ w ⟨IU, rfl⟩
 refine ⟨_, rfl, ?_⟩
 replace h := h.grow IU
 replace rV := rV.grow IU
 refine ah (aX rV ?_)
 obtain ⟨Pz, hs⟩ := bG hs
 refine bg 14 rV rfl ay (by kernel_rfl) (by kernel_rfl) (by kernel_rfl) (fun w hk => lJ rfl rfl Pz) (bN 15 (by kernel_rfl) rfl ay (zB (R := nA) (vs := [(bu ((((([102, 117, 110, 32] ++ oq) ++ [32]) ++ qQ) ++ [32]) ++ rO))]) (xs := [((((([102, 117, 110, 32] ++ oq) ++ [32]) ++ qQ) ++ [32]) ++ rO)]) h 189 IQ rfl rfl rfl ⟨rfl, trivial⟩ rfl fun w PD h MS MU => ?_))
 have Xx : ∀ b, ob PD b → RZ.heap.size ≤ b := fun b hb => Nat.le_trans rV.size (MU b hb)
 replace rV := rV.grow MS
 refine ah (aX rV (bN 16 (by kernel_rfl) rfl ay ?_))
 obtain ⟨IV, hs⟩ := bG hs
 have Xy := rV.size
 refine oN (R := nA) (m := [((((([102, 117, 110, 32] ++ oq) ++ [32]) ++ qQ) ++ [32]) ++ rO)]) h 5 rfl (h.dM 189 rfl) IQ rfl rfl rfl IV.1 IV.2 fun w D6 h MV MW => ?_
 have Xz : ∀ b, ob D6 b → b < RZ.heap.size → ob v7 b := fun b hb hl => MW b hb (Nat.lt_of_lt_of_le hl (rV).size)
 replace rV := rV.same MV
 refine ah (aX rV (bg 17 rV rfl ay (by kernel_rfl) (by kernel_rfl) (by kernel_rfl) (fun w hk => aj (v := D6) rfl) (fU (by kernel_rfl) (aA (aa (ag (ae (dw rfl rfl Si) (ae (au (v := (.int .i64 ((i10 + 1)))) rfl) (ah (az ?_))))))))))
 subst Lc
 exact jV ⟨k9 + 1, i10 + 1, D6, (x8 ++ [((((([102, 117, 110, 32] ++ oq) ++ [32]) ++ qQ) ++ [32]) ++ rO)])⟩ ⟨h.cn _, by omega, hs⟩ (by have := of_decide_eq_true e14; dsimp only; omega)
 rw [gM (hik ▸ e14), gU] at hs
 refine df (aN (aN (bE (aa (ai (ag (ae (au (v := v7) rfl) ?_)))))))
 obtain ⟨FP, e31, hs⟩ := aQ hs
 refine bA U5 rfl rfl (Gl _ _ h.lt v7 x8 (h.dM 5 rfl) [32] _ e31) ?_
 rintro _ w ⟨k32, rfl⟩
 refine ⟨_, rfl, ?_⟩
 replace h := h.grow k32
 refine ae (aj (v := (bu FP)) rfl) (ah (aa (aK (cK (v := (bu FP)) Tryz.results113 rfl ?_))))
 obtain rfl := Option.some.inj hs
 exact ⟨h.grown, rfl⟩
def stringslite_HasPrefix (a : Str) (b : Str) : Option Bool :=
  bif decide (((b.length : Int) : Int) ≤ (a.length : Int)) then (subs? a 0 (b.length : Int)).bind fun x2 => some (decide ((x2 : Str) = b)) else some false
theorem ym (w0 : World) (M : BS) (hM : ∀ b, M b → b < w0.heap.size) (a : Str) (b : Str) (r : Bool) (hs : stringslite_HasPrefix a b = some r) :
    Calls Tryz.prog 141 #[(bu a), (bu b)] w0 (fun e w' => Grow w0 w' ∧ e = .returned (.bool r)) := by
 refine aS (args := [(bu a), (bu b)]) Tryz.func141 rfl Tryz.ntmps141 (Nat.le_of_ble_eq_true rfl) ?_
 have h := SH.init hM
 refine ai (ag (ae (aj (v := (.bool (false))) rfl) (ah (aa (ai (ag (ae (au (v := (bu a)) rfl) (ae (JA Tryz.underlying9 rfl) (ae (au (v := (bu b)) rfl) (ae (JA Tryz.underlying9 rfl) (ae (oK rfl rfl) (ae (au (v := (.bool (decide (((b.length : Int) : Int) ≤ (a.length : Int))))) rfl) (lW (b := decide (((b.length : Int) : Int) ≤ (a.length : Int))) hs (fun c1 hs => ?_) (fun c1 hs => ?_))))))))))))))
 refine eY rfl (congrArg Value.bool c1) (ae (au (v := (bu a)) rfl) (eY rfl (congrArg Value.bool c1) (ae (au (v := (bu b)) rfl) (eY rfl (congrArg Value.bool c1) (ae (JA Tryz.underlying9 rfl) (eY rfl (congrArg Value.bool c1) ?_))))))
 obtain ⟨x2, e3, hs⟩ := aQ hs
 obtain ⟨e4a, e4b, e4c, e4⟩ := Mx e3
 refine ae (Mw e4 Tryz.underlying9 rfl (.inl ⟨rfl, rfl⟩) (.inr (congrArg some rfl)) e4a e4b e4c) (eY rfl (congrArg Value.bool c1) (ae (au (v := (bu b)) rfl) (eY rfl (congrArg Value.bool c1) (ae (DN rfl rfl) (ae (fw (b := true) (v := (.bool (decide ((x2 : Str) = b)))) (congrArg Value.bool c1) rfl) (ae (aj (v := (.bool (decide ((x2 : Str) = b)))) rfl) (ah (aa (aK (cK (v := (.bool (decide ((x2 : Str) = b)))) Tryz.results141 rfl ?_))))))))))
 obtain rfl := Option.some.inj hs
 exact ⟨h.grown, rfl⟩
 refine dh (b' := false) rfl (congrArg Value.bool c1) rfl (dh (b' := false) rfl (congrArg Value.bool c1) rfl (dh (b' := false) rfl (congrArg Value.bool c1) rfl (dh (b' := false) rfl (congrArg Value.bool c1) rfl (dh (b' := false) rfl (congrArg Value.bool c1) rfl (dh (b' := false) rfl (congrArg Value.bool c1) rfl (ae (fw (b := false) (v := (.bool (false))) (congrArg Value.bool c1) rfl) (ae (aj (v := (.bool (false))) rfl) (ah (aa (aK (cK (v := (.bool (false))) Tryz.results141 rfl ?_)))))))))))
 obtain rfl := Option.some.inj hs
 exact ⟨h.grown, rfl⟩
def stringslite_TrimPrefix (a : Str) (b : Str) : Option Str :=
  (stringslite_HasPrefix a b).bind fun y1 => bif y1 then (subs? a (b.length : Int) (a.length : Int)).bind fun x5 => some x5 else some a
theorem xA (w0 : World) (M : BS) (hM : ∀ b, M b → b < w0.heap.size) (a : Str) (b : Str) (r : Str) (hs : stringslite_TrimPrefix a b = some r) :
    Calls Tryz.prog 124 #[(bu a), (bu b)] w0 (fun e w' => Grow w0 w' ∧ e = .returned (bu r)) := by
 refine aS (args := [(bu a), (bu b)]) Tryz.func124 rfl Tryz.ntmps124 (Nat.le_of_ble_eq_true rfl) ?_
 have h := SH.init hM
 refine ai (ag (ae (aj (v := (bu [])) rfl) (ah (aa (ai (ai (ag (ae (au (v := (bu a)) rfl) (ae (au (v := (bu b)) rfl) ?_)))))))))
 obtain ⟨y1, e2, hs⟩ := aQ hs
 refine bA U6 rfl rfl (ym _ _ h.lt a b _ e2) ?_
 rintro _ w ⟨k3, rfl⟩
 refine ⟨_, rfl, ?_⟩
 replace h := h.grow k3
 refine ah (aa (aI hs rfl (fun c4 hs => ?_) (fun c4 hs => ?_)))
 refine ai (ag (ae (au (v := (bu a)) rfl) (ae (au (v := (bu b)) rfl) (ae (JA Tryz.underlying9 rfl) ?_))))
 obtain ⟨x5, e6, hs⟩ := aQ hs
 obtain ⟨e7a, Zq, e7c, e7⟩ := Mx e6
 refine ae (Mw e7 Tryz.underlying9 rfl (.inr (congrArg some rfl)) (.inl ⟨rfl, rfl⟩) e7a Zq e7c) (ae (aj (v := (bu x5)) rfl) (ah (aa (aK (aC (cK (v := (bu x5)) Tryz.results124 rfl ?_))))))
 obtain rfl := Option.some.inj hs
 exact ⟨h.grown, rfl⟩
 refine aG (aa (ai (ag (ae (au (v := (bu a)) rfl) (ae (aj (v := (bu a)) rfl) (ah (aa (aK (cK (v := (bu a)) Tryz.results124 rfl ?_)))))))))
 obtain rfl := Option.some.inj hs
 exact ⟨h.grown, rfl⟩
def strings_TrimPrefix (a : Str) (b : Str) : Option Str :=
  (stringslite_TrimPrefix a b).bind fun y1 => some y1
theorem Ad (w0 : World) (M : BS) (hM : ∀ b, M b → b < w0.heap.size) (a : Str) (b : Str) (r : Str) (hs : strings_TrimPrefix a b = some r) :
    Calls Tryz.prog 105 #[(bu a), (bu b)] w0 (fun e w' => Grow w0 w' ∧ e = .returned (bu r)) := by
 refine aS (args := [(bu a), (bu b)]) Tryz.func105 rfl Tryz.ntmps105 (Nat.le_of_ble_eq_true rfl) ?_
 have h := SH.init hM
 refine ai (ag (ae (aj (v := (bu [])) rfl) (ah (aa (ai (ag (ae (au (v := (bu a)) rfl) (ae (au (v := (bu b)) rfl) ?_))))))))
 obtain ⟨y1, e2, hs⟩ := aQ hs
 refine bA U4 rfl rfl (xA _ _ h.lt a b _ e2) ?_
 rintro _ w ⟨k3, rfl⟩
 refine ⟨_, rfl, ?_⟩
 replace h := h.grow k3
 refine ae (aj (v := (bu y1)) rfl) (ah (aa (aK (cK (v := (bu y1)) Tryz.results105 rfl ?_))))
 obtain rfl := Option.some.inj hs
 exact ⟨h.grown, rfl⟩
def nN (a : List Str) (b : Str) (i2 : Int) (s : Unit) (Ie : Unit → Option Int) : Option Int :=
  (idx a i2).bind fun x8 => bif decide ((b : Str) = x8) then some i2 else Ie ()
def nO (s : Unit) : Option Int :=
  some (-1)
def slices_Index_string (a : List Str) (b : Str) : Option Int :=
  upto (nN a b) nO 0 ((a.length : Int)).toNat ()
theorem zI (w0 : World) (M : BS) (hM : ∀ b, M b → b < w0.heap.size) (va : Value) (a : List Str) (ha : gp nA w0 BE M va a) (b : Str) (r : Int) (hs : slices_Index_string a b = some r) :
    Calls Tryz.prog 110 #[va, (bu b)] w0 (fun e w' => Grow w0 w' ∧ e = .returned (.int .i64 r)) := by
 refine aS (args := [va, (bu b)]) Tryz.func110 rfl Tryz.ntmps110 (Nat.le_of_ble_eq_true rfl) ?_
 have h := SH.init hM
 replace h := h.il 1 ha bR
 have u7 := ha.cO
 refine ai (ag (ae (aj (v := (.int .i64 (0))) rfl) (ah (aa (ai (ai (ag (ae (au (v := va) rfl) (ae (bY dZ rfl (h.je 1 rfl)) (ae (au (v := (.int .i64 (0))) rfl) (ah (aa (aV ?_)))))))))))))
 have hli2 := (h.je 1 rfl).cO
 refine gT (σ := Nat × Int) (inl [4, 5, 8, 9, 10, 11, 12, 13, 14, 15, 16, 17, 18]) (fun ⟨k1, i2⟩ => [(8, (.int .i64 (i2)))]) (fun ⟨k1, i2⟩ w => SH w0 M BE w (hset [(1, .sr nA va a)]) ∧ i2 = (k1 : Int) ∧ upto (nN a b) nO i2 (((a.length : Int)).toNat - k1) () = some r) (fun ⟨k1, i2⟩ => ((a.length : Int)).toNat - k1) ⟨0, 0⟩ ⟨rfl, trivial⟩ ?_ ?_
 exact ⟨h.cn _, rfl, hs⟩
 rintro ⟨k1, i2⟩ w dz ⟨h, hik, hs⟩
 refine ai (ag ?_)
 refine ae (dN rfl rfl) (ah (aa ?_))
 refine ai (iJ rfl (fun e6 => ?_) (fun e6 => ?_))
 refine aG (aa ?_)
 rw [vO (by have := of_decide_eq_true e6; omega)] at hs
 generalize Xv : upto (nN a b) nO (i2 + 1) (((a.length : Int)).toNat - (k1 + 1)) = Ie at hs
 have e7r : jA (i2 + 1) := (by have := of_decide_eq_true e6; have := hli2; exact jA.mk (by omega) (by omega))
 refine ai (aV (ai (ag (ae (au (v := (.int .i64 (i2))) rfl) (ae (aj (v := (.int .i64 (i2))) rfl) (ah (aa (ai (ag (ae (au (v := (bu b)) rfl) (ae (au (v := va) rfl) (ae (au (v := (.int .i64 (i2))) rfl) ?_))))))))))))
 obtain ⟨x8, e9, hs⟩ := aQ hs
 obtain ⟨b11, o12, Zw, h, r14, i10⟩ := h.Bt 1 2 rfl dZ rfl (aJ e9).1 (aJ e9).2
 obtain rfl := r14
 refine ae (i10 _ _ _ _ _ _ _ _ _ rfl rfl) (ae (eF (k := 0) h 2 rfl xZ rfl rfl) (ae (DN rfl rfl) (ah (aa (aI hs rfl (fun c15 hs => ?_) (fun c15 hs => ?_))))))
 refine ai (ag (ae (au (v := (.int .i64 (i2))) rfl) (ae (aj (v := (.int .i64 (i2))) rfl) (ah (aa (aK (aH (aC (aC (aH (aC (cK (v := (.int .i64 (i2))) Tryz.results110 rfl ?_))))))))))))
 obtain rfl := Option.some.inj hs
 exact ⟨h.grown, rfl⟩
 refine aG (aA (aa (ag (ae (dw rfl rfl e7r) (ae (au (v := (.int .i64 ((i2 + 1)))) rfl) (ah (az ?_)))))))
 subst Xv
 exact jV ⟨k1 + 1, i2 + 1⟩ ⟨h.cn _, by omega, hs⟩ (by have := of_decide_eq_true e6; dsimp only; omega)
 rw [vP (by have := of_decide_eq_false e6; omega)] at hs
 refine df (aN (aN (bE (aa (ai (ag (ae (aj (v := (.int .i64 (-1))) rfl) (ah (aa (aK (cK (v := (.int .i64 (-1))) Tryz.results110 rfl ?_)))))))))))
 obtain rfl := Option.some.inj hs
 exact ⟨h.grown, rfl⟩
def zg (BO : Int) (J6 : (Int × Int × Int) → Option (List Tok × dH)) (wV : Int) (yP : Int) : Option (List Tok × dH) :=
  gz (jA (BO + 1)) (J6 ((BO + 1), wV, yP))
def zh (x29 : Str) (yn : List Tok) (F : List eO) (y31 : Int) (yQ : Int) (yh : (List Tok × Int × Bool × Int) → Option (List Tok × dH)) (FP : Bool) (s : Int × Int × Int) (J6 : Int × Int × Int → Option (List Tok × dH)) : Option (List Tok × dH) :=
  match s with | (BO, FQ, tK) => bif decide ((BO : Int) ≤ 5) then (jh (⟨3, BO⟩ : Tok)).bind fun FR => bif decide ((FR : Str) = x29) then zg BO J6 3 BO else zg BO J6 FQ tK else gz (Room 16 yn [(⟨FQ, tK⟩ : Tok)]) (bif (decide (((dW (⟨FQ, tK⟩ : Tok) F 6) : Int) ≠ 0) || decide ((24 : Int) < ((yn ++ [(⟨FQ, tK⟩ : Tok)]).length : Int))) then some ((yn ++ [(⟨FQ, tK⟩ : Tok)]), (⟨y31, false⟩ : dH)) else (qw (⟨FQ, tK⟩ : Tok) F).bind fun V5 => gz (jA (yQ + V5)) (gz (jA ((yQ + V5) - 1)) (yh ((yn ++ [(⟨FQ, tK⟩ : Tok)]), ((yQ + V5) - 1), FP, y31))))
def sM (vk : (Int × Str)) (Da : Int × Bool) (Mm : Int) (wF : Int) (Yv : Bool) : Option (Int × Int) :=
  bif Yv then some (vk.1, Da.1) else some (Mm, wF)
def nP (x29 : Str) (vk : (Int × Str)) (s : Int × Int) : Option (Int × Int) :=
  match s with | (Mm, wF) => (strings_TrimPrefix x29 vk.2).bind fun xB => (zY xB).bind fun Da => bif (!Da.2) then (jh (⟨vk.1, Da.1⟩ : Tok)).bind fun qM => sM vk Da Mm wF (decide ((qM : Str) = x29)) else sM vk Da Mm wF false
def Db (N : Nat) (x29 : Str) (yn : List Tok) (F : List eO) (y31 : Int) (yQ : Int) (yh : (List Tok × Int × Bool × Int) → Option (List Tok × dH)) (FP : Bool) (s : Int × Int) : Option (List Tok × dH) :=
  match s with | (Mm, wF) => again (zh x29 yn F y31 yQ yh FP) N (1, Mm, wF)
def sN (N : Nat) (yn : List Tok) (F : List eO) (yQ : Int) (yh : (List Tok × Int × Bool × Int) → Option (List Tok × dH)) (x29 : Str) (FP : Bool) (y31 : Int) : Option (List Tok × dH) :=
  (wZ (nP x29) ([(2, [118]), (4, [46]), (5, [110, 101, 119]), (6, [102]), (1, [])] : List (Int × Str)) (0, 0)).bind fun Lf => (Db N x29 yn F y31 yQ yh FP) Lf
def sO (N : Nat) (W : List Str) (F : List eO) (s : List Tok × Int × Bool × Int) (yh : List Tok × Int × Bool × Int → Option (List Tok × dH)) : Option (List Tok × dH) :=
  match s with | (yn, yQ, Fg, y20) => bif (decide ((0 : Int) < yQ) && Fg) then bif decide (((W.length : Int) : Int) ≤ y20) then sN N yn F yQ yh [] false y20 else gz (jA (y20 + 1)) (gz (jA ((y20 + 1) - 1)) ((idx W ((y20 + 1) - 1)).bind fun x103 => sN N yn F yQ yh x103 Fg (y20 + 1))) else some (yn, (⟨y20, Fg⟩ : dH))
def Dc (N : Nat) (sx : dH) (W : List Str) (F : List eO) : Option (List Tok × dH) :=
  again (sO N W F) N ([], 1, sx.ok, sx.at_)
theorem IW (N : Nat) (w0 : World) (M : BS) (hM : ∀ b, M b → b < w0.heap.size) (hT : uy Tryz.prog 4 w0) (ba bo bw bwd bf : Nat) (sx : dH) (hC : Chunk.holds w0 M (Chunk.own' (.two (.blk ba [(.int .i64 (sx.at_))]) (.blk bo [(.bool (sx.ok))]) : Chunk)) (.two (.blk ba [(.int .i64 (sx.at_))]) (.blk bo [(.bool (sx.ok))]) : Chunk)) (hap : ∀ b, Chunk.own' (.two (.blk ba [(.int .i64 (sx.at_))]) (.blk bo [(.bool (sx.ok))]) : Chunk) b → ¬ M b) (vW : Value) (W : List Str) (ZC : fo nA w0 (fun b => M b ∨ Chunk.own' (.two (.blk ba [(.int .i64 (sx.at_))]) (.blk bo [(.bool (sx.ok))]) : Chunk) b) vW W) (vF : Value) (F : List eO) (ZE : gp iH w0 (Chunk.own' (.two (.blk ba [(.int .i64 (sx.at_))]) (.blk bo [(.bool (sx.ok))]) : Chunk)) (fun b => M b ∨ Chunk.own' (.two (.blk ba [(.int .i64 (sx.at_))]) (.blk bo [(.bool (sx.ok))]) : Chunk) b) vF F) (hbw : ∃ E, w0.heap[bw]? = some (.cells #[vW] E (0, 0))) (Sn : ¬ Chunk.own' (.two (.blk ba [(.int .i64 (sx.at_))]) (.blk bo [(.bool (sx.ok))]) : Chunk) bw) (J7 : ∃ E, w0.heap[bwd]? = some (.cells #[(.func (.func 103) #[] #[(.pointer (some ⟨ba, 0, none⟩)), (.pointer (some ⟨bw, 0, none⟩)), (.pointer (some ⟨bo, 0, none⟩))])] E (0, 0))) (Gm : ¬ Chunk.own' (.two (.blk ba [(.int .i64 (sx.at_))]) (.blk bo [(.bool (sx.ok))]) : Chunk) bwd) (hbf : ∃ E, w0.heap[bf]? = some (.cells #[vF] E (0, 0))) (Sq : ¬ Chunk.own' (.two (.blk ba [(.int .i64 (sx.at_))]) (.blk bo [(.bool (sx.ok))]) : Chunk) bf) (hG : ∀ b, Chunk.own' (.two (.blk ba [(.int .i64 (sx.at_))]) (.blk bo [(.bool (sx.ok))]) : Chunk) b → Tryz.prog.globals.size ≤ b) (r : List Tok × dH) (hs : Dc N sx W F = some r) :
    Calls Tryz.prog 104 #[(.pointer (some ⟨bo, 0, none⟩)), (.pointer (some ⟨bwd, 0, none⟩)), (.pointer (some ⟨bf, 0, none⟩))] w0 (fun e w' => aP (Chunk.own' (.two (.blk ba [(.int .i64 (sx.at_))]) (.blk bo [(.bool (sx.ok))]) : Chunk)) w0 w' ∧ ∃ u0, e = .returned (u0) ∧ Chunk.holds w' M (Chunk.own' (.two (.blk ba [.int .i64 r.2.at_]) (.blk bo [.bool r.2.ok]) : Chunk)) (.two (.blk ba [.int .i64 r.2.at_]) (.blk bo [.bool r.2.ok]) : Chunk) ∧ (∀ b, Chunk.own' (.two (.blk ba [.int .i64 r.2.at_]) (.blk bo [.bool r.2.ok]) : Chunk) b → b < w0.heap.size → Chunk.own' (.two (.blk ba [(.int .i64 (sx.at_))]) (.blk bo [(.bool (sx.ok))]) : Chunk) b) ∧ fo jY w' (fun b => M b ∨ Chunk.own' (.two (.blk ba [.int .i64 r.2.at_]) (.blk bo [.bool r.2.ok]) : Chunk) b) u0 r.1) := by
 refine aS (args := [(.pointer (some ⟨bo, 0, none⟩)), (.pointer (some ⟨bwd, 0, none⟩)), (.pointer (some ⟨bf, 0, none⟩))]) Tryz.func104 rfl Tryz.ntmps104 (Nat.le_of_ble_eq_true rfl) ?_
 have h := SH.E5 hM hC hap
 replace h := h.BL 3 ZC zG
 replace h := h.Ro 4 ZE (su zG)
 replace h := h.yX 5 (cs := [vW]) hbw Sn (w9 (su zG))
 replace h := h.yX 6 (cs := [(.func (.func 103) #[] #[(.pointer (some ⟨ba, 0, none⟩)), (.pointer (some ⟨bw, 0, none⟩)), (.pointer (some ⟨bo, 0, none⟩))])]) J7 Gm (qo (w9 (su zG)))
 replace h := h.yX 7 (cs := [vF]) hbf Sq (qo (qo (w9 (su zG))))
 have MX := Sn
 have Gn := Gm
 have MZ := Sq
 generalize zJ : (.two (.blk ba [(.int .i64 (sx.at_))]) (.blk bo [(.bool (sx.ok))]) : Chunk).own' = K0 at h MX Gn MZ hG
 replace h := h.bU 1 2 (by decide) rfl rfl
 refine ai (ag (ae (aj (v := (.slice none 0 0)) rfl) (ah (aa (ai (ag (ae (aj (v := (.slice none 0 0)) rfl) (ah (aa (ai (ai (ag (ae (aj (v := (.int .i64 (1))) rfl) (ah (aa (aV ?_))))))))))))))))
 replace h := h.xO (R := jY) (E := 160) 11
 refine gT (σ := Nat × Value × List Tok × Int × Bool × Int) (inl [4, 5, 6, 7, 8, 9, 10, 11, 12, 13, 14, 15, 16, 17, 18, 19, 20, 21, 22, 23, 24, 25, 26, 27, 28, 29, 30, 31, 32, 33, 34, 35, 36, 37, 38, 39, 40, 41, 42, 43, 44, 45, 46, 47, 48, 49, 50, 51, 52, 53, 54, 55, 56, 57, 58, 59, 60, 61, 62, 63, 64, 65, 66, 67, 68, 69, 70, 71, 72, 73, 74, 75, 76, 77, 78, 79]) (fun ⟨m24, v16, yn, yQ, Fg, y20⟩ => [(4, v16), (5, (.int .i64 (yQ)))]) (fun ⟨m24, v16, yn, yQ, Fg, y20⟩ w => SH w0 M K0 w (hset [(1, .blk ba [(.int .i64 (y20))]), (2, .blk bo [(.bool (Fg))]), (3, .rd nA vW W), (4, .sr iH vF F), (5, .pt bw 0 [vW]), (6, .pt bwd 0 [(.func (.func 103) #[] #[(.pointer (some ⟨ba, 0, none⟩)), (.pointer (some ⟨bw, 0, none⟩)), (.pointer (some ⟨bo, 0, none⟩))])]), (7, .pt bf 0 [vF]), (11, .own jY 160 v16 yn)]) ∧ again (sO N W F) m24 (yn, yQ, Fg, y20) = some r) (fun ⟨m24, v16, yn, yQ, Fg, y20⟩ => m24) ⟨N, (.slice none 0 0), [], 1, sx.ok, sx.at_⟩ ⟨rfl, rfl, trivial⟩ ?_ ?_
 exact ⟨h.cn _, hs⟩
 rintro ⟨m24, v16, yn, yQ, Fg, y20⟩ w dz ⟨h, hs⟩
 obtain ⟨ZF, m24e, m24h⟩ := qm hs
 subst m24e
 replace hs := m24h
 generalize RS : again (sO N W F) ZF = yh at hs
 refine ai (ai (ag (ae (au (v := (.int .i64 (yQ))) rfl) (ae (jH rfl rfl) (ae (au (v := (.bool (decide ((0 : Int) < yQ)))) rfl) (aD rfl rfl (fun q => aF h 2 rfl wT rfl rfl) (ae (fZ rfl rfl lV) (ah (aa (aI hs rfl (fun c28 hs => ?_) (fun c28 hs => ?_)))))))))))
 refine aG (aa (ai (aV (bV (σ := Str × Bool × Int) (inl [6, 20, 21]) (fun ⟨x29, FP, y31⟩ => [(6, (bu x29))]) (fun ⟨x29, FP, y31⟩ w => SH w0 M K0 w (hset [(1, .blk ba [(.int .i64 (y31))]), (2, .blk bo [(.bool (FP))]), (3, .rd nA vW W), (4, .sr iH vF F), (5, .pt bw 0 [vW]), (6, .pt bwd 0 [(.func (.func 103) #[] #[(.pointer (some ⟨ba, 0, none⟩)), (.pointer (some ⟨bw, 0, none⟩)), (.pointer (some ⟨bo, 0, none⟩))])]), (7, .pt bf 0 [vF]), (11, .own jY 160 v16 yn)]) ∧ sN N yn F yQ yh x29 FP y31 = some r) ?_ ?_))))
 rintro ⟨x29, FP, y31⟩ w dz ⟨h, hs⟩
 refine ai (ag (ae (dC (pv := []) (out := [(.int .i64 (0)), (.int .i64 (0))]) yc rfl rfl) (bT h 12 jJ fun w b32 h => dm (vs := [(.int .i64 (0)), (.int .i64 (0))]) h 12 [(.int .i64 (0)), (.int .i64 (0))] rfl jJ rfl rfl rfl rfl rfl (ax rfl (ax rfl aZ)) fun w h => ah (aa (ai (ai (ag (AQ h 13 fun w ZG h => mF (oM := [(2, (bu [118]))]) h 13 rfl kz rfl rfl rfl rfl fun w h => mF (oM := [(2, (bu [118])), (4, (bu [46]))]) h 13 rfl kz rfl rfl rfl rfl fun w h => mF (oM := [(2, (bu [118])), (4, (bu [46])), (5, (bu [110, 101, 119]))]) h 13 rfl kz rfl rfl rfl rfl fun w h => mF (oM := [(2, (bu [118])), (4, (bu [46])), (5, (bu [110, 101, 119])), (6, (bu [102]))]) h 13 rfl kz rfl rfl rfl rfl fun w h => mF (oM := [(2, (bu [118])), (4, (bu [46])), (5, (bu [110, 101, 119])), (6, (bu [102])), (1, (bu []))]) h 13 rfl kz rfl rfl rfl rfl fun w h => ae (au (v := (.map (some ZG))) rfl) (UL (f := bu) ([(2, [118]), (4, [46]), (5, [110, 101, 119]), (6, [102]), (1, [])] : List (Int × Str)) h 13 rfl kz rfl rfl fun w b34 h => ah (aa (aV ?_)))))))))))
 obtain ⟨Lf, M0, hs⟩ := aQ hs
 replace M0 := WZ M0
 refine gT (σ := List (Int × Str) × Int × Int) (inl [8, 9, 10, 11, 26, 27, 28, 29, 30, 31, 32, 33, 34, 35, 36, 37, 38, 39, 40, 41, 42, 43, 44, 45, 46, 47, 48, 49, 50]) (fun ⟨lf43, Mm, wF⟩ => []) (fun ⟨lf43, Mm, wF⟩ w => SH w0 M K0 w (hset [(1, .blk ba [(.int .i64 (y31))]), (2, .blk bo [(.bool (FP))]), (3, .rd nA vW W), (4, .sr iH vF F), (5, .pt bw 0 [vW]), (6, .pt bwd 0 [(.func (.func 103) #[] #[(.pointer (some ⟨ba, 0, none⟩)), (.pointer (some ⟨bw, 0, none⟩)), (.pointer (some ⟨bo, 0, none⟩))])]), (7, .pt bf 0 [vF]), (11, .own jY 160 v16 yn), (12, .blk b32 [(.int .i64 (Mm)), (.int .i64 (wF))]), (13, .bJ (Ic bu ZG b34 none lf43))]) ∧ qZ (nP x29) lf43 (Mm, wF) Lf) (fun ⟨lf43, Mm, wF⟩ => lf43.length) ⟨([(2, [118]), (4, [46]), (5, [110, 101, 119]), (6, [102]), (1, [])] : List (Int × Str)), 0, 0⟩ trivial ?_ ?_
 exact ⟨h.cn _, M0⟩
 rintro ⟨lf43, Mm, wF⟩ w dz ⟨h, hf⟩
 refine ai (ag ?_)
 refine WY h 13 rfl rfl (fun e48 => ?_) (fun vk XA w e48 h => ?_)
 obtain rfl := qZ.nil (e48 ▸ hf)
 refine ae (bC rfl rfl) (ah (aa ?_))
 refine ai (Wz rfl (df (aN (aN (bE (aa (ai (ai (ag (ae (aj (v := (.int .i64 (1))) rfl) (ah (aa (aV (gT (σ := Nat × Int × Int × Int) (inl [12, 51, 52, 53, 54, 55, 56, 57, 58, 59, 60, 61]) (fun ⟨m64, BO, FQ, tK⟩ => [(12, (.int .i64 (BO)))]) (fun ⟨m64, BO, FQ, tK⟩ w => SH w0 M K0 w (hset [(1, .blk ba [(.int .i64 (y31))]), (2, .blk bo [(.bool (FP))]), (3, .rd nA vW W), (4, .sr iH vF F), (5, .pt bw 0 [vW]), (6, .pt bwd 0 [(.func (.func 103) #[] #[(.pointer (some ⟨ba, 0, none⟩)), (.pointer (some ⟨bw, 0, none⟩)), (.pointer (some ⟨bo, 0, none⟩))])]), (7, .pt bf 0 [vF]), (11, .own jY 160 v16 yn), (12, .blk b32 [(.int .i64 (FQ)), (.int .i64 (tK))])]) ∧ again (zh x29 yn F y31 yQ yh FP) m64 (BO, FQ, tK) = some r) (fun ⟨m64, BO, FQ, tK⟩ => m64) ⟨N, 1, Mm, wF⟩ ⟨rfl, trivial⟩ ?_ ?_))))))))))))))
 exact ⟨h.cn _, hs⟩
 rintro ⟨m64, BO, FQ, tK⟩ w dz ⟨h, hs⟩
 obtain ⟨ZH, m64e, m64h⟩ := qm hs
 subst m64e
 replace hs := m64h
 generalize Sr : again (zh x29 yn F y31 yQ yh FP) ZH = J6 at hs
 refine ai (ai (ag (ae (au (v := (.int .i64 (BO))) rfl) (ae (CE rfl rfl) (ah (aa (aI hs rfl (fun c68 hs => ?_) (fun c68 hs => ?_))))))))
 refine aG (aa (bV (σ := Int × Int) (inl [55, 56, 57, 58, 59, 60, 61]) (fun ⟨wV, yP⟩ => []) (fun ⟨wV, yP⟩ w => SH w0 M K0 w (hset [(1, .blk ba [(.int .i64 (y31))]), (2, .blk bo [(.bool (FP))]), (3, .rd nA vW W), (4, .sr iH vF F), (5, .pt bw 0 [vW]), (6, .pt bwd 0 [(.func (.func 103) #[] #[(.pointer (some ⟨ba, 0, none⟩)), (.pointer (some ⟨bw, 0, none⟩)), (.pointer (some ⟨bo, 0, none⟩))])]), (7, .pt bf 0 [vF]), (11, .own jY 160 v16 yn), (12, .blk b32 [(.int .i64 (wV)), (.int .i64 (yP))])]) ∧ zg BO J6 wV yP = some r) ?_ ?_))
 rintro ⟨wV, yP⟩ w dz ⟨h, hs⟩
 refine ag (ae (au (v := (.int .i64 (BO))) rfl) ?_)
 obtain ⟨a71, hs⟩ := bG hs
 refine ae (dw rfl rfl a71) (ae (aj (v := (.int .i64 ((BO + 1)))) rfl) (ah (az ?_)))
 subst Sr
 exact jV ⟨ZH, (BO + 1), wV, yP⟩ ⟨h.cn _, hs⟩
 refine aV (ai (ag (ae (au (v := (.int .i64 (BO))) rfl) (ae (dC (pv := [(0, (.int .i64 (3))), (1, (.int .i64 (BO)))]) (out := [(.int .i64 (3)), (.int .i64 (BO))]) yc rfl ⟨0, 1, [(.int .i64 (3))], rfl, rfl, rfl, Nat.le_of_ble_eq_true rfl, ⟨1, 1, [(.int .i64 (BO))], rfl, rfl, rfl, Nat.le_of_ble_eq_true rfl, rfl⟩⟩) ?_))))
 obtain ⟨FR, e73, hs⟩ := aQ hs
 refine bA JU rfl rfl (oG _ _ h.lt (hT.Rf h.keep hG) (⟨3, BO⟩ : Tok) _ e73) ?_
 rintro _ w ⟨k74, rfl⟩
 refine ⟨_, rfl, ?_⟩
 replace h := h.grow k74
 refine ae (au (v := (bu x29)) rfl) (ae (DN rfl rfl) (ah (aa (aI hs rfl (fun c75 hs => ?_) (fun c75 hs => ?_)))))
 refine ag (ae (au (v := (.int .i64 (BO))) rfl) (ae (dC (pv := [(0, (.int .i64 (3))), (1, (.int .i64 (BO)))]) (out := [(.int .i64 (3)), (.int .i64 (BO))]) yc rfl ⟨0, 1, [(.int .i64 (3))], rfl, rfl, rfl, Nat.le_of_ble_eq_true rfl, ⟨1, 1, [(.int .i64 (BO))], rfl, rfl, rfl, Nat.le_of_ble_eq_true rfl, rfl⟩⟩) (dm (vs := [(.int .i64 (3)), (.int .i64 (BO))]) h 12 [(.int .i64 (3)), (.int .i64 (BO))] rfl jJ rfl rfl rfl rfl rfl (ax rfl (ax rfl aZ)) fun w h => ah (aA (az ?_)))))
 exact bQ (3, BO) ⟨h.cn _, hs⟩
 refine aG (aA (az ?_))
 exact bQ (FQ, tK) ⟨h.cn _, hs⟩
 refine df (aN (aN (bE (aa (ai (ai (ag (ae (au (v := v16) rfl) (ae (dS (vs := [(.int .i64 (FQ)), (.int .i64 (tK))]) h 12 rfl jJ rfl rfl rfl) (uw (R := jY) (vs := [(.agg #[(.int .i64 (FQ)), (.int .i64 (tK))])]) (xs := [(⟨FQ, tK⟩ : Tok)]) h 14 IP rfl rfl rfl ⟨rfl, trivial⟩ rfl fun w u76 h => ?_))))))))))
 obtain ⟨a77, hs⟩ := bG hs
 refine mo (R := jY) (m := [(⟨FQ, tK⟩ : Tok)]) h 11 rfl (h.dM 14 rfl) IP rfl rfl rfl a77.1 a77.2 fun w KF h => ae (aj (v := KF) rfl) (ah (aa (ai (ag (ae (dS (vs := [(.int .i64 (FQ)), (.int .i64 (tK))]) h 12 rfl jJ rfl rfl rfl) (ae (eF (k := 0) h 7 rfl xY rfl rfl) (bA Ot rfl rfl (sF _ _ h.lt (⟨FQ, tK⟩ : Tok) vF F (h.je 4 rfl) 6 _ rfl) ?_)))))))
 rintro _ w ⟨k79, rfl⟩
 refine ⟨_, rfl, ?_⟩
 replace h := h.grow k79
 refine ae (gq rfl rfl) (ae (au (v := (.bool (decide (((dW (⟨FQ, tK⟩ : Tok) F 6) : Int) ≠ 0)))) rfl) (aD rfl rfl (fun q => au (v := KF) rfl) (aD rfl rfl (fun q => bY jP (dn q) (h.dM 11 rfl)) (aD rfl rfl (fun q => jH (dn q) rfl) (ae (gu rfl rfl lV) (ah (aa (aI hs rfl (fun c80 hs => ?_) (fun c80 hs => ?_)))))))))
 refine ai (ag (fq h 2 [(.bool (false))] rfl wT rfl rfl rfl rfl rfl fun w h => ah (aa (df (aN (tQ (by decide) (aN (aN (bE (aa (ai (ag (ae (au (v := KF) rfl) (ae (aj (v := KF) rfl) (ah (aa (aK (cK (v := KF) Tryz.results104 rfl ?_))))))))))))))))))
 replace h := h.freeze 11 rfl
 replace h := h.pair 1 2 (by decide)
 obtain rfl := Option.some.inj hs
 subst zJ
 obtain ⟨o1, o2, o3⟩ := h.qH 1 (C := (.two (.blk ba [(.int .i64 (y31))]) (.blk bo [(.bool (false))]) : Chunk)) rfl ⟨trivial, trivial⟩
 exact ⟨o2, KF, rfl, o1, o3, h.MC 1 11 rfl rfl⟩
 refine aG (aa (ag (ae (au (v := (.int .i64 (yQ))) rfl) (ae (dS (vs := [(.int .i64 (FQ)), (.int .i64 (tK))]) h 12 rfl jJ rfl rfl rfl) (ae (eF (k := 0) h 7 rfl xY rfl rfl) ?_)))))
 obtain ⟨V5, e82, hs⟩ := aQ hs
 refine bA JV rfl rfl (rz _ _ h.lt (⟨FQ, tK⟩ : Tok) vF F (h.je 4 rfl) _ e82) ?_
 rintro _ w ⟨k83, rfl⟩
 refine ⟨_, rfl, ?_⟩
 replace h := h.grow k83
 obtain ⟨a84, hs⟩ := bG hs
 refine ae (dw rfl rfl a84) (ae (aj (v := (.int .i64 ((yQ + V5)))) rfl) (ah (aA (aa (ag (ae (au (v := (.int .i64 ((yQ + V5)))) rfl) ?_))))))
 obtain ⟨a85, hs⟩ := bG hs
 refine ae (oh rfl rfl a85) (ae (aj (v := (.int .i64 (((yQ + V5) - 1)))) rfl) (ah (az ?_)))
 subst RS
 exact jV ⟨ZF, KF, (yn ++ [(⟨FQ, tK⟩ : Tok)]), ((yQ + V5) - 1), FP, y31⟩ ⟨h.cn _, hs⟩
 obtain ⟨sr47, hs1, hf1⟩ := hf.cons e48
 replace hs := hs1
 refine ae (bC rfl rfl) (ah (aa ?_))
 refine ai (Wy rfl (aG (aa ?_)))
 refine aV (ai (ag (ae (UM (f := bu) h 13 rfl rfl) (ae (bC rfl rfl) (ae (bC rfl rfl) (ae (aj (v := (.int .i64 (vk.1))) rfl) (ae (aj (v := (bu vk.2)) rfl) (ah (aa (ai (ag (ae (au (v := (bu x29)) rfl) (ae (au (v := (bu vk.2)) rfl) ?_)))))))))))))
 obtain ⟨xB, ZI, hs⟩ := aQ hs
 refine bA UY rfl rfl (Ad _ _ h.lt x29 vk.2 _ ZI) ?_
 rintro _ w ⟨k88, rfl⟩
 refine ⟨_, rfl, ?_⟩
 replace h := h.grow k88
 obtain ⟨Da, Zp, hs⟩ := aQ hs
 refine bA CY rfl rfl (pG _ _ h.lt (hT.Rf h.keep hG) xB _ Zp) ?_
 rintro _ w ⟨k93, XB, rfl, g92⟩
 refine ⟨_, rfl, ?_⟩
 replace h := h.grow k93
 refine ae (au (v := (.tuple #[(.int .i64 (Da.1)), XB])) rfl) (ae (bC rfl rfl) (ae (bC rfl rfl) (ae (aj (v := (.int .i64 (Da.1))) rfl) (ae (aj (v := XB) rfl) (ah (aa (bV (σ := Bool) (inl [38, 39, 40, 41, 42, 43, 44, 45, 46, 47]) (fun Yv => [(47, (.bool (Yv)))]) (fun Yv w => SH w0 M K0 w (hset [(1, .blk ba [(.int .i64 (y31))]), (2, .blk bo [(.bool (FP))]), (3, .rd nA vW W), (4, .sr iH vF F), (5, .pt bw 0 [vW]), (6, .pt bwd 0 [(.func (.func 103) #[] #[(.pointer (some ⟨ba, 0, none⟩)), (.pointer (some ⟨bw, 0, none⟩)), (.pointer (some ⟨bo, 0, none⟩))])]), (7, .pt bf 0 [vF]), (11, .own jY 160 v16 yn), (12, .blk b32 [(.int .i64 (Mm)), (.int .i64 (wF))]), (13, .bJ (Ic bu ZG b34 (some vk) XA))]) ∧ sM vk Da Mm wF Yv = some sr47) ?_ ?_)))))))
 rintro Yv w dz ⟨h, hs⟩
 refine aI hs rfl (fun c95 hs => ?_) (fun c95 hs => ?_)
 refine ag (ae (au (v := (.int .i64 (vk.1))) rfl) (ae (au (v := (.int .i64 (Da.1))) rfl) (ae (dC (pv := [(0, (.int .i64 (vk.1))), (1, (.int .i64 (Da.1)))]) (out := [(.int .i64 (vk.1)), (.int .i64 (Da.1))]) yc rfl ⟨0, 1, [(.int .i64 (vk.1))], rfl, rfl, rfl, Nat.le_of_ble_eq_true rfl, ⟨1, 1, [(.int .i64 (Da.1))], rfl, rfl, rfl, Nat.le_of_ble_eq_true rfl, rfl⟩⟩) (dm (vs := [(.int .i64 (vk.1)), (.int .i64 (Da.1))]) h 12 [(.int .i64 (vk.1)), (.int .i64 (Da.1))] rfl jJ rfl rfl rfl rfl rfl (ax rfl (ax rfl aZ)) fun w h => ah (aA (az ?_))))))
 replace h := h.IK 13 rfl
 obtain rfl := Option.some.inj hs
 exact jV ⟨XA, vk.1, Da.1⟩ ⟨h.cn _, hf1⟩ (by have := e48.length_eq; simp only [List.length_cons] at this; dsimp only; omega)
 refine aG (aA (az ?_))
 replace h := h.IK 13 rfl
 obtain rfl := Option.some.inj hs
 exact jV ⟨XA, Mm, wF⟩ ⟨h.cn _, hf1⟩ (by have := e48.length_eq; simp only [List.length_cons] at this; dsimp only; omega)
 refine ag (ae (au (v := XB) rfl) (ae (O8 Pj rfl g92 rfl) (ae (au (v := (.bool ((!Da.2)))) rfl) (lW (b := (!Da.2)) hs (fun M3 hs => ?_) (fun M3 hs => ?_)))))
 refine eY rfl (congrArg Value.bool M3) (ae (au (v := (.int .i64 (vk.1))) rfl) (eY rfl (congrArg Value.bool M3) (ae (au (v := (.int .i64 (Da.1))) rfl) (eY rfl (congrArg Value.bool M3) (ae (dC (pv := [(0, (.int .i64 (vk.1))), (1, (.int .i64 (Da.1)))]) (out := [(.int .i64 (vk.1)), (.int .i64 (Da.1))]) yc rfl ⟨0, 1, [(.int .i64 (vk.1))], rfl, rfl, rfl, Nat.le_of_ble_eq_true rfl, ⟨1, 1, [(.int .i64 (Da.1))], rfl, rfl, rfl, Nat.le_of_ble_eq_true rfl, rfl⟩⟩) (eY rfl (congrArg Value.bool M3) ?_))))))
 obtain ⟨qM, e98, hs⟩ := aQ hs
 refine bA JU rfl rfl (oG _ _ h.lt (hT.Rf h.keep hG) (⟨vk.1, Da.1⟩ : Tok) _ e98) ?_
 rintro _ w ⟨k99, rfl⟩
 refine ⟨_, rfl, ?_⟩
 replace h := h.grow k99
 refine eY rfl (congrArg Value.bool M3) (ae (au (v := (bu x29)) rfl) (eY rfl (congrArg Value.bool M3) (ae (DN rfl rfl) (ae (fw (b := true) (v := (.bool (decide ((qM : Str) = x29)))) (congrArg Value.bool M3) rfl) (ah (az ?_))))))
 exact bQ (decide ((qM : Str) = x29)) ⟨h.cn _, hs⟩
 refine dh (b' := false) rfl (congrArg Value.bool M3) rfl (dh (b' := false) rfl (congrArg Value.bool M3) rfl (dh (b' := false) rfl (congrArg Value.bool M3) rfl (dh (b' := false) rfl (congrArg Value.bool M3) rfl (dh (b' := false) rfl (congrArg Value.bool M3) rfl (dh (b' := false) rfl (congrArg Value.bool M3) rfl (ae (fw (b := false) (v := (.bool (false))) (congrArg Value.bool M3) rfl) (ah (az ?_))))))))
 exact bQ false ⟨h.cn _, hs⟩
 refine ag (ae (eF (k := 0) h 6 rfl ze rfl rfl) (lX (args := [(.pointer (some ⟨ba, 0, none⟩)), (.pointer (some ⟨bw, 0, none⟩)), (.pointer (some ⟨bo, 0, none⟩))]) za rfl rfl (aS (args := [(.pointer (some ⟨ba, 0, none⟩)), (.pointer (some ⟨bw, 0, none⟩)), (.pointer (some ⟨bo, 0, none⟩))]) Tryz.func103 rfl Tryz.ntmps103 (Nat.le_of_ble_eq_true rfl) (ai (ag (ae (aj (v := (bu [])) rfl) (ah (aa (ai (ai (ag (ae (aF h 1 rfl bz rfl rfl) (ae (eF (k := 0) h 5 rfl mf rfl rfl) (ae (bY dZ rfl (h.oZ 3 rfl)) (ae (oK rfl rfl) (ah (aa (aI hs rfl (fun c100 hs => ?_) (fun c100 hs => ?_)))))))))))))))))))
 refine ai (ag (fq h 2 [(.bool (false))] rfl wT rfl rfl rfl rfl rfl fun w h => ah (aa (ai (ag (ae (aj (v := (bu [])) rfl) (ah (aa (aK (aC (cK (v := (bu [])) Tryz.results103 rfl (⟨_, rfl, ?_⟩))))))))))))
 refine ae (aj (v := (bu [])) rfl) (ah (az ?_))
 exact bQ ([], false, y20) ⟨h.cn _, hs⟩
 refine aG (aa (ai (ag (ae (aF h 1 rfl bz rfl rfl) ?_))))
 obtain ⟨Vb, hs⟩ := bG hs
 refine ae (dw rfl rfl Vb) (fq h 1 [(.int .i64 ((y20 + 1)))] rfl bz rfl rfl rfl rfl rfl fun w h => ah (aa (ai (ag (ae (eF (k := 0) h 5 rfl mf rfl rfl) (ae (aF h 1 rfl bz rfl rfl) ?_))))))
 obtain ⟨a102, hs⟩ := bG hs
 refine ae (oh rfl rfl a102) ?_
 obtain ⟨x103, Vd, hs⟩ := aQ hs
 obtain ⟨b106, o107, cs108, h, r109, i105⟩ := h.DI 3 15 rfl dZ rfl (aJ Vd).1 (aJ Vd).2
 obtain rfl := r109
 refine ae (i105 _ _ _ _ _ _ _ _ _ rfl rfl) (ae (eF (k := 0) h 15 rfl xZ rfl rfl) (ae (aj (v := (bu x103)) rfl) (ah (aa (aK (cK (v := (bu x103)) Tryz.results103 rfl (⟨_, rfl, ?_⟩)))))))
 refine ae (aj (v := (bu x103)) rfl) (ah (az ?_))
 exact bQ (x103, Fg, (y20 + 1)) ⟨h.cn _, hs⟩
 refine df (aN (aN (bE (aa (ai (ag (ae (au (v := v16) rfl) (ae (aj (v := v16) rfl) (ah (aa (aK (cK (v := v16) Tryz.results104 rfl ?_))))))))))))
 replace h := h.freeze 11 rfl
 replace h := h.pair 1 2 (by decide)
 obtain rfl := Option.some.inj hs
 subst zJ
 obtain ⟨o1, o2, o3⟩ := h.qH 1 (C := (.two (.blk ba [(.int .i64 (y20))]) (.blk bo [(.bool (Fg))]) : Chunk)) rfl ⟨trivial, trivial⟩
 exact ⟨o2, v16, rfl, o1, o3, h.MC 1 11 rfl rfl⟩
def zi (oQ : List bF) (lG : Int) (xM : Int) (yO : List Tok) (A9 : List Tok) (M4 : List bF) (kW : (List bF × Int × Bool) → Option (List bF × dH)) (XC : Int) (XD : Bool) (tK : List bF) : Option (List bF × dH) :=
  gz (Room 112 oQ [(⟨(lG + 1), xM, yO, A9, M4, tK⟩ : bF)]) (kW ((oQ ++ [(⟨(lG + 1), xM, yO, A9, M4, tK⟩ : bF)]), XC, XD))
def zk (F0 : dH → List Str → List eO → Int → Option (List bF × dH)) (lG : Int) (a : Int) (W : List Str) (F : List eO) (oQ : List bF) (xM : Int) (yO : List Tok) (A9 : List Tok) (kW : (List bF × Int × Bool) → Option (List bF × dH)) (zH : Int) (D7 : Bool) (M4 : List bF) : Option (List bF × dH) :=
  bif decide (((lG + 1) : Int) = 6) then gz (jA (a + 1)) ((F0 (⟨zH, D7⟩ : dH) W F (a + 1)).bind fun rq => zi oQ lG xM yO A9 M4 kW rq.2.at_ rq.2.ok rq.1) else zi oQ lG xM yO A9 M4 kW zH D7 []
def sP (F0 : dH → List Str → List eO → Int → Option (List bF × dH)) (lG : Int) (a : Int) (W : List Str) (F : List eO) (oQ : List bF) (xM : Int) (yO : List Tok) (kW : (List bF × Int × Bool) → Option (List bF × dH)) (FB : Int) (yf : Bool) (A9 : List Tok) : Option (List bF × dH) :=
  bif (decide (((lG + 1) : Int) = 6) || decide (((lG + 1) : Int) = 7)) then gz (jA (a + 1)) ((F0 (⟨FB, yf⟩ : dH) W F (a + 1)).bind fun Vf => zk F0 lG a W F oQ xM yO A9 kW Vf.2.at_ Vf.2.ok Vf.1) else zk F0 lG a W F oQ xM yO A9 kW FB yf []
def sQ (N : Nat) (F0 : dH → List Str → List eO → Int → Option (List bF × dH)) (lG : Int) (W : List Str) (F : List eO) (a : Int) (oQ : List bF) (xM : Int) (kW : (List bF × Int × Bool) → Option (List bF × dH)) (M5 : Int) (M6 : Bool) (yO : List Tok) : Option (List bF × dH) :=
  bif decide (((lG + 1) : Int) = 2) then (Dc N (⟨M5, M6⟩ : dH) W F).bind fun xB => sP F0 lG a W F oQ xM yO kW xB.2.at_ xB.2.ok xB.1 else sP F0 lG a W F oQ xM yO kW M5 M6 []
def qx (N : Nat) (F0 : dH → List Str → List eO → Int → Option (List bF × dH)) (lG : Int) (W : List Str) (F : List eO) (a : Int) (oQ : List bF) (kW : (List bF × Int × Bool) → Option (List bF × dH)) (wF : Int) (zf : Bool) (xM : Int) : Option (List bF × dH) :=
  bif decide (((lG + 1) : Int) ≠ 4) then (Dc N (⟨wF, zf⟩ : dH) W F).bind fun y95 => sQ N F0 lG W F a oQ xM kW y95.2.at_ y95.2.ok y95.1 else sQ N F0 lG W F a oQ xM kW wF zf []
def sS (N : Nat) (F0 : dH → List Str → List eO → Int → Option (List bF × dH)) (oQ : List bF) (W : List Str) (F : List eO) (a : Int) (kW : (List bF × Int × Bool) → Option (List bF × dH)) (x27 : Str) (y28 : Int) (y29 : Bool) : Option (List bF × dH) :=
  bif decide ((x27 : Str) = [125]) then some (oQ, (⟨y28, y29⟩ : dH)) else (CQ [115, 101, 116, 32, 112, 117, 116, 32, 115, 97, 121, 32, 112, 97, 117, 115, 101, 32, 103, 111, 32, 105, 102, 32, 119, 104, 105, 108, 101, 32, 114, 101, 116, 117, 114, 110]).bind fun y31 => (slices_Index_string y31 x27).bind fun lG => gz (jA (lG + 1)) (bif (!(y29 && decide ((0 : Int) < (lG + 1)))) then some ([], (⟨y28, (y29 && decide ((0 : Int) < (lG + 1)))⟩ : dH)) else bif decide (((lG + 1) : Int) ≤ 2) then bif decide (((W.length : Int) : Int) ≤ y28) then (zY []).bind fun y104 => qx N F0 lG W F a oQ kW y28 false y104.1 else gz (jA (y28 + 1)) (gz (jA ((y28 + 1) - 1)) ((idx W ((y28 + 1) - 1)).bind fun M7 => (zY M7).bind fun M8 => qx N F0 lG W F a oQ kW (y28 + 1) (y29 && decide ((0 : Int) < (lG + 1))) M8.1)) else qx N F0 lG W F a oQ kW y28 (y29 && decide ((0 : Int) < (lG + 1))) 0)
def sU (N : Nat) (F0 : dH → List Str → List eO → Int → Option (List bF × dH)) (W : List Str) (F : List eO) (a : Int) (s : List bF × Int × Bool) (kW : List bF × Int × Bool → Option (List bF × dH)) : Option (List bF × dH) :=
  match s with | (oQ, BI, Bw) => bif Bw then bif decide (((W.length : Int) : Int) ≤ BI) then sS N F0 oQ W F a kW [] BI false else gz (jA (BI + 1)) (gz (jA ((BI + 1) - 1)) ((idx W ((BI + 1) - 1)).bind fun Gp => sS N F0 oQ W F a kW Gp (BI + 1) Bw)) else some ([], (⟨BI, Bw⟩ : dH))
def uI (N : Nat) (F0 : dH → List Str → List eO → Int → Option (List bF × dH)) (W : List Str) (F : List eO) (a : Int) (y1 : Int) (y2 : Bool) : Option (List bF × dH) :=
  again (sU N F0 W F a) N ([], y1, y2)
def sV (N : Nat) (F0 : dH → List Str → List eO → Int → Option (List bF × dH)) (W : List Str) (F : List eO) (a : Int) (BP : Bool) (FC : Int) (J8 : Bool) : Option (List bF × dH) :=
  bif BP then uI N F0 W F a FC false else uI N F0 W F a FC J8
def wG (N : Nat) (F0 : dH → List Str → List eO → Int → Option (List bF × dH)) (sx : dH) (W : List Str) (F : List eO) (a : Int) : Option (List bF × dH) :=
  bif decide (((W.length : Int) : Int) ≤ sx.at_) then sV N F0 W F a true sx.at_ false else gz (jA (sx.at_ + 1)) (gz (jA ((sx.at_ + 1) - 1)) ((idx W ((sx.at_ + 1) - 1)).bind fun Lg => sV N F0 W F a (decide ((Lg : Str) ≠ [123]) || decide ((6 : Int) < a)) (sx.at_ + 1) sx.ok))
def uJ : Nat → dH → List Str → List eO → Int → Option (List bF × dH)
  | 0 => fun _ _ _ _ => none
  | N + 1 => wG N (uJ N)
theorem M9 : ∀ (N : Nat) (w0 : World) (M : BS) (hM : ∀ b, M b → b < w0.heap.size) (hT : uy Tryz.prog 4 w0) (ba bo bw bwd bf be bb : Nat) (sx : dH) (hC : Chunk.holds w0 M (Chunk.own' (.two (.blk ba [(.int .i64 (sx.at_))]) (.blk bo [(.bool (sx.ok))]) : Chunk)) (.two (.blk ba [(.int .i64 (sx.at_))]) (.blk bo [(.bool (sx.ok))]) : Chunk)) (hap : ∀ b, Chunk.own' (.two (.blk ba [(.int .i64 (sx.at_))]) (.blk bo [(.bool (sx.ok))]) : Chunk) b → ¬ M b) (vW : Value) (W : List Str) (ZC : fo nA w0 (fun b => M b ∨ Chunk.own' (.two (.blk ba [(.int .i64 (sx.at_))]) (.blk bo [(.bool (sx.ok))]) : Chunk) b) vW W) (vF : Value) (F : List eO) (ZE : gp iH w0 (Chunk.own' (.two (.blk ba [(.int .i64 (sx.at_))]) (.blk bo [(.bool (sx.ok))]) : Chunk)) (fun b => M b ∨ Chunk.own' (.two (.blk ba [(.int .i64 (sx.at_))]) (.blk bo [(.bool (sx.ok))]) : Chunk) b) vF F) (hbw : ∃ E, w0.heap[bw]? = some (.cells #[vW] E (0, 0))) (Sn : ¬ Chunk.own' (.two (.blk ba [(.int .i64 (sx.at_))]) (.blk bo [(.bool (sx.ok))]) : Chunk) bw) (J7 : ∃ E, w0.heap[bwd]? = some (.cells #[(.func (.func 103) #[] #[(.pointer (some ⟨ba, 0, none⟩)), (.pointer (some ⟨bw, 0, none⟩)), (.pointer (some ⟨bo, 0, none⟩))])] E (0, 0))) (Gm : ¬ Chunk.own' (.two (.blk ba [(.int .i64 (sx.at_))]) (.blk bo [(.bool (sx.ok))]) : Chunk) bwd) (hbf : ∃ E, w0.heap[bf]? = some (.cells #[vF] E (0, 0))) (Sq : ¬ Chunk.own' (.two (.blk ba [(.int .i64 (sx.at_))]) (.blk bo [(.bool (sx.ok))]) : Chunk) bf) (hbe : ∃ E, w0.heap[be]? = some (.cells #[(.func (.func 104) #[] #[(.pointer (some ⟨bo, 0, none⟩)), (.pointer (some ⟨bwd, 0, none⟩)), (.pointer (some ⟨bf, 0, none⟩))])] E (0, 0))) (Yw : ¬ Chunk.own' (.two (.blk ba [(.int .i64 (sx.at_))]) (.blk bo [(.bool (sx.ok))]) : Chunk) be) (hbb : ∃ E, w0.heap[bb]? = some (.cells #[(.func (.func 109) #[] #[(.pointer (some ⟨bwd, 0, none⟩)), (.pointer (some ⟨bo, 0, none⟩)), (.pointer (some ⟨be, 0, none⟩)), (.pointer (some ⟨bb, 0, none⟩))])] E (0, 0))) (Yx : ¬ Chunk.own' (.two (.blk ba [(.int .i64 (sx.at_))]) (.blk bo [(.bool (sx.ok))]) : Chunk) bb) (a : Int) (hG : ∀ b, Chunk.own' (.two (.blk ba [(.int .i64 (sx.at_))]) (.blk bo [(.bool (sx.ok))]) : Chunk) b → Tryz.prog.globals.size ≤ b) (r : List bF × dH) (hs : uJ N sx W F a = some r),
    Calls Tryz.prog 109 #[(.int .i64 (a)), (.pointer (some ⟨bwd, 0, none⟩)), (.pointer (some ⟨bo, 0, none⟩)), (.pointer (some ⟨be, 0, none⟩)), (.pointer (some ⟨bb, 0, none⟩))] w0 (fun e w' => aP (Chunk.own' (.two (.blk ba [(.int .i64 (sx.at_))]) (.blk bo [(.bool (sx.ok))]) : Chunk)) w0 w' ∧ ∃ u0, e = .returned (u0) ∧ Chunk.holds w' M (Chunk.own' (.two (.blk ba [.int .i64 r.2.at_]) (.blk bo [.bool r.2.ok]) : Chunk)) (.two (.blk ba [.int .i64 r.2.at_]) (.blk bo [.bool r.2.ok]) : Chunk) ∧ (∀ b, Chunk.own' (.two (.blk ba [.int .i64 r.2.at_]) (.blk bo [.bool r.2.ok]) : Chunk) b → b < w0.heap.size → Chunk.own' (.two (.blk ba [(.int .i64 (sx.at_))]) (.blk bo [(.bool (sx.ok))]) : Chunk) b) ∧ fo dY w' (fun b => M b ∨ Chunk.own' (.two (.blk ba [.int .i64 r.2.at_]) (.blk bo [.bool r.2.ok]) : Chunk) b) u0 r.1) := by
 intro N
 induction N with
 | zero => intro w0 M hM hT ba bo bw bwd bf be bb sx hC hap vW W ZC vF F ZE hbw Sn J7 Gm hbf Sq hbe Yw hbb Yx a hG r hs; cases hs
 | succ N ih =>
 intro w0 M hM hT ba bo bw bwd bf be bb sx hC hap vW W ZC vF F ZE hbw Sn J7 Gm hbf Sq hbe Yw hbb Yx a hG r hs
 replace hs : wG N (uJ N) sx W F a = some r := hs
 generalize uJ N = F0 at hs ih
 refine aS (args := [(.int .i64 (a)), (.pointer (some ⟨bwd, 0, none⟩)), (.pointer (some ⟨bo, 0, none⟩)), (.pointer (some ⟨be, 0, none⟩)), (.pointer (some ⟨bb, 0, none⟩))]) Tryz.func109 rfl Tryz.ntmps109 (Nat.le_of_ble_eq_true rfl) ?_
 have h := SH.E5 hM hC hap
 replace h := h.BL 3 ZC zG
 replace h := h.Ro 4 ZE (su zG)
 replace h := h.yX 5 (cs := [vW]) hbw Sn (w9 (su zG))
 replace h := h.yX 6 (cs := [(.func (.func 103) #[] #[(.pointer (some ⟨ba, 0, none⟩)), (.pointer (some ⟨bw, 0, none⟩)), (.pointer (some ⟨bo, 0, none⟩))])]) J7 Gm (qo (w9 (su zG)))
 replace h := h.yX 7 (cs := [vF]) hbf Sq (qo (qo (w9 (su zG))))
 replace h := h.yX 8 (cs := [(.func (.func 104) #[] #[(.pointer (some ⟨bo, 0, none⟩)), (.pointer (some ⟨bwd, 0, none⟩)), (.pointer (some ⟨bf, 0, none⟩))])]) hbe Yw (qo (qo (qo (w9 (su zG)))))
 replace h := h.yX 9 (cs := [(.func (.func 109) #[] #[(.pointer (some ⟨bwd, 0, none⟩)), (.pointer (some ⟨bo, 0, none⟩)), (.pointer (some ⟨be, 0, none⟩)), (.pointer (some ⟨bb, 0, none⟩))])]) hbb Yx (qo (qo (qo (qo (w9 (su zG))))))
 have MX := Sn
 have Gn := Gm
 have MZ := Sq
 have XE := Yw
 have XF := Yx
 generalize zJ : (.two (.blk ba [(.int .i64 (sx.at_))]) (.blk bo [(.bool (sx.ok))]) : Chunk).own' = K0 at h MX Gn MZ XE XF hG
 replace h := h.bU 1 2 (by decide) rfl rfl
 refine ai (ag (ae (aj (v := (.slice none 0 0)) rfl) (ah (aa (bV (σ := Int × Bool) (inl [10, 11, 12, 13, 14, 15, 16]) (fun ⟨y1, y2⟩ => []) (fun ⟨y1, y2⟩ w => SH w0 M K0 w (hset [(1, .blk ba [(.int .i64 (y1))]), (2, .blk bo [(.bool (y2))]), (3, .rd nA vW W), (4, .sr iH vF F), (5, .pt bw 0 [vW]), (6, .pt bwd 0 [(.func (.func 103) #[] #[(.pointer (some ⟨ba, 0, none⟩)), (.pointer (some ⟨bw, 0, none⟩)), (.pointer (some ⟨bo, 0, none⟩))])]), (7, .pt bf 0 [vF]), (8, .pt be 0 [(.func (.func 104) #[] #[(.pointer (some ⟨bo, 0, none⟩)), (.pointer (some ⟨bwd, 0, none⟩)), (.pointer (some ⟨bf, 0, none⟩))])]), (9, .pt bb 0 [(.func (.func 109) #[] #[(.pointer (some ⟨bwd, 0, none⟩)), (.pointer (some ⟨bo, 0, none⟩)), (.pointer (some ⟨be, 0, none⟩)), (.pointer (some ⟨bb, 0, none⟩))])])]) ∧ uI N F0 W F a y1 y2 = some r) ?_ ?_)))))
 rintro ⟨y1, y2⟩ w dz ⟨h, hs⟩
 refine ai (ag (ae (aj (v := (.slice none 0 0)) rfl) (ah (aa (ai (aV ?_))))))
 replace h := h.xO (R := dY) (E := 147) 13
 refine gT (σ := Nat × Value × List bF × Int × Bool) (inl [6, 7, 8, 9, 17, 18, 19, 20, 21, 22, 23, 24, 25, 26, 27, 28, 29, 30, 31, 32, 33, 34, 35, 36, 37, 38, 39, 40, 41, 42, 43, 44, 45, 46, 47, 48, 49, 50, 51, 52, 53, 54, 55, 56, 57, 58, 59, 60, 61, 62, 63, 64, 65, 66, 67, 68, 69, 70, 71, 72, 73, 74, 75, 76, 77, 78, 79, 80, 81, 82]) (fun ⟨m22, v15, oQ, BI, Bw⟩ => [(7, v15)]) (fun ⟨m22, v15, oQ, BI, Bw⟩ w => SH w0 M K0 w (hset [(1, .blk ba [(.int .i64 (BI))]), (2, .blk bo [(.bool (Bw))]), (3, .rd nA vW W), (4, .sr iH vF F), (5, .pt bw 0 [vW]), (6, .pt bwd 0 [(.func (.func 103) #[] #[(.pointer (some ⟨ba, 0, none⟩)), (.pointer (some ⟨bw, 0, none⟩)), (.pointer (some ⟨bo, 0, none⟩))])]), (7, .pt bf 0 [vF]), (8, .pt be 0 [(.func (.func 104) #[] #[(.pointer (some ⟨bo, 0, none⟩)), (.pointer (some ⟨bwd, 0, none⟩)), (.pointer (some ⟨bf, 0, none⟩))])]), (9, .pt bb 0 [(.func (.func 109) #[] #[(.pointer (some ⟨bwd, 0, none⟩)), (.pointer (some ⟨bo, 0, none⟩)), (.pointer (some ⟨be, 0, none⟩)), (.pointer (some ⟨bb, 0, none⟩))])]), (13, .own dY 147 v15 oQ)]) ∧ again (sU N F0 W F a) m22 (oQ, BI, Bw) = some r) (fun ⟨m22, v15, oQ, BI, Bw⟩ => m22) ⟨N, (.slice none 0 0), [], y1, y2⟩ ⟨rfl, trivial⟩ ?_ ?_
 exact ⟨h.cn _, hs⟩
 rintro ⟨m22, v15, oQ, BI, Bw⟩ w dz ⟨h, hs⟩
 obtain ⟨ZJ, m22e, m22h⟩ := qm hs
 subst m22e
 replace hs := m22h
 generalize Su : again (sU N F0 W F a) ZJ = kW at hs
 refine ai (ai (ag (ae (aF h 2 rfl wT rfl rfl) (ah (aa (aI hs rfl (fun c26 hs => ?_) (fun c26 hs => ?_)))))))
 refine aG (aa (aV (bV (σ := Str × Int × Bool) (inl [8, 18, 19]) (fun ⟨x27, y28, y29⟩ => [(8, (bu x27))]) (fun ⟨x27, y28, y29⟩ w => SH w0 M K0 w (hset [(1, .blk ba [(.int .i64 (y28))]), (2, .blk bo [(.bool (y29))]), (3, .rd nA vW W), (4, .sr iH vF F), (5, .pt bw 0 [vW]), (6, .pt bwd 0 [(.func (.func 103) #[] #[(.pointer (some ⟨ba, 0, none⟩)), (.pointer (some ⟨bw, 0, none⟩)), (.pointer (some ⟨bo, 0, none⟩))])]), (7, .pt bf 0 [vF]), (8, .pt be 0 [(.func (.func 104) #[] #[(.pointer (some ⟨bo, 0, none⟩)), (.pointer (some ⟨bwd, 0, none⟩)), (.pointer (some ⟨bf, 0, none⟩))])]), (9, .pt bb 0 [(.func (.func 109) #[] #[(.pointer (some ⟨bwd, 0, none⟩)), (.pointer (some ⟨bo, 0, none⟩)), (.pointer (some ⟨be, 0, none⟩)), (.pointer (some ⟨bb, 0, none⟩))])]), (13, .own dY 147 v15 oQ)]) ∧ sS N F0 oQ W F a kW x27 y28 y29 = some r) ?_ ?_)))
 rintro ⟨x27, y28, y29⟩ w dz ⟨h, hs⟩
 refine ai (ai (ag (ae (au (v := (bu x27)) rfl) (ae (DN rfl rfl) (ah (aa (aI hs rfl (fun c30 hs => ?_) (fun c30 hs => ?_))))))))
 refine ai (ag (ae (au (v := v15) rfl) (ae (aj (v := v15) rfl) (ah (aa (aK (aC (aH (aC (aH (aC (cK (v := v15) Tryz.results109 rfl ?_))))))))))))
 replace h := h.freeze 13 rfl
 replace h := h.pair 1 2 (by decide)
 obtain rfl := Option.some.inj hs
 subst zJ
 obtain ⟨o1, o2, o3⟩ := h.qH 1 (C := (.two (.blk ba [(.int .i64 (y28))]) (.blk bo [(.bool (y29))]) : Chunk)) rfl ⟨trivial, trivial⟩
 exact ⟨o2, v15, rfl, o1, o3, h.MC 1 13 rfl rfl⟩
 refine aG (aa (ai (ag ?_)))
 obtain ⟨y31, e32, hs⟩ := aQ hs
 refine bA Ou rfl rfl (yj _ _ h.lt (hT.Rf h.keep hG) [115, 101, 116, 32, 112, 117, 116, 32, 115, 97, 121, 32, 112, 97, 117, 115, 101, 32, 103, 111, 32, 105, 102, 32, 119, 104, 105, 108, 101, 32, 114, 101, 116, 117, 114, 110] _ e32) ?_
 rintro _ w ⟨k35, u33, rfl, g34⟩
 refine ⟨_, rfl, ?_⟩
 replace h := h.Ir 14 k35 g34
 refine ae (au (v := (bu x27)) rfl) ?_
 obtain ⟨lG, e37, hs⟩ := aQ hs
 refine bA UZ rfl rfl (zI _ _ h.lt u33 y31 (h.oZ 14 rfl) x27 _ e37) ?_
 rintro _ w ⟨Zx, rfl⟩
 refine ⟨_, rfl, ?_⟩
 replace h := h.grow Zx
 obtain ⟨a39, hs⟩ := bG hs
 refine ae (dw rfl rfl a39) (ae (dC (pv := [(0, (.int .i64 ((lG + 1))))]) (out := [(.int .i64 ((lG + 1))), (.int .i64 (0)), (.slice none 0 0), (.slice none 0 0), (.slice none 0 0), (.slice none 0 0)]) Pn rfl ⟨0, 1, [(.int .i64 ((lG + 1)))], rfl, rfl, rfl, Nat.le_of_ble_eq_true rfl, rfl⟩) (bT h 15 nH fun w ZK h => dm (vs := [(.int .i64 ((lG + 1))), (.int .i64 (0)), (.slice none 0 0), (.slice none 0 0), (.slice none 0 0), (.slice none 0 0)]) h 15 [(.int .i64 ((lG + 1))), (.int .i64 (0)), (.slice none 0 0), (.slice none 0 0), (.slice none 0 0), (.slice none 0 0)] rfl nH rfl rfl rfl rfl rfl (ax rfl (ax rfl (ax rfl (ax rfl (ax rfl (ax rfl aZ)))))) fun w h => ah (aa (ai (ai (ag (ae (aF h 2 rfl wT rfl rfl) (ae (au (v := (.bool (y29))) rfl) (aD rfl rfl (fun q => ak jB rfl) (aD rfl rfl (fun q => aF h 15 rfl bz (dn q) rfl) (aD rfl rfl (fun q => jH (dn q) rfl) (ae (fZ rfl rfl lV) (fq h 2 [(.bool ((y29 && decide ((0 : Int) < (lG + 1)))))] rfl wT rfl rfl rfl rfl rfl fun w h => ah (aa (ai (ag (ae (aF h 2 rfl wT rfl rfl) (ae (iq rfl) (ah (aa ?_))))))))))))))))))))
 refine aI hs rfl (fun Xt hs => ?_) (fun Xt hs => ?_)
 refine df (aN (tQ (by decide) (aN (bE (aa (ai (ag (ae (aj (v := (.slice none 0 0)) rfl) (ah (aa (aK (cK (v := (.slice none 0 0)) Tryz.results109 rfl ?_))))))))))))
 replace h := h.pair 1 2 (by decide)
 obtain rfl := Option.some.inj hs
 subst zJ
 obtain ⟨o1, o2, o3⟩ := h.qH 1 (C := (.two (.blk ba [(.int .i64 (y28))]) (.blk bo [(.bool ((y29 && decide ((0 : Int) < (lG + 1)))))]) : Chunk)) rfl ⟨trivial, trivial⟩
 exact ⟨o2, .slice none 0 0, rfl, o1, o3, gp.nil⟩
 refine aG (aa (bV (σ := Int × Bool × Int) (inl [36, 37, 38, 39, 40, 41, 42, 43, 44, 45]) (fun ⟨wF, zf, xM⟩ => []) (fun ⟨wF, zf, xM⟩ w => SH w0 M K0 w (hset [(1, .blk ba [(.int .i64 (wF))]), (2, .blk bo [(.bool (zf))]), (3, .rd nA vW W), (4, .sr iH vF F), (5, .pt bw 0 [vW]), (6, .pt bwd 0 [(.func (.func 103) #[] #[(.pointer (some ⟨ba, 0, none⟩)), (.pointer (some ⟨bw, 0, none⟩)), (.pointer (some ⟨bo, 0, none⟩))])]), (7, .pt bf 0 [vF]), (8, .pt be 0 [(.func (.func 104) #[] #[(.pointer (some ⟨bo, 0, none⟩)), (.pointer (some ⟨bwd, 0, none⟩)), (.pointer (some ⟨bf, 0, none⟩))])]), (9, .pt bb 0 [(.func (.func 109) #[] #[(.pointer (some ⟨bwd, 0, none⟩)), (.pointer (some ⟨bo, 0, none⟩)), (.pointer (some ⟨be, 0, none⟩)), (.pointer (some ⟨bb, 0, none⟩))])]), (13, .own dY 147 v15 oQ), (15, .blk ZK [(.int .i64 ((lG + 1))), (.int .i64 (xM)), (.slice none 0 0), (.slice none 0 0), (.slice none 0 0), (.slice none 0 0)])]) ∧ qx N F0 lG W F a oQ kW wF zf xM = some r) ?_ ?_))
 rintro ⟨wF, zf, xM⟩ w dz ⟨h, hs⟩
 refine bV (σ := Int × Bool × Value × List Tok) (inl [46, 47, 48, 49, 50, 51]) (fun ⟨M5, M6, v47, yO⟩ => []) (fun ⟨M5, M6, v47, yO⟩ w => SH w0 M K0 w (hset [(1, .blk ba [(.int .i64 (M5))]), (2, .blk bo [(.bool (M6))]), (3, .rd nA vW W), (4, .sr iH vF F), (5, .pt bw 0 [vW]), (6, .pt bwd 0 [(.func (.func 103) #[] #[(.pointer (some ⟨ba, 0, none⟩)), (.pointer (some ⟨bw, 0, none⟩)), (.pointer (some ⟨bo, 0, none⟩))])]), (7, .pt bf 0 [vF]), (8, .pt be 0 [(.func (.func 104) #[] #[(.pointer (some ⟨bo, 0, none⟩)), (.pointer (some ⟨bwd, 0, none⟩)), (.pointer (some ⟨bf, 0, none⟩))])]), (9, .pt bb 0 [(.func (.func 109) #[] #[(.pointer (some ⟨bwd, 0, none⟩)), (.pointer (some ⟨bo, 0, none⟩)), (.pointer (some ⟨be, 0, none⟩)), (.pointer (some ⟨bb, 0, none⟩))])]), (13, .own dY 147 v15 oQ), (15, .blk ZK [(.int .i64 ((lG + 1))), (.int .i64 (xM)), v47, (.slice none 0 0), (.slice none 0 0), (.slice none 0 0)]), (16, .rd jY v47 yO)]) ∧ sQ N F0 lG W F a oQ xM kW M5 M6 yO = some r) ?_ ?_
 rintro ⟨M5, M6, v47, yO⟩ w dz ⟨h, hs⟩
 refine bV (σ := Int × Bool × Value × List Tok) (inl [52, 53, 54, 55, 56, 57]) (fun ⟨FB, yf, v51, A9⟩ => []) (fun ⟨FB, yf, v51, A9⟩ w => SH w0 M K0 w (hset [(1, .blk ba [(.int .i64 (FB))]), (2, .blk bo [(.bool (yf))]), (3, .rd nA vW W), (4, .sr iH vF F), (5, .pt bw 0 [vW]), (6, .pt bwd 0 [(.func (.func 103) #[] #[(.pointer (some ⟨ba, 0, none⟩)), (.pointer (some ⟨bw, 0, none⟩)), (.pointer (some ⟨bo, 0, none⟩))])]), (7, .pt bf 0 [vF]), (8, .pt be 0 [(.func (.func 104) #[] #[(.pointer (some ⟨bo, 0, none⟩)), (.pointer (some ⟨bwd, 0, none⟩)), (.pointer (some ⟨bf, 0, none⟩))])]), (9, .pt bb 0 [(.func (.func 109) #[] #[(.pointer (some ⟨bwd, 0, none⟩)), (.pointer (some ⟨bo, 0, none⟩)), (.pointer (some ⟨be, 0, none⟩)), (.pointer (some ⟨bb, 0, none⟩))])]), (13, .own dY 147 v15 oQ), (15, .blk ZK [(.int .i64 ((lG + 1))), (.int .i64 (xM)), v47, v51, (.slice none 0 0), (.slice none 0 0)]), (16, .rd jY v47 yO), (17, .rd jY v51 A9)]) ∧ sP F0 lG a W F oQ xM yO kW FB yf A9 = some r) ?_ ?_
 rintro ⟨FB, yf, v51, A9⟩ w dz ⟨h, hs⟩
 refine bV (σ := Int × Bool × Value × List bF) (inl [58, 59, 60, 61, 62, 63, 64, 65, 66, 67, 68, 69, 70]) (fun ⟨zH, D7, v55, M4⟩ => []) (fun ⟨zH, D7, v55, M4⟩ w => SH w0 M K0 w (hset [(1, .blk ba [(.int .i64 (zH))]), (2, .blk bo [(.bool (D7))]), (3, .rd nA vW W), (4, .sr iH vF F), (5, .pt bw 0 [vW]), (6, .pt bwd 0 [(.func (.func 103) #[] #[(.pointer (some ⟨ba, 0, none⟩)), (.pointer (some ⟨bw, 0, none⟩)), (.pointer (some ⟨bo, 0, none⟩))])]), (7, .pt bf 0 [vF]), (8, .pt be 0 [(.func (.func 104) #[] #[(.pointer (some ⟨bo, 0, none⟩)), (.pointer (some ⟨bwd, 0, none⟩)), (.pointer (some ⟨bf, 0, none⟩))])]), (9, .pt bb 0 [(.func (.func 109) #[] #[(.pointer (some ⟨bwd, 0, none⟩)), (.pointer (some ⟨bo, 0, none⟩)), (.pointer (some ⟨be, 0, none⟩)), (.pointer (some ⟨bb, 0, none⟩))])]), (13, .own dY 147 v15 oQ), (15, .blk ZK [(.int .i64 ((lG + 1))), (.int .i64 (xM)), v47, v51, v55, (.slice none 0 0)]), (16, .rd jY v47 yO), (17, .rd jY v51 A9), (18, .rd dY v55 M4)]) ∧ zk F0 lG a W F oQ xM yO A9 kW zH D7 M4 = some r) ?_ ?_
 rintro ⟨zH, D7, v55, M4⟩ w dz ⟨h, hs⟩
 refine bV (σ := Int × Bool × Value × List bF) (inl [71, 72, 73, 74, 75, 76, 77, 78]) (fun ⟨XC, XD, v59, tK⟩ => []) (fun ⟨XC, XD, v59, tK⟩ w => SH w0 M K0 w (hset [(1, .blk ba [(.int .i64 (XC))]), (2, .blk bo [(.bool (XD))]), (3, .rd nA vW W), (4, .sr iH vF F), (5, .pt bw 0 [vW]), (6, .pt bwd 0 [(.func (.func 103) #[] #[(.pointer (some ⟨ba, 0, none⟩)), (.pointer (some ⟨bw, 0, none⟩)), (.pointer (some ⟨bo, 0, none⟩))])]), (7, .pt bf 0 [vF]), (8, .pt be 0 [(.func (.func 104) #[] #[(.pointer (some ⟨bo, 0, none⟩)), (.pointer (some ⟨bwd, 0, none⟩)), (.pointer (some ⟨bf, 0, none⟩))])]), (9, .pt bb 0 [(.func (.func 109) #[] #[(.pointer (some ⟨bwd, 0, none⟩)), (.pointer (some ⟨bo, 0, none⟩)), (.pointer (some ⟨be, 0, none⟩)), (.pointer (some ⟨bb, 0, none⟩))])]), (13, .own dY 147 v15 oQ), (15, .blk ZK [(.int .i64 ((lG + 1))), (.int .i64 (xM)), v47, v51, v55, v59]), (16, .rd jY v47 yO), (17, .rd jY v51 A9), (18, .rd dY v55 M4), (19, .rd dY v59 tK)]) ∧ zi oQ lG xM yO A9 M4 kW XC XD tK = some r) ?_ ?_
 rintro ⟨XC, XD, v59, tK⟩ w dz ⟨h, hs⟩
 refine ag (ae (au (v := v15) rfl) (ae (dS (vs := [(.int .i64 ((lG + 1))), (.int .i64 (xM)), v47, v51, v55, v59]) h 15 rfl nH rfl rfl rfl) (uw (R := dY) (vs := [(.agg #[(.int .i64 ((lG + 1))), (.int .i64 (xM)), v47, v51, v55, v59])]) (xs := [(⟨(lG + 1), xM, yO, A9, M4, tK⟩ : bF)]) h 20 IM rfl rfl rfl ⟨(Rb ⟨_, _, _, _, rfl, (h.gB 16 rfl), (h.gB 17 rfl), (h.gB 18 rfl), (h.gB 19 rfl)⟩), trivial⟩ rfl fun w u61 h => ?_)))
 obtain ⟨a62, hs⟩ := bG hs
 refine mo (R := dY) (m := [(⟨(lG + 1), xM, yO, A9, M4, tK⟩ : bF)]) h 13 rfl (h.dM 20 rfl) IM rfl rfl rfl a62.1 a62.2 fun w u63 h => ae (aj (v := u63) rfl) (ah (aA (az ?_)))
 subst Su
 exact jV ⟨ZJ, u63, (oQ ++ [(⟨(lG + 1), xM, yO, A9, M4, tK⟩ : bF)]), XC, XD⟩ ⟨h.cn _, hs⟩
 refine ai (ag (ae (ak jB rfl) (ae (aF h 15 rfl bz rfl rfl) (ae (bI rfl rfl) (ah (aa (aI hs rfl (fun c64 hs => ?_) (fun c64 hs => ?_))))))))
 refine ag (ae (eF (k := 0) h 9 rfl Gg rfl rfl) (ae (au (v := (.int .i64 (a))) rfl) ?_))
 obtain ⟨a65, hs⟩ := bG hs
 refine ae (dw rfl rfl a65) ?_
 replace h := h.pair 1 2 (by decide)
 obtain ⟨l66a, l66b, l66c⟩ := h.wC 1 (C := (.two (.blk ba [(.int .i64 (zH))]) (.blk bo [(.bool (D7))]) : Chunk)) rfl ⟨trivial, trivial⟩
 obtain ⟨rq, Va, hs⟩ := aQ hs
 refine bA JW rfl rfl (ih _ _ l66c (hT.Rf h.keep hG) ba bo bw bwd bf be bb (⟨zH, D7⟩ : dH) l66a l66b vW W (h.Ol 1 3 rfl rfl) vF F (h.UN 1 4 rfl rfl) (by obtain ⟨E, hE⟩ := hbw; exact ⟨E, h.keep.blk hE MX⟩) Sn (by obtain ⟨E, hE⟩ := J7; exact ⟨E, h.keep.blk hE Gn⟩) Gm (by obtain ⟨E, hE⟩ := hbf; exact ⟨E, h.keep.blk hE MZ⟩) Sq (by obtain ⟨E, hE⟩ := hbe; exact ⟨E, h.keep.blk hE XE⟩) Yw (by obtain ⟨E, hE⟩ := hbb; exact ⟨E, h.keep.blk hE XF⟩) Yx (a + 1) (h.F8 hT hG 1 (C := (.two (.blk ba [(.int .i64 (zH))]) (.blk bo [(.bool (D7))]) : Chunk)) rfl) _ Va) ?_
 rintro _ w ⟨k71, u69, rfl, h72, h73, g70⟩
 refine ⟨_, rfl, ?_⟩
 replace h := h.back 1 (C := (.two (.blk ba [(.int .i64 (zH))]) (.blk bo [(.bool (D7))]) : Chunk)) (C' := (.two (.blk ba [(.int .i64 (rq.2.at_))]) (.blk bo [(.bool (rq.2.ok))]) : Chunk)) rfl ⟨trivial, trivial⟩ h72 k71 h73
 replace h := h.cZ 21 (Gb g70)
 replace h := h.bU 1 2 (by decide) rfl rfl
 refine ae (ak xX rfl) (fq h 15 [(.int .i64 ((lG + 1))), (.int .i64 (xM)), v47, v51, v55, u69] rfl oD rfl rfl rfl rfl (h.gB 21 rfl).one fun w h => ah (az ?_))
 replace h := h.vG 21 19 rfl
 exact bQ (rq.2.at_, rq.2.ok, u69, rq.1) ⟨h.cn _, hs⟩
 refine aG (az ?_)
 replace h := h.cZ 19 (gp.nil (R := dY))
 exact bQ (zH, D7, (.slice none 0 0), []) ⟨h.cn _, hs⟩
 refine ai (ag (ae (ak jB rfl) (ae (aF h 15 rfl bz rfl rfl) (ae (bI rfl rfl) (ae (au (v := (.bool (decide (((lG + 1) : Int) = 6)))) rfl) (aD rfl rfl (fun q => ak jB rfl) (aD rfl rfl (fun q => aF h 15 rfl bz (dn q) rfl) (aD rfl rfl (fun q => bI (dn q) rfl) (ae (gu rfl rfl lV) (ah (aa (aI hs rfl (fun ZL hs => ?_) (fun ZL hs => ?_)))))))))))))
 refine ag (ae (eF (k := 0) h 9 rfl Gg rfl rfl) (ae (au (v := (.int .i64 (a))) rfl) ?_))
 obtain ⟨a75, hs⟩ := bG hs
 refine ae (dw rfl rfl a75) ?_
 replace h := h.pair 1 2 (by decide)
 obtain ⟨l76a, l76b, l76c⟩ := h.wC 1 (C := (.two (.blk ba [(.int .i64 (FB))]) (.blk bo [(.bool (yf))]) : Chunk)) rfl ⟨trivial, trivial⟩
 obtain ⟨Vf, e78, hs⟩ := aQ hs
 refine bA JW rfl rfl (ih _ _ l76c (hT.Rf h.keep hG) ba bo bw bwd bf be bb (⟨FB, yf⟩ : dH) l76a l76b vW W (h.Ol 1 3 rfl rfl) vF F (h.UN 1 4 rfl rfl) (by obtain ⟨E, hE⟩ := hbw; exact ⟨E, h.keep.blk hE MX⟩) Sn (by obtain ⟨E, hE⟩ := J7; exact ⟨E, h.keep.blk hE Gn⟩) Gm (by obtain ⟨E, hE⟩ := hbf; exact ⟨E, h.keep.blk hE MZ⟩) Sq (by obtain ⟨E, hE⟩ := hbe; exact ⟨E, h.keep.blk hE XE⟩) Yw (by obtain ⟨E, hE⟩ := hbb; exact ⟨E, h.keep.blk hE XF⟩) Yx (a + 1) (h.F8 hT hG 1 (C := (.two (.blk ba [(.int .i64 (FB))]) (.blk bo [(.bool (yf))]) : Chunk)) rfl) _ e78) ?_
 rintro _ w ⟨k81, u79, rfl, h82, h83, g80⟩
 refine ⟨_, rfl, ?_⟩
 replace h := h.back 1 (C := (.two (.blk ba [(.int .i64 (FB))]) (.blk bo [(.bool (yf))]) : Chunk)) (C' := (.two (.blk ba [(.int .i64 (Vf.2.at_))]) (.blk bo [(.bool (Vf.2.ok))]) : Chunk)) rfl ⟨trivial, trivial⟩ h82 k81 h83
 replace h := h.cZ 22 (Gb g80)
 replace h := h.bU 1 2 (by decide) rfl rfl
 refine ae (ak xW rfl) (fq h 15 [(.int .i64 ((lG + 1))), (.int .i64 (xM)), v47, v51, u79, (.slice none 0 0)] rfl oD rfl rfl rfl rfl (h.gB 22 rfl).one fun w h => ah (az ?_))
 replace h := h.vG 22 18 rfl
 exact bQ (Vf.2.at_, Vf.2.ok, u79, Vf.1) ⟨h.cn _, hs⟩
 refine aG (az ?_)
 replace h := h.cZ 18 (gp.nil (R := dY))
 exact bQ (FB, yf, (.slice none 0 0), []) ⟨h.cn _, hs⟩
 refine ai (ag (ae (ak jB rfl) (ae (aF h 15 rfl bz rfl rfl) (ae (bI rfl rfl) (ah (aa (aI hs rfl (fun c84 hs => ?_) (fun c84 hs => ?_))))))))
 refine ag (ae (eF (k := 0) h 8 rfl J4 rfl rfl) ?_)
 replace h := h.pair 1 2 (by decide)
 obtain ⟨l85a, l85b, l85c⟩ := h.wC 1 (C := (.two (.blk ba [(.int .i64 (M5))]) (.blk bo [(.bool (M6))]) : Chunk)) rfl ⟨trivial, trivial⟩
 obtain ⟨xB, ZI, hs⟩ := aQ hs
 refine bA Oq rfl rfl (IW N _ _ l85c (hT.Rf h.keep hG) ba bo bw bwd bf (⟨M5, M6⟩ : dH) l85a l85b vW W (h.Ol 1 3 rfl rfl) vF F (h.UN 1 4 rfl rfl) (by obtain ⟨E, hE⟩ := hbw; exact ⟨E, h.keep.blk hE MX⟩) Sn (by obtain ⟨E, hE⟩ := J7; exact ⟨E, h.keep.blk hE Gn⟩) Gm (by obtain ⟨E, hE⟩ := hbf; exact ⟨E, h.keep.blk hE MZ⟩) Sq (h.F8 hT hG 1 (C := (.two (.blk ba [(.int .i64 (M5))]) (.blk bo [(.bool (M6))]) : Chunk)) rfl) _ ZI) ?_
 rintro _ w ⟨k90, XG, rfl, h91, h92, g89⟩
 refine ⟨_, rfl, ?_⟩
 replace h := h.back 1 (C := (.two (.blk ba [(.int .i64 (M5))]) (.blk bo [(.bool (M6))]) : Chunk)) (C' := (.two (.blk ba [(.int .i64 (xB.2.at_))]) (.blk bo [(.bool (xB.2.ok))]) : Chunk)) rfl ⟨trivial, trivial⟩ h91 k90 h92
 replace h := h.cZ 23 (Gb g89)
 replace h := h.bU 1 2 (by decide) rfl rfl
 refine ae (ak Ac rfl) (fq h 15 [(.int .i64 ((lG + 1))), (.int .i64 (xM)), v47, XG, (.slice none 0 0), (.slice none 0 0)] rfl wD rfl rfl rfl rfl (h.gB 23 rfl).one fun w h => ah (az ?_))
 replace h := h.vG 23 17 rfl
 exact bQ (xB.2.at_, xB.2.ok, XG, xB.1) ⟨h.cn _, hs⟩
 refine aG (az ?_)
 replace h := h.cZ 17 (gp.nil (R := jY))
 exact bQ (M5, M6, (.slice none 0 0), []) ⟨h.cn _, hs⟩
 refine ai (ag (ae (ak jB rfl) (ae (aF h 15 rfl bz rfl rfl) (ae (gq rfl rfl) (ah (aa (aI hs rfl (fun c93 hs => ?_) (fun c93 hs => ?_))))))))
 refine ag (ae (eF (k := 0) h 8 rfl J4 rfl rfl) ?_)
 replace h := h.pair 1 2 (by decide)
 obtain ⟨l94a, l94b, l94c⟩ := h.wC 1 (C := (.two (.blk ba [(.int .i64 (wF))]) (.blk bo [(.bool (zf))]) : Chunk)) rfl ⟨trivial, trivial⟩
 obtain ⟨y95, e96, hs⟩ := aQ hs
 refine bA Oq rfl rfl (IW N _ _ l94c (hT.Rf h.keep hG) ba bo bw bwd bf (⟨wF, zf⟩ : dH) l94a l94b vW W (h.Ol 1 3 rfl rfl) vF F (h.UN 1 4 rfl rfl) (by obtain ⟨E, hE⟩ := hbw; exact ⟨E, h.keep.blk hE MX⟩) Sn (by obtain ⟨E, hE⟩ := J7; exact ⟨E, h.keep.blk hE Gn⟩) Gm (by obtain ⟨E, hE⟩ := hbf; exact ⟨E, h.keep.blk hE MZ⟩) Sq (h.F8 hT hG 1 (C := (.two (.blk ba [(.int .i64 (wF))]) (.blk bo [(.bool (zf))]) : Chunk)) rfl) _ e96) ?_
 rintro _ w ⟨k99, Sv, rfl, h100, XH, g98⟩
 refine ⟨_, rfl, ?_⟩
 replace h := h.back 1 (C := (.two (.blk ba [(.int .i64 (wF))]) (.blk bo [(.bool (zf))]) : Chunk)) (C' := (.two (.blk ba [(.int .i64 (y95.2.at_))]) (.blk bo [(.bool (y95.2.ok))]) : Chunk)) rfl ⟨trivial, trivial⟩ h100 k99 XH
 replace h := h.cZ 24 (Gb g98)
 replace h := h.bU 1 2 (by decide) rfl rfl
 refine ae (ak xV rfl) (fq h 15 [(.int .i64 ((lG + 1))), (.int .i64 (xM)), Sv, (.slice none 0 0), (.slice none 0 0), (.slice none 0 0)] rfl wD rfl rfl rfl rfl (h.gB 24 rfl).one fun w h => ah (az ?_))
 replace h := h.vG 24 16 rfl
 exact bQ (y95.2.at_, y95.2.ok, Sv, y95.1) ⟨h.cn _, hs⟩
 refine aG (az ?_)
 replace h := h.cZ 16 (gp.nil (R := jY))
 exact bQ (wF, zf, (.slice none 0 0), []) ⟨h.cn _, hs⟩
 refine ai (ag (ae (ak jB rfl) (ae (aF h 15 rfl bz rfl rfl) (ae (CE rfl rfl) (ah (aa (aI hs rfl (fun Sw hs => ?_) (fun Sw hs => ?_))))))))
 refine ag (ae (eF (k := 0) h 6 rfl ze rfl rfl) (lX (args := [(.pointer (some ⟨ba, 0, none⟩)), (.pointer (some ⟨bw, 0, none⟩)), (.pointer (some ⟨bo, 0, none⟩))]) za rfl rfl (aS (args := [(.pointer (some ⟨ba, 0, none⟩)), (.pointer (some ⟨bw, 0, none⟩)), (.pointer (some ⟨bo, 0, none⟩))]) Tryz.func103 rfl Tryz.ntmps103 (Nat.le_of_ble_eq_true rfl) (ai (ag (ae (aj (v := (bu [])) rfl) (ah (aa (ai (ai (ag (ae (aF h 1 rfl bz rfl rfl) (ae (eF (k := 0) h 5 rfl mf rfl rfl) (ae (bY dZ rfl (h.oZ 3 rfl)) (ae (oK rfl rfl) (ah (aa (aI hs rfl (fun XI hs => ?_) (fun XI hs => ?_)))))))))))))))))))
 refine ai (ag (fq h 2 [(.bool (false))] rfl wT rfl rfl rfl rfl rfl fun w h => ah (aa (ai (ag (ae (aj (v := (bu [])) rfl) (ah (aa (aK (aC (cK (v := (bu [])) Tryz.results103 rfl (⟨_, rfl, ?_⟩))))))))))))
 obtain ⟨y104, J9, hs⟩ := aQ hs
 refine bA CY rfl rfl (pG _ _ h.lt (hT.Rf h.keep hG) [] _ J9) ?_
 rintro _ w ⟨Ih, Sy, rfl, ZM⟩
 refine ⟨_, rfl, ?_⟩
 replace h := h.grow Ih
 refine ae (au (v := (.tuple #[(.int .i64 (y104.1)), Sy])) rfl) (ae (bC rfl rfl) (ae (bC rfl rfl) (ae (ak uB rfl) (fq h 15 [(.int .i64 ((lG + 1))), (.int .i64 (y104.1)), (.slice none 0 0), (.slice none 0 0), (.slice none 0 0), (.slice none 0 0)] rfl bz rfl rfl rfl rfl rfl fun w h => ah (az ?_)))))
 exact bQ (y28, false, y104.1) ⟨h.cn _, hs⟩
 refine aG (aa (ai (ag (ae (aF h 1 rfl bz rfl rfl) ?_))))
 obtain ⟨a109, hs⟩ := bG hs
 refine ae (dw rfl rfl a109) (fq h 1 [(.int .i64 ((y28 + 1)))] rfl bz rfl rfl rfl rfl rfl fun w h => ah (aa (ai (ag (ae (eF (k := 0) h 5 rfl mf rfl rfl) (ae (aF h 1 rfl bz rfl rfl) ?_))))))
 obtain ⟨a110, hs⟩ := bG hs
 refine ae (oh rfl rfl a110) ?_
 obtain ⟨M7, ZN, hs⟩ := aQ hs
 obtain ⟨b114, o115, cs116, h, r117, i113⟩ := h.DI 3 25 rfl dZ rfl (aJ ZN).1 (aJ ZN).2
 obtain rfl := r117
 refine ae (i113 _ _ _ _ _ _ _ _ _ rfl rfl) (ae (eF (k := 0) h 25 rfl xZ rfl rfl) (ae (aj (v := (bu M7)) rfl) (ah (aa (aK (cK (v := (bu M7)) Tryz.results103 rfl (⟨_, rfl, ?_⟩)))))))
 obtain ⟨M8, e119, hs⟩ := aQ hs
 refine bA CY rfl rfl (pG _ _ h.lt (hT.Rf h.keep hG) M7 _ e119) ?_
 rintro _ w ⟨k122, u120, rfl, g121⟩
 refine ⟨_, rfl, ?_⟩
 replace h := h.grow k122
 refine ae (au (v := (.tuple #[(.int .i64 (M8.1)), u120])) rfl) (ae (bC rfl rfl) (ae (bC rfl rfl) (ae (ak uB rfl) (fq h 15 [(.int .i64 ((lG + 1))), (.int .i64 (M8.1)), (.slice none 0 0), (.slice none 0 0), (.slice none 0 0), (.slice none 0 0)] rfl bz rfl rfl rfl rfl rfl fun w h => ah (az ?_)))))
 exact bQ ((y28 + 1), (y29 && decide ((0 : Int) < (lG + 1))), M8.1) ⟨h.cn _, hs⟩
 refine aG (az ?_)
 exact bQ (y28, (y29 && decide ((0 : Int) < (lG + 1))), 0) ⟨h.cn _, hs⟩
 refine ag (ae (eF (k := 0) h 6 rfl ze rfl rfl) (lX (args := [(.pointer (some ⟨ba, 0, none⟩)), (.pointer (some ⟨bw, 0, none⟩)), (.pointer (some ⟨bo, 0, none⟩))]) za rfl rfl (aS (args := [(.pointer (some ⟨ba, 0, none⟩)), (.pointer (some ⟨bw, 0, none⟩)), (.pointer (some ⟨bo, 0, none⟩))]) Tryz.func103 rfl Tryz.ntmps103 (Nat.le_of_ble_eq_true rfl) (ai (ag (ae (aj (v := (bu [])) rfl) (ah (aa (ai (ai (ag (ae (aF h 1 rfl bz rfl rfl) (ae (eF (k := 0) h 5 rfl mf rfl rfl) (ae (bY dZ rfl (h.oZ 3 rfl)) (ae (oK rfl rfl) (ah (aa (aI hs rfl (fun c123 hs => ?_) (fun c123 hs => ?_)))))))))))))))))))
 refine ai (ag (fq h 2 [(.bool (false))] rfl wT rfl rfl rfl rfl rfl fun w h => ah (aa (ai (ag (ae (aj (v := (bu [])) rfl) (ah (aa (aK (aC (cK (v := (bu [])) Tryz.results103 rfl (⟨_, rfl, ?_⟩))))))))))))
 refine ae (aj (v := (bu [])) rfl) (ah (az ?_))
 exact bQ ([], BI, false) ⟨h.cn _, hs⟩
 refine aG (aa (ai (ag (ae (aF h 1 rfl bz rfl rfl) ?_))))
 obtain ⟨a124, hs⟩ := bG hs
 refine ae (dw rfl rfl a124) (fq h 1 [(.int .i64 ((BI + 1)))] rfl bz rfl rfl rfl rfl rfl fun w h => ah (aa (ai (ag (ae (eF (k := 0) h 5 rfl mf rfl rfl) (ae (aF h 1 rfl bz rfl rfl) ?_))))))
 obtain ⟨a125, hs⟩ := bG hs
 refine ae (oh rfl rfl a125) ?_
 obtain ⟨Gp, e127, hs⟩ := aQ hs
 obtain ⟨b129, o130, ZO, h, XJ, i128⟩ := h.DI 3 26 rfl dZ rfl (aJ e127).1 (aJ e127).2
 obtain rfl := XJ
 refine ae (i128 _ _ _ _ _ _ _ _ _ rfl rfl) (ae (eF (k := 0) h 26 rfl xZ rfl rfl) (ae (aj (v := (bu Gp)) rfl) (ah (aa (aK (cK (v := (bu Gp)) Tryz.results103 rfl (⟨_, rfl, ?_⟩)))))))
 refine ae (aj (v := (bu Gp)) rfl) (ah (az ?_))
 exact bQ (Gp, (BI + 1), Bw) ⟨h.cn _, hs⟩
 refine df (aN (aN (bE (aa (ai (ag (ae (aj (v := (.slice none 0 0)) rfl) (ah (aa (aK (cK (v := (.slice none 0 0)) Tryz.results109 rfl ?_)))))))))))
 replace h := h.pair 1 2 (by decide)
 obtain rfl := Option.some.inj hs
 subst zJ
 obtain ⟨o1, o2, o3⟩ := h.qH 1 (C := (.two (.blk ba [(.int .i64 (BI))]) (.blk bo [(.bool (Bw))]) : Chunk)) rfl ⟨trivial, trivial⟩
 exact ⟨o2, .slice none 0 0, rfl, o1, o3, gp.nil⟩
 refine bV (σ := Bool × Int × Bool) (inl [10, 11, 12, 13, 14, 15, 16]) (fun ⟨BP, FC, J8⟩ => [(16, (.bool (BP)))]) (fun ⟨BP, FC, J8⟩ w => SH w0 M K0 w (hset [(1, .blk ba [(.int .i64 (FC))]), (2, .blk bo [(.bool (J8))]), (3, .rd nA vW W), (4, .sr iH vF F), (5, .pt bw 0 [vW]), (6, .pt bwd 0 [(.func (.func 103) #[] #[(.pointer (some ⟨ba, 0, none⟩)), (.pointer (some ⟨bw, 0, none⟩)), (.pointer (some ⟨bo, 0, none⟩))])]), (7, .pt bf 0 [vF]), (8, .pt be 0 [(.func (.func 104) #[] #[(.pointer (some ⟨bo, 0, none⟩)), (.pointer (some ⟨bwd, 0, none⟩)), (.pointer (some ⟨bf, 0, none⟩))])]), (9, .pt bb 0 [(.func (.func 109) #[] #[(.pointer (some ⟨bwd, 0, none⟩)), (.pointer (some ⟨bo, 0, none⟩)), (.pointer (some ⟨be, 0, none⟩)), (.pointer (some ⟨bb, 0, none⟩))])])]) ∧ sV N F0 W F a BP FC J8 = some r) ?_ ?_
 rintro ⟨BP, FC, J8⟩ w dz ⟨h, hs⟩
 refine aI hs rfl (fun c136 hs => ?_) (fun c136 hs => ?_)
 refine ag (fq h 2 [(.bool (false))] rfl wT rfl rfl rfl rfl rfl fun w h => ah (az ?_))
 exact bQ (FC, false) ⟨h.cn _, hs⟩
 refine aG (az ?_)
 exact bQ (FC, J8) ⟨h.cn _, hs⟩
 refine ag (ae (eF (k := 0) h 6 rfl ze rfl rfl) (lX (args := [(.pointer (some ⟨ba, 0, none⟩)), (.pointer (some ⟨bw, 0, none⟩)), (.pointer (some ⟨bo, 0, none⟩))]) za rfl rfl (aS (args := [(.pointer (some ⟨ba, 0, none⟩)), (.pointer (some ⟨bw, 0, none⟩)), (.pointer (some ⟨bo, 0, none⟩))]) Tryz.func103 rfl Tryz.ntmps103 (Nat.le_of_ble_eq_true rfl) (ai (ag (ae (aj (v := (bu [])) rfl) (ah (aa (ai (ai (ag (ae (aF h 1 rfl bz rfl rfl) (ae (eF (k := 0) h 5 rfl mf rfl rfl) (ae (bY dZ rfl (h.oZ 3 rfl)) (ae (oK rfl rfl) (ah (aa (aI hs rfl (fun c137 hs => ?_) (fun c137 hs => ?_)))))))))))))))))))
 refine ai (ag (fq h 2 [(.bool (false))] rfl wT rfl rfl rfl rfl rfl fun w h => ah (aa (ai (ag (ae (aj (v := (bu [])) rfl) (ah (aa (aK (aC (cK (v := (bu [])) Tryz.results103 rfl (⟨_, rfl, ?_⟩))))))))))))
 refine ae (F6 rfl rfl) (ae (au (v := (.bool (true))) rfl) (dh (b' := true) rfl rfl rfl (dh (b' := true) rfl rfl rfl (ae (fw (b := true) (v := (.bool (true))) rfl rfl) (ah (az ?_))))))
 exact bQ (true, sx.at_, false) ⟨h.cn _, hs⟩
 refine aG (aa (ai (ag (ae (aF h 1 rfl bz rfl rfl) ?_))))
 obtain ⟨a138, hs⟩ := bG hs
 refine ae (dw rfl rfl a138) (fq h 1 [(.int .i64 ((sx.at_ + 1)))] rfl bz rfl rfl rfl rfl rfl fun w h => ah (aa (ai (ag (ae (eF (k := 0) h 5 rfl mf rfl rfl) (ae (aF h 1 rfl bz rfl rfl) ?_))))))
 obtain ⟨a139, hs⟩ := bG hs
 refine ae (oh rfl rfl a139) ?_
 obtain ⟨Lg, ZP, hs⟩ := aQ hs
 obtain ⟨b143, o144, cs145, h, r146, i142⟩ := h.DI 3 27 rfl dZ rfl (aJ ZP).1 (aJ ZP).2
 obtain rfl := r146
 refine ae (i142 _ _ _ _ _ _ _ _ _ rfl rfl) (ae (eF (k := 0) h 27 rfl xZ rfl rfl) (ae (aj (v := (bu Lg)) rfl) (ah (aa (aK (cK (v := (bu Lg)) Tryz.results103 rfl (⟨_, rfl, ?_⟩)))))))
 refine ae (F6 rfl rfl) (ae (au (v := (.bool (decide ((Lg : Str) ≠ [123])))) rfl) (aD rfl rfl (fun q => au (v := (.int .i64 (a))) rfl) (aD rfl rfl (fun q => jH (dn q) rfl) (ae (gu rfl rfl lV) (ah (az ?_))))))
 exact bQ ((decide ((Lg : Str) ≠ [123]) || decide ((6 : Int) < a)), (sx.at_ + 1), sx.ok) ⟨h.cn _, hs⟩
def kX (Ii : List eO → Option (List eO × Int)) (y24 : List eO) : Option (List eO × Int) :=
  Ii y24
def kY (y1 : List Str) (i17 : Int) (iF : List eO) (Ii : List eO → Option (List eO × Int)) (x30 : Bool) : Option (List eO × Int) :=
  bif x30 then (idx y1 (i17 + 1)).bind fun x32 => (zY x32).bind fun y39 => gz (jA (i17 + 2)) ((idx y1 (i17 + 2)).bind fun x45 => (zY x45).bind fun A9 => gz (Room 40 iF [(⟨y39.1, A9.1, []⟩ : eO)]) (kX Ii (iF ++ [(⟨y39.1, A9.1, []⟩ : eO)]))) else kX Ii iF
def gW (N : Nat) (y1 : List Str) (qM : List eO) (i101 : Int) (ku : (List eO × Int × Bool) → Option (List eO × Int)) (FD : Int) (y112 : Bool) : Option (List eO × Int) :=
  (uJ N (⟨FD, y112⟩ : dH) y1 qM 1).bind fun jK => (idx qM i101).bind fun wu => ku ((qM.set (i101).toNat { wu with body := jK.1 }), jK.2.at_, jK.2.ok)
def gX (N : Nat) (y1 : List Str) (qM : List eO) (i101 : Int) (ku : (List eO × Int × Bool) → Option (List eO × Int)) (xC : Int) (Ka : Bool) : Option (List eO × Int) :=
  bif decide (((y1.length : Int) : Int) ≤ xC) then gW N y1 qM i101 ku xC false else gz (jA (xC + 1)) (gz (jA ((xC + 1) - 1)) ((idx y1 ((xC + 1) - 1)).bind fun Vg => gW N y1 qM i101 ku (xC + 1) Ka))
def gY (N : Nat) (y1 : List Str) (qM : List eO) (i101 : Int) (ku : (List eO × Int × Bool) → Option (List eO × Int)) (ou : Int) (Kb : Bool) : Option (List eO × Int) :=
  bif decide (((y1.length : Int) : Int) ≤ ou) then gX N y1 qM i101 ku ou false else gz (jA (ou + 1)) (gz (jA ((ou + 1) - 1)) ((idx y1 ((ou + 1) - 1)).bind fun Vh => gX N y1 qM i101 ku (ou + 1) Kb))
def gZ (N : Nat) (y1 : List Str) (qM : List eO) (i101 : Int) (ku : (List eO × Int × Bool) → Option (List eO × Int)) (Lh : Bool) (FE : Int) (Kc : Bool) : Option (List eO × Int) :=
  bif Lh then gY N y1 qM i101 ku FE false else gY N y1 qM i101 ku FE Kc
def iV (qM : List eO) (x159 : Bool) : Option (List eO × Int) :=
  bif x159 then some ([], 1) else some (qM, 0)
def ib (N : Nat) (y1 : List Str) (i101 : Int) (s : List eO × Int × Bool) (ku : List eO × Int × Bool → Option (List eO × Int)) : Option (List eO × Int) :=
  match s with | (qM, y98, y99) => bif decide (((y1.length : Int) : Int) ≤ y98) then gZ N y1 qM i101 ku true y98 false else gz (jA (y98 + 1)) (gz (jA ((y98 + 1) - 1)) ((idx y1 ((y98 + 1) - 1)).bind fun x152 => gZ N y1 qM i101 ku (decide ((x152 : Str) ≠ [102, 117, 110])) (y98 + 1) y99))
def iW (N : Nat) (y1 : List Str) (a : Str) (s : List eO × Int × Bool) : Option (List eO × Int) :=
  match s with | (qM, y98, y99) => bif ((!y99) || decide ((y98 : Int) < (y1.length : Int))) then iV qM true else (rJ N qM).bind fun Sz => bif decide ((Sz : Int) ≠ 0) then iV qM true else (sK N qM).bind fun Vi => iV qM (decide ((Vi : Str) ≠ a))
def iX (iF : List eO) (i64 : Int) (s : Unit) (ZQ : Unit → Option (List eO × Int)) : Option (List eO × Int) :=
  (idx iF i64).bind fun Vj => bif (!(bB Vj.params 0 3)) then some ([], 1) else ZQ ()
def ic (N : Nat) (y1 : List Str) (a : Str) (iF : List eO) (s : Unit) : Option (List eO × Int) :=
  upto (ib N y1) (iW N y1 a) 0 ((iF.length : Int)).toNat (iF, 0, true)
def iY (y1 : List Str) (i17 : Int) (yQ : Str) (iF : List eO) (Ii : List eO → Option (List eO × Int)) : Option (List eO × Int) :=
  bif decide ((yQ : Str) = [102, 117, 110]) then gz (jA (i17 + 2)) (kY y1 i17 iF Ii (decide (((i17 + 2) : Int) < (y1.length : Int)))) else kY y1 i17 iF Ii false
def ig (N : Nat) (y1 : List Str) (a : Str) (iF : List eO) : Option (List eO × Int) :=
  bif (decide (((iF.length : Int) : Int) = 0) || decide ((4 : Int) < (iF.length : Int))) then some ([], 1) else upto (iX iF) (ic N y1 a iF) 0 ((iF.length : Int)).toNat ()
def j4 (N : Nat) (a : Str) : Option (List eO × Int) :=
  (JH a [32]).bind fun y1 => fT (iY y1) (ig N y1 a) 0 y1 []
end
end Go.Proofs.YtfclkapelkhlpaaGreatDoor
