/-
  What the law VmKeeps needs of our own library and of the walks, no more.
-/
import Derived.Test.YtfclkapelkhlpaaGreatDoorRows
import Derived.Test.YtfclkapelkhlpaaGreatDoorCards
import Derived.Test.YtfclkapelkhlpaaGreatDoorTie
import Derived.WalkKit
import Derived.Laws.StructEq
import Derived.ChangeKeysEq
import Derived.StillTail
import Derived.LoopN
import Derived.Deep.Quiet
import Derived.OrdersHeld
import Derived.Deep.RegionHeld3
import Derived.Deep.Slices
import Derived.MapKept
import Derived.Lib.Bytealg
import Derived.ChangeArms
import Derived.Lib.AppendZeros
import Derived.Lib.Overlaps
import Derived.Laws.CopyRow
import Derived.Shelf.SlSortCmp.SmallK
import Derived.Laws.Pointers
import Derived.Laws.OwnMore
import Derived.Laws.Concat
import Derived.Laws.Strings2
import Derived.Laws.Strings3
import Derived.Laws.IdiomStrings
import Derived.Lib.AppendStr
import Derived.Lib.ConvBytes
import Derived.Lib.LaidTab
import Derived.Lib.ItoaNum
import Derived.WideLaws
import Derived.Lib.SplitLaws
import Derived.Lib.JoinLaws
import Derived.Lib.AtoiAll
import Derived.Lib.ParseIntB
import Derived.Laws.NewFold
import Derived.Lib.Join
import Derived.Lib.Strings
import Derived.Sort.Grow
import Derived.Lib.Space
import Derived.Handed
import Derived.LaidMore
import Derived.LaidHandle
import Derived.Stop.LaidErr
import Derived.Shelf.Vars
import Derived.WideShapes
import Derived.Lib.ParseIntBTie
import Derived.Lib.ItoaLen
import Derived.Lib.AtoiAllCases
import Derived.Shelf.Strings.Builder1
import Derived.Laws.IdiomRangeMap
import Derived.Lib.FieldsLaws
import Derived.KernelRfl
import Derived.Test.YtfclkapelkhlpaaGreatDoorProg
import Derived.Lib.Slices
import Derived.Lib.Walk
import Derived.Shelf.Strings.OnBuilder
import Derived.Shelf.LaysM
import Derived.Shelf.Strconv.Itoa3
import Derived.Shelf.LaysC
import Derived.Shelf.Strconv.AtoiAll
import Derived.Shelf.Strconv.ErrVarAll
import Derived.Shelf.Strings.Split
import Derived.Shelf.Strings.Fields
import Derived.Shelf.Strings.BuilderX
import Derived.ProofKit
import Derived.SevenTiedAt
import Derived.OpenShut
import Derived.ShutString
import Derived.ChangeOld
import Derived.Below
import Derived.Test.YtfclkapelkhlpaaGreatDoorVmKeepsTb
set_option linter.unusedSimpArgs false
set_option linter.unusedVariables false
set_option maxRecDepth 10000
namespace Go.Proofs.YtfclkapelkhlpaaGreatDoor
open Go Go.Proofs Go.LX
noncomputable section
theorem ElemOf111 : ElemOf Tryz.prog 111 147 6 112 := ⟨Tryz.underlying111, elem_of (z := (.agg #[(.int .i64 (0)), (.int .i64 (0)), (.slice none 0 0), (.slice none 0 0), (.slice none 0 0), (.slice none 0 0)])) (by kernel_rfl) rfl⟩
theorem ElemOf145 : ElemOf Tryz.prog 145 160 2 16 := ⟨Tryz.underlying145, elem_of (z := (.agg #[(.int .i64 (0)), (.int .i64 (0))])) (by kernel_rfl) rfl⟩
theorem ElemOf153 : ElemOf Tryz.prog 153 9 1 16 := ⟨Tryz.underlying153, elem_of (z := (strV [])) (by kernel_rfl) rfl⟩
theorem ElemOf204 : ElemOf Tryz.prog 204 111 1 24 := ⟨Tryz.underlying204, elem_of (z := (.slice none 0 0)) (by kernel_rfl) rfl⟩
theorem ElemOf22 : ElemOf Tryz.prog 22 57 3 40 := ⟨Tryz.underlying22, elem_of (z := (.agg #[(.int .i64 (0)), (.int .i64 (0)), (.slice none 0 0)])) (by kernel_rfl) rfl⟩
theorem ElemOf23 : ElemOf Tryz.prog 23 49 4 48 := ⟨Tryz.underlying23, elem_of (z := (.agg #[(.int .i64 (0)), (.int .i64 (0)), (.slice none 0 0), (.int .i64 (0))])) (by kernel_rfl) rfl⟩
theorem ElemOf24 : ElemOf Tryz.prog 24 47 1 24 := ⟨Tryz.underlying24, elem_of (z := (.slice none 0 0)) (by kernel_rfl) rfl⟩
theorem ElemOf27 : ElemOf Tryz.prog 27 3 1 8 := ⟨Tryz.underlying27, elem_of (z := (.int .i64 (0))) (by kernel_rfl) rfl⟩
theorem ElemOf47 : ElemOf Tryz.prog 47 51 2 16 := ⟨Tryz.underlying47, elem_of (z := (.agg #[(.int .i64 (0)), (.int .i64 (0))])) (by kernel_rfl) rfl⟩
theorem ElemOf55 : ElemOf Tryz.prog 55 93 5 56 := ⟨Tryz.underlying55, elem_of (z := (.agg #[(.int .i64 (0)), (.int .i64 (0)), (.int .i64 (0)), (.int .i64 (0)), (.slice none 0 0)])) (by kernel_rfl) rfl⟩
theorem ElemOf67 : ElemOf Tryz.prog 67 113 3 40 := ⟨Tryz.underlying67, elem_of (z := (.agg #[(.int .i64 (0)), (.int .i64 (0)), (.slice none 0 0)])) (by kernel_rfl) rfl⟩
theorem Fld101x0 : FieldAt Tryz.prog 101 0 0 := ⟨_, _, 0, Tryz.underlying101, rfl, rfl, by kernel_rfl⟩
theorem Fld101x1 : FieldAt Tryz.prog 101 1 1 := ⟨_, _, 0, Tryz.underlying101, rfl, rfl, by kernel_rfl⟩
theorem Fld101x2 : FieldAt Tryz.prog 101 2 2 := ⟨_, _, 0, Tryz.underlying101, rfl, rfl, by kernel_rfl⟩
theorem Fld113x0 : FieldAt Tryz.prog 113 0 0 := ⟨_, _, 0, Tryz.underlying113, rfl, rfl, by kernel_rfl⟩
theorem Fld113x1 : FieldAt Tryz.prog 113 1 1 := ⟨_, _, 0, Tryz.underlying113, rfl, rfl, by kernel_rfl⟩
theorem Fld113x2 : FieldAt Tryz.prog 113 2 2 := ⟨_, _, 0, Tryz.underlying113, rfl, rfl, by kernel_rfl⟩
theorem Fld147x0 : FieldAt Tryz.prog 147 0 0 := ⟨_, _, 0, Tryz.underlying147, rfl, rfl, by kernel_rfl⟩
theorem Fld147x1 : FieldAt Tryz.prog 147 1 1 := ⟨_, _, 0, Tryz.underlying147, rfl, rfl, by kernel_rfl⟩
theorem Fld147x2 : FieldAt Tryz.prog 147 2 2 := ⟨_, _, 0, Tryz.underlying147, rfl, rfl, by kernel_rfl⟩
theorem Fld147x3 : FieldAt Tryz.prog 147 3 3 := ⟨_, _, 0, Tryz.underlying147, rfl, rfl, by kernel_rfl⟩
theorem Fld147x4 : FieldAt Tryz.prog 147 4 4 := ⟨_, _, 0, Tryz.underlying147, rfl, rfl, by kernel_rfl⟩
theorem Fld147x5 : FieldAt Tryz.prog 147 5 5 := ⟨_, _, 0, Tryz.underlying147, rfl, rfl, by kernel_rfl⟩
theorem Fld160x0 : FieldAt Tryz.prog 160 0 0 := ⟨_, _, 0, Tryz.underlying160, rfl, rfl, by kernel_rfl⟩
theorem Fld160x1 : FieldAt Tryz.prog 160 1 1 := ⟨_, _, 0, Tryz.underlying160, rfl, rfl, by kernel_rfl⟩
theorem Fld26x0 : FieldAt Tryz.prog 26 0 0 := ⟨_, _, 0, Tryz.underlying26, rfl, rfl, by kernel_rfl⟩
theorem Fld26x1 : FieldAt Tryz.prog 26 1 1 := ⟨_, _, 0, Tryz.underlying26, rfl, rfl, by kernel_rfl⟩
theorem Fld26x2 : FieldAt Tryz.prog 26 2 2 := ⟨_, _, 0, Tryz.underlying26, rfl, rfl, by kernel_rfl⟩
theorem Fld26x3 : FieldAt Tryz.prog 26 3 3 := ⟨_, _, 0, Tryz.underlying26, rfl, rfl, by kernel_rfl⟩
theorem Fld49x0 : FieldAt Tryz.prog 49 0 0 := ⟨_, _, 0, Tryz.underlying49, rfl, rfl, by kernel_rfl⟩
theorem Fld49x1 : FieldAt Tryz.prog 49 1 1 := ⟨_, _, 0, Tryz.underlying49, rfl, rfl, by kernel_rfl⟩
theorem Fld49x2 : FieldAt Tryz.prog 49 2 2 := ⟨_, _, 0, Tryz.underlying49, rfl, rfl, by kernel_rfl⟩
theorem Fld49x3 : FieldAt Tryz.prog 49 3 3 := ⟨_, _, 0, Tryz.underlying49, rfl, rfl, by kernel_rfl⟩
theorem Fld51x0 : FieldAt Tryz.prog 51 0 0 := ⟨_, _, 0, Tryz.underlying51, rfl, rfl, by kernel_rfl⟩
theorem Fld51x1 : FieldAt Tryz.prog 51 1 1 := ⟨_, _, 0, Tryz.underlying51, rfl, rfl, by kernel_rfl⟩
theorem Fld57x0 : FieldAt Tryz.prog 57 0 0 := ⟨_, _, 0, Tryz.underlying57, rfl, rfl, by kernel_rfl⟩
theorem Fld57x1 : FieldAt Tryz.prog 57 1 1 := ⟨_, _, 0, Tryz.underlying57, rfl, rfl, by kernel_rfl⟩
theorem Fld57x2 : FieldAt Tryz.prog 57 2 2 := ⟨_, _, 0, Tryz.underlying57, rfl, rfl, by kernel_rfl⟩
theorem Fld93x0 : FieldAt Tryz.prog 93 0 0 := ⟨_, _, 0, Tryz.underlying93, rfl, rfl, by kernel_rfl⟩
theorem Fld93x1 : FieldAt Tryz.prog 93 1 1 := ⟨_, _, 0, Tryz.underlying93, rfl, rfl, by kernel_rfl⟩
theorem Fld93x2 : FieldAt Tryz.prog 93 2 2 := ⟨_, _, 0, Tryz.underlying93, rfl, rfl, by kernel_rfl⟩
theorem Fld93x3 : FieldAt Tryz.prog 93 3 3 := ⟨_, _, 0, Tryz.underlying93, rfl, rfl, by kernel_rfl⟩
theorem Fld93x4 : FieldAt Tryz.prog 93 4 4 := ⟨_, _, 0, Tryz.underlying93, rfl, rfl, by kernel_rfl⟩
theorem fnOk100 : FnOk Tryz.prog 100 := ⟨_, Tryz.func100, by kernel_rfl, rfl⟩
theorem fnOk101 : FnOk Tryz.prog 101 := ⟨_, Tryz.func101, by kernel_rfl, rfl⟩
theorem fnOk102 : FnOk Tryz.prog 102 := ⟨_, Tryz.func102, by kernel_rfl, rfl⟩
theorem fnOk103 : FnOk Tryz.prog 103 := ⟨_, Tryz.func103, by kernel_rfl, rfl⟩
theorem fnOk104 : FnOk Tryz.prog 104 := ⟨_, Tryz.func104, by kernel_rfl, rfl⟩
theorem fnOk105 : FnOk Tryz.prog 105 := ⟨_, Tryz.func105, by kernel_rfl, rfl⟩
theorem fnOk106 : FnOk Tryz.prog 106 := ⟨_, Tryz.func106, by kernel_rfl, rfl⟩
theorem fnOk107 : FnOk Tryz.prog 107 := ⟨_, Tryz.func107, by kernel_rfl, rfl⟩
theorem fnOk108 : FnOk Tryz.prog 108 := ⟨_, Tryz.func108, by kernel_rfl, rfl⟩
theorem fnOk109 : FnOk Tryz.prog 109 := ⟨_, Tryz.func109, by kernel_rfl, rfl⟩
theorem fnOk110 : FnOk Tryz.prog 110 := ⟨_, Tryz.func110, by kernel_rfl, rfl⟩
theorem fnOk111 : FnOk Tryz.prog 111 := ⟨_, Tryz.func111, by kernel_rfl, rfl⟩
theorem fnOk112 : FnOk Tryz.prog 112 := ⟨_, Tryz.func112, by kernel_rfl, rfl⟩
theorem fnOk113 : FnOk Tryz.prog 113 := ⟨_, Tryz.func113, by kernel_rfl, rfl⟩
theorem fnOk114 : FnOk Tryz.prog 114 := ⟨_, Tryz.func114, by kernel_rfl, rfl⟩
theorem fnOk115 : FnOk Tryz.prog 115 := ⟨_, Tryz.func115, by kernel_rfl, rfl⟩
theorem fnOk116 : FnOk Tryz.prog 116 := ⟨_, Tryz.func116, by kernel_rfl, rfl⟩
theorem fnOk117 : FnOk Tryz.prog 117 := ⟨_, Tryz.func117, by kernel_rfl, rfl⟩
theorem fnOk124 : FnOk Tryz.prog 124 := ⟨_, Tryz.func124, by kernel_rfl, rfl⟩
theorem fnOk125 : FnOk Tryz.prog 125 := ⟨_, Tryz.func125, by kernel_rfl, rfl⟩
theorem fnOk128 : FnOk Tryz.prog 128 := ⟨_, Tryz.func128, by kernel_rfl, rfl⟩
theorem fnOk129 : FnOk Tryz.prog 129 := ⟨_, Tryz.func129, by kernel_rfl, rfl⟩
theorem fnOk130 : FnOk Tryz.prog 130 := ⟨_, Tryz.func130, by kernel_rfl, rfl⟩
theorem fnOk131 : FnOk Tryz.prog 131 := ⟨_, Tryz.func131, by kernel_rfl, rfl⟩
theorem fnOk141 : FnOk Tryz.prog 141 := ⟨_, Tryz.func141, by kernel_rfl, rfl⟩
theorem fnOk144 : FnOk Tryz.prog 144 := ⟨_, Tryz.func144, by kernel_rfl, rfl⟩
theorem fnOk145 : FnOk Tryz.prog 145 := ⟨_, Tryz.func145, by kernel_rfl, rfl⟩
theorem fnOk146 : FnOk Tryz.prog 146 := ⟨_, Tryz.func146, by kernel_rfl, rfl⟩
theorem fnOk147 : FnOk Tryz.prog 147 := ⟨_, Tryz.func147, by kernel_rfl, rfl⟩
theorem fnOk164 : FnOk Tryz.prog 164 := ⟨_, Tryz.func164, by kernel_rfl, rfl⟩
theorem fnOk18 : FnOk Tryz.prog 18 := ⟨_, Tryz.func18, by kernel_rfl, rfl⟩
theorem fnOk19 : FnOk Tryz.prog 19 := ⟨_, Tryz.func19, by kernel_rfl, rfl⟩
theorem fnOk20 : FnOk Tryz.prog 20 := ⟨_, Tryz.func20, by kernel_rfl, rfl⟩
theorem fnOk26 : FnOk Tryz.prog 26 := ⟨_, Tryz.func26, by kernel_rfl, rfl⟩
theorem fnOk27 : FnOk Tryz.prog 27 := ⟨_, Tryz.func27, by kernel_rfl, rfl⟩
theorem fnOk28 : FnOk Tryz.prog 28 := ⟨_, Tryz.func28, by kernel_rfl, rfl⟩
theorem fnOk29 : FnOk Tryz.prog 29 := ⟨_, Tryz.func29, by kernel_rfl, rfl⟩
theorem fnOk30 : FnOk Tryz.prog 30 := ⟨_, Tryz.func30, by kernel_rfl, rfl⟩
theorem fnOk39 : FnOk Tryz.prog 39 := ⟨_, Tryz.func39, by kernel_rfl, rfl⟩
theorem fnOk40 : FnOk Tryz.prog 40 := ⟨_, Tryz.func40, by kernel_rfl, rfl⟩
theorem fnOk44 : FnOk Tryz.prog 44 := ⟨_, Tryz.func44, by kernel_rfl, rfl⟩
theorem fnOk45 : FnOk Tryz.prog 45 := ⟨_, Tryz.func45, by kernel_rfl, rfl⟩
theorem fnOk46 : FnOk Tryz.prog 46 := ⟨_, Tryz.func46, by kernel_rfl, rfl⟩
theorem fnOk47 : FnOk Tryz.prog 47 := ⟨_, Tryz.func47, by kernel_rfl, rfl⟩
theorem fnOk48 : FnOk Tryz.prog 48 := ⟨_, Tryz.func48, by kernel_rfl, rfl⟩
theorem fnOk49 : FnOk Tryz.prog 49 := ⟨_, Tryz.func49, by kernel_rfl, rfl⟩
theorem fnOk50 : FnOk Tryz.prog 50 := ⟨_, Tryz.func50, by kernel_rfl, rfl⟩
theorem fnOk51 : FnOk Tryz.prog 51 := ⟨_, Tryz.func51, by kernel_rfl, rfl⟩
theorem fnOk53 : FnOk Tryz.prog 53 := ⟨_, Tryz.func53, by kernel_rfl, rfl⟩
theorem fnOk55 : FnOk Tryz.prog 55 := ⟨_, Tryz.func55, by kernel_rfl, rfl⟩
theorem fnOk63 : FnOk Tryz.prog 63 := ⟨_, Tryz.func63, by kernel_rfl, rfl⟩
theorem fnOk64 : FnOk Tryz.prog 64 := ⟨_, Tryz.func64, by kernel_rfl, rfl⟩
theorem fnOk65 : FnOk Tryz.prog 65 := ⟨_, Tryz.func65, by kernel_rfl, rfl⟩
theorem fnOk76 : FnOk Tryz.prog 76 := ⟨_, Tryz.func76, by kernel_rfl, rfl⟩
theorem fnOk77 : FnOk Tryz.prog 77 := ⟨_, Tryz.func77, by kernel_rfl, rfl⟩
theorem fnOk78 : FnOk Tryz.prog 78 := ⟨_, Tryz.func78, by kernel_rfl, rfl⟩
theorem fnOk79 : FnOk Tryz.prog 79 := ⟨_, Tryz.func79, by kernel_rfl, rfl⟩
theorem fnOk80 : FnOk Tryz.prog 80 := ⟨_, Tryz.func80, by kernel_rfl, rfl⟩
theorem fnOk81 : FnOk Tryz.prog 81 := ⟨_, Tryz.func81, by kernel_rfl, rfl⟩
theorem fnOk82 : FnOk Tryz.prog 82 := ⟨_, Tryz.func82, by kernel_rfl, rfl⟩
theorem fnOk83 : FnOk Tryz.prog 83 := ⟨_, Tryz.func83, by kernel_rfl, rfl⟩
theorem fnOk84 : FnOk Tryz.prog 84 := ⟨_, Tryz.func84, by kernel_rfl, rfl⟩
theorem fnOk85 : FnOk Tryz.prog 85 := ⟨_, Tryz.func85, by kernel_rfl, rfl⟩
theorem fnOk86 : FnOk Tryz.prog 86 := ⟨_, Tryz.func86, by kernel_rfl, rfl⟩
theorem fnOk87 : FnOk Tryz.prog 87 := ⟨_, Tryz.func87, by kernel_rfl, rfl⟩
theorem fnOk88 : FnOk Tryz.prog 88 := ⟨_, Tryz.func88, by kernel_rfl, rfl⟩
theorem fnOk89 : FnOk Tryz.prog 89 := ⟨_, Tryz.func89, by kernel_rfl, rfl⟩
theorem fnOk90 : FnOk Tryz.prog 90 := ⟨_, Tryz.func90, by kernel_rfl, rfl⟩
theorem fnOk91 : FnOk Tryz.prog 91 := ⟨_, Tryz.func91, by kernel_rfl, rfl⟩
theorem IfaceT156 : IfaceT Tryz.prog 156 := ⟨by kernel_rfl⟩
theorem Many101 : Many Tryz.prog 101 [(.bool (false)), (.int .i64 (0)), (.bool (false))] := ⟨⟨_, Tryz.underlying101, trivial⟩, by kernel_rfl⟩
theorem Many113 : Many Tryz.prog 113 [(.int .i64 (0)), (.int .i64 (0)), (.slice none 0 0)] := ⟨⟨_, Tryz.underlying113, trivial⟩, by kernel_rfl⟩
theorem Many147 : Many Tryz.prog 147 [(.int .i64 (0)), (.int .i64 (0)), (.slice none 0 0), (.slice none 0 0), (.slice none 0 0), (.slice none 0 0)] := ⟨⟨_, Tryz.underlying147, trivial⟩, by kernel_rfl⟩
theorem Many160 : Many Tryz.prog 160 [(.int .i64 (0)), (.int .i64 (0))] := ⟨⟨_, Tryz.underlying160, trivial⟩, by kernel_rfl⟩
theorem Many26 : Many Tryz.prog 26 [(.slice none 0 0), (.slice none 0 0), (.int .i64 (0)), (.int .i64 (0))] := ⟨⟨_, Tryz.underlying26, trivial⟩, by kernel_rfl⟩
theorem Many49 : Many Tryz.prog 49 [(.int .i64 (0)), (.int .i64 (0)), (.slice none 0 0), (.int .i64 (0))] := ⟨⟨_, Tryz.underlying49, trivial⟩, by kernel_rfl⟩
theorem Many51 : Many Tryz.prog 51 [(.int .i64 (0)), (.int .i64 (0))] := ⟨⟨_, Tryz.underlying51, trivial⟩, by kernel_rfl⟩
theorem Many57 : Many Tryz.prog 57 [(.int .i64 (0)), (.int .i64 (0)), (.slice none 0 0)] := ⟨⟨_, Tryz.underlying57, trivial⟩, by kernel_rfl⟩
theorem Many93 : Many Tryz.prog 93 [(.int .i64 (0)), (.int .i64 (0)), (.int .i64 (0)), (.int .i64 (0)), (.slice none 0 0)] := ⟨⟨_, Tryz.underlying93, trivial⟩, by kernel_rfl⟩
theorem MapOf125 : MapOf Tryz.prog 125 (.bool (false)) := ⟨_, _, Tryz.underlying125, Tryz.underlying3, by kernel_rfl⟩
theorem MapOf131 : MapOf Tryz.prog 131 (strV []) := ⟨_, _, Tryz.underlying131, Tryz.underlying3, by kernel_rfl⟩
theorem MapOf89 : MapOf Tryz.prog 89 (.int .i64 (0)) := ⟨_, _, Tryz.underlying89, Tryz.underlying3, by kernel_rfl⟩
theorem One111 : One Tryz.prog 111 (.slice none 0 0) := ⟨⟨_, Tryz.underlying111, trivial⟩, by kernel_rfl, rfl⟩
theorem One125 : One Tryz.prog 125 (.map none) := ⟨⟨_, Tryz.underlying125, trivial⟩, by kernel_rfl, rfl⟩
theorem One145 : One Tryz.prog 145 (.slice none 0 0) := ⟨⟨_, Tryz.underlying145, trivial⟩, by kernel_rfl, rfl⟩
theorem One153 : One Tryz.prog 153 (.slice none 0 0) := ⟨⟨_, Tryz.underlying153, trivial⟩, by kernel_rfl, rfl⟩
theorem One159 : One Tryz.prog 159 .nilFunc := ⟨⟨_, Tryz.underlying159, trivial⟩, by kernel_rfl, rfl⟩
theorem One165 : One Tryz.prog 165 .nilFunc := ⟨⟨_, Tryz.underlying165, trivial⟩, by kernel_rfl, rfl⟩
theorem One166 : One Tryz.prog 166 .nilFunc := ⟨⟨_, Tryz.underlying166, trivial⟩, by kernel_rfl, rfl⟩
theorem One23 : One Tryz.prog 23 (.slice none 0 0) := ⟨⟨_, Tryz.underlying23, trivial⟩, by kernel_rfl, rfl⟩
theorem One24 : One Tryz.prog 24 (.slice none 0 0) := ⟨⟨_, Tryz.underlying24, trivial⟩, by kernel_rfl, rfl⟩
theorem One27 : One Tryz.prog 27 (.slice none 0 0) := ⟨⟨_, Tryz.underlying27, trivial⟩, by kernel_rfl, rfl⟩
theorem One3 : One Tryz.prog 3 (.int .i64 (0)) := ⟨⟨_, Tryz.underlying3, trivial⟩, by kernel_rfl, rfl⟩
theorem One4 : One Tryz.prog 4 (.bool (false)) := ⟨⟨_, Tryz.underlying4, trivial⟩, by kernel_rfl, rfl⟩
theorem One47 : One Tryz.prog 47 (.slice none 0 0) := ⟨⟨_, Tryz.underlying47, trivial⟩, by kernel_rfl, rfl⟩
theorem One55 : One Tryz.prog 55 (.slice none 0 0) := ⟨⟨_, Tryz.underlying55, trivial⟩, by kernel_rfl, rfl⟩
theorem One67 : One Tryz.prog 67 (.slice none 0 0) := ⟨⟨_, Tryz.underlying67, trivial⟩, by kernel_rfl, rfl⟩
theorem One89 : One Tryz.prog 89 (.map none) := ⟨⟨_, Tryz.underlying89, trivial⟩, by kernel_rfl, rfl⟩
theorem One9 : One Tryz.prog 9 (strV []) := ⟨⟨_, Tryz.underlying9, trivial⟩, by kernel_rfl, rfl⟩
theorem PairI51 : PairI Tryz.prog 51 := ⟨⟨_, _, Tryz.underlying51, by decide, by decide, rfl, rfl, Tryz.underlying3, Tryz.underlying3, by kernel_rfl, by kernel_rfl⟩, by kernel_rfl, by kernel_rfl⟩
theorem SliceOf111 : SliceOf Tryz.prog 111 147 6 := ⟨Tryz.underlying111, by kernel_rfl⟩
theorem SliceOf145 : SliceOf Tryz.prog 145 160 2 := ⟨Tryz.underlying145, by kernel_rfl⟩
theorem SliceOf153 : SliceOf Tryz.prog 153 9 1 := ⟨Tryz.underlying153, by kernel_rfl⟩
theorem SliceOf204 : SliceOf Tryz.prog 204 111 1 := ⟨Tryz.underlying204, by kernel_rfl⟩
theorem SliceOf22 : SliceOf Tryz.prog 22 57 3 := ⟨Tryz.underlying22, by kernel_rfl⟩
theorem SliceOf23 : SliceOf Tryz.prog 23 49 4 := ⟨Tryz.underlying23, by kernel_rfl⟩
theorem SliceOf24 : SliceOf Tryz.prog 24 47 1 := ⟨Tryz.underlying24, by kernel_rfl⟩
theorem SliceOf27 : SliceOf Tryz.prog 27 3 1 := ⟨Tryz.underlying27, by kernel_rfl⟩
theorem SliceOf47 : SliceOf Tryz.prog 47 51 2 := ⟨Tryz.underlying47, by kernel_rfl⟩
theorem SliceOf55 : SliceOf Tryz.prog 55 93 5 := ⟨Tryz.underlying55, by kernel_rfl⟩
theorem SliceOf67 : SliceOf Tryz.prog 67 113 3 := ⟨Tryz.underlying67, by kernel_rfl⟩
theorem Struct101 : Struct Tryz.prog 101 [(.bool (false)), (.int .i64 (0)), (.bool (false))] [(0, 1), (1, 1), (2, 1)] := ⟨by kernel_rfl, _, Tryz.underlying101, by kernel_rfl⟩
theorem Struct113 : Struct Tryz.prog 113 [(.int .i64 (0)), (.int .i64 (0)), (.slice none 0 0)] [(0, 1), (1, 1), (2, 1)] := ⟨by kernel_rfl, _, Tryz.underlying113, by kernel_rfl⟩
theorem Struct147 : Struct Tryz.prog 147 [(.int .i64 (0)), (.int .i64 (0)), (.slice none 0 0), (.slice none 0 0), (.slice none 0 0), (.slice none 0 0)] [(0, 1), (1, 1), (2, 1), (3, 1), (4, 1), (5, 1)] := ⟨by kernel_rfl, _, Tryz.underlying147, by kernel_rfl⟩
theorem Struct160 : Struct Tryz.prog 160 [(.int .i64 (0)), (.int .i64 (0))] [(0, 1), (1, 1)] := ⟨by kernel_rfl, _, Tryz.underlying160, by kernel_rfl⟩
theorem Struct26 : Struct Tryz.prog 26 [(.slice none 0 0), (.slice none 0 0), (.int .i64 (0)), (.int .i64 (0))] [(0, 1), (1, 1), (2, 1), (3, 1)] := ⟨by kernel_rfl, _, Tryz.underlying26, by kernel_rfl⟩
theorem Struct49 : Struct Tryz.prog 49 [(.int .i64 (0)), (.int .i64 (0)), (.slice none 0 0), (.int .i64 (0))] [(0, 1), (1, 1), (2, 1), (3, 1)] := ⟨by kernel_rfl, _, Tryz.underlying49, by kernel_rfl⟩
theorem Struct51 : Struct Tryz.prog 51 [(.int .i64 (0)), (.int .i64 (0))] [(0, 1), (1, 1)] := ⟨by kernel_rfl, _, Tryz.underlying51, by kernel_rfl⟩
theorem Struct57 : Struct Tryz.prog 57 [(.int .i64 (0)), (.int .i64 (0)), (.slice none 0 0)] [(0, 1), (1, 1), (2, 1)] := ⟨by kernel_rfl, _, Tryz.underlying57, by kernel_rfl⟩
theorem Struct93 : Struct Tryz.prog 93 [(.int .i64 (0)), (.int .i64 (0)), (.int .i64 (0)), (.int .i64 (0)), (.slice none 0 0)] [(0, 1), (1, 1), (2, 1), (3, 1), (4, 1)] := ⟨by kernel_rfl, _, Tryz.underlying93, by kernel_rfl⟩
theorem mixed : Tryz.prog.follows .mixedOrders = true := by kernel_rfl
theorem strings_Split_c (w0 : World) (M : BS) (hM : ∀ b, M b → b < w0.heap.size) (hT : Tabs Tryz.prog 4 w0) (a : Str) (b : Str) (r : List Str) (hs : splitS a b = some r) :
    Calls Tryz.prog 101 #[strV a, strV b] w0 (fun e w' => Grow w0 w' ∧ ∃ u, e = .returned u ∧ RdSl rStr w' M u r) :=
  split_w Tryz.strings_Split hM hT hs
theorem strconv_Atoi_c (w0 : World) (M : BS) (hM : ∀ b, M b → b < w0.heap.size) (hT : Tabs Tryz.prog 4 w0) (a : Str) (r : Int × Bool) (hs : atoiS a = some r) :
    Calls Tryz.prog 102 #[strV a] w0 (fun e w' => Grow w0 w' ∧ ∃ u, e = .returned (.tuple #[.int .i64 r.1, u]) ∧ IsErr u r.2) :=
  atoi_w Tryz.strconv_Atoi_ok Tryz.strconv_Atoi_syntax_var Tryz.strconv_Atoi_range_var hT hs
def wandererref_in (a : Int) (b : Int) (c : Int) : Bool :=
  (decide ((b : Int) ≤ a) && decide ((a : Int) ≤ c))
theorem wandererref_in_c (w0 : World) (M : BS) (hM : ∀ b, M b → b < w0.heap.size) (a : Int) (b : Int) (c : Int) (r : Bool) (hs : wandererref_in a b c = r) :
    Calls Tryz.prog 51 #[(.int .i64 (a)), (.int .i64 (b)), (.int .i64 (c))] w0 (fun e w' => Grow w0 w' ∧ e = .returned (.bool r)) := by
 refine calls_start (args := [(.int .i64 (a)), (.int .i64 (b)), (.int .i64 (c))]) Tryz.func51 rfl Tryz.ntmps51 (Nat.le_of_ble_eq_true rfl) ?_
 have h := SH.init hM
 refine wc_seq (wc_region (wl_ok (r_assign (v := (.bool (false))) rfl) (wl_nil (then_normal (wc_seq (wc_region (wl_ok (r_move (v := (.int .i64 (b))) rfl) (wl_ok (r_move (v := (.int .i64 (a))) rfl) (wl_ok (r_leq rfl rfl) (wl_ok (r_move (v := (.bool (decide ((b : Int) ≤ a)))) rfl) (wl_gd0 rfl rfl (fun q => r_move (v := (.int .i64 (a))) rfl) (wl_gd0 rfl rfl (fun q => r_move (v := (.int .i64 (c))) rfl) (wl_gd0 rfl rfl (fun q => r_leq (gvt q) (gvt q)) (wl_ok (r_pand rfl rfl evc) (wl_ok (r_assign (v := (.bool ((decide ((b : Int) ≤ a) && decide ((a : Int) ≤ c))))) rfl) (wl_nil (then_normal (wc_ret (fin1 (v := (.bool ((decide ((b : Int) ≤ a) && decide ((a : Int) ≤ c))))) Tryz.results51 rfl ?_)))))))))))))))))))
 obtain rfl := hs
 exact ⟨h.grown, rfl⟩
def wandererref_sized_j120 (nx37 : Int → Option (Int × Bool)) (x40 : Int) : Option (Int × Bool) :=
  nx37 x40
def wandererref_sized_b121 (F0 : List GStmt → Int → Option (Int × Bool)) (b : Int) (x35 : List GStmt) (x32 : Int) (nx37 : Int → Option (Int × Bool)) : Option (Int × Bool) :=
  bif decide ((0 : Int) < (x35.length : Int)) then grd (I64 (b - 1)) ((F0 x35 (b - 1)).bind fun y50 => grd (I64 (x32 + y50.1)) (bif ((!y50.2) || decide ((30 : Int) < (x32 + y50.1))) then some (0, false) else wandererref_sized_j120 nx37 (x32 + y50.1))) else wandererref_sized_j120 nx37 x32
def wandererref_sized_k122 (nx10 : Int → Option (Int × Bool)) (x32 : Int) : Option (Int × Bool) :=
  bif decide ((30 : Int) < x32) then some (0, false) else nx10 x32
def wandererref_sized_b123 (F0 : List GStmt → Int → Option (Int × Bool)) (b : Int) (a : List GStmt) (x8 : GStmt) (x5 : Int) (nx10 : Int → Option (Int × Bool)) : Option (Int × Bool) :=
  grd (I64 (x5 + 1)) (each (wandererref_sized_b121 F0 b) (wandererref_sized_k122 nx10) [x8.a, x8.b] (x5 + 1))
def wandererref_sized_k124 (x5 : Int) : Option (Int × Bool) :=
  some (x5, true)
def wandererref_sized_r (F0 : List GStmt → Int → Option (Int × Bool)) (a : List GStmt) (b : Int) : Option (Int × Bool) :=
  bif decide ((b : Int) < 1) then some (0, false) else each (wandererref_sized_b123 F0 b a) wandererref_sized_k124 a 0
def wandererref_sized : Nat → List GStmt → Int → Option (Int × Bool)
  | 0 => fun _ _ => none
  | N + 1 => wandererref_sized_r (wandererref_sized N)
theorem wandererref_sized_c : ∀ (N : Nat) (w0 : World) (M : BS) (hM : ∀ b, M b → b < w0.heap.size) (va : Value) (a : List GStmt) (ha : Rd2 rStmt w0 BE M va a) (b : Int) (r : Int × Bool) (hs : wandererref_sized N a b = some r),
    Calls Tryz.prog 128 #[va, (.int .i64 (b))] w0 (fun e w' => Grow w0 w' ∧ e = .returned (.tuple #[.int .i64 r.1, .bool r.2])) := by
  intro N
  induction N with
  | zero => intro w0 M hM va a ha b r hs; cases hs
  | succ N ih =>
  intro w0 M hM va a ha b r hs
  replace hs : wandererref_sized_r (wandererref_sized N) a b = some r := hs
  generalize wandererref_sized N = F0 at hs ih
  refine calls_start (args := [va, (.int .i64 (b))]) Tryz.func128 rfl Tryz.ntmps128 (Nat.le_of_ble_eq_true rfl) ?_
  have h := SH.init hM
  replace h := h.argSr 1 ha none_own
  have hl_a := ha.len_le
  refine wc_seq (wc_region (wl_ok (r_assign (v := (.int .i64 (0))) rfl) (wl_ok (r_assign (v := (.bool (false))) rfl) (wl_nil (then_normal (wc_seq (wc_seq (wc_region (wl_ok (r_move (v := (.int .i64 (b))) rfl) (wl_ok (r_lss rfl rfl) (wl_nil (then_normal (wc_ifb hs rfl (fun c1 hs => ?_) (fun c1 hs => ?_))))))))))))))
  ·
   refine wc_seq (wc_region (wl_ok (r_assign (v := (.int .i64 (0))) rfl) (wl_ok (r_assign (v := (.bool (false))) rfl) (wl_nil (then_normal (wc_ret (then_ret (fin2 (v1 := (.int .i64 (0))) (v2 := (.bool (false))) Tryz.results128 rfl rfl ?_))))))))
   obtain rfl := Option.some.inj hs
   exact ⟨h.grown, rfl⟩
  ·
   refine wc_skip (then_normal (wc_seq (wc_region (wl_ok (r_assign (v := (.int .i64 (0))) rfl) (wl_nil (then_normal (wc_seq (wc_seq (wc_region (wl_ok (r_move (v := va) rfl) (wl_ok (r_len SliceOf111 rfl (h.srS 1 rfl)) (wl_ok (r_move (v := (.int .i64 (0))) rfl) (wl_nil (then_normal (wc_block (wc_lp (σ := Nat × Int × Int) (inl [4, 5, 6, 8, 10, 11, 12, 17, 18, 19, 20, 21, 22, 23, 24, 25, 26, 27, 28, 29, 30, 31, 32, 33, 34, 35, 36, 37, 38, 39, 40, 41, 42, 43, 44, 45, 46, 47, 48, 49, 50, 51, 52, 53, 54, 55]) (fun ⟨k6, i7, x5⟩ => [(6, (.int .i64 (x5))), (17, (.int .i64 (i7)))]) (fun ⟨k6, i7, x5⟩ w => SH w0 M BE w (hset [(1, .sr rStmt va a)]) ∧ i7 = (k6 : Int) ∧ each (wandererref_sized_b123 F0 b a) wandererref_sized_k124 (a.drop k6) x5 = some r) (fun ⟨k6, i7, x5⟩ => a.length - k6) ⟨0, 0, 0⟩ ⟨rfl, rfl, trivial⟩ ?_ ?_))))))))))))))))
   ·
    exact ⟨h.cn _, rfl, hs⟩
   ·
    rintro ⟨k6, i7, x5⟩ w junk ⟨h, hik, hs⟩
    refine wc_seq (wc_region ?_)
    refine wl_ok (r_lss rfl rfl) (wl_nil (then_normal ?_))
    refine wc_seq (wc_if rfl (fun e11 => ?_) (fun e11 => ?_))
    ·
     refine wc_skip (then_normal ?_)
     obtain ⟨x8, e12a, e12b⟩ := drop_lt (hik ▸ e11)
     rw [e12b, each_cons] at hs
     generalize hnx10 : each (wandererref_sized_b123 F0 b a) wandererref_sized_k124 (a.drop (k6 + 1)) = nx10 at hs
     have e12r := nat_rng ((h.srS 1 rfl)).len_le hik e11
     refine wc_seq (wc_block (wc_seq (wc_region ?_)))
     obtain ⟨b14, o15, cs16, h, r17, i13⟩ := h.ixS 1 2 rfl SliceOf111 rfl (nat_nn hik) (get_nat hik e12a)
     obtain ⟨u18, u20, u22, u24, rfl, g19, g21, g23, g25⟩ := rStmt_open r17
     replace h := h.knowRd 3 g19.up
     replace h := h.knowRd 4 g21.up.up
     replace h := h.knowRd 5 g23.up.up.up
     replace h := h.knowRd 6 g25.up.up.up.up
     refine wl_ok (i13 _ _ _ _ _ _ _ _ _ rfl rfl) (wl_ok (r_ldPN (k := 0) (vs := [(.int .i64 (x8.kind)), (.int .i64 (x8.n)), u18, u20, u22, u24]) h 2 rfl Many147 rfl rfl rfl (Nat.le_of_ble_eq_true rfl)) (w_allocN h 7 Many147 fun w b26 h => w_stN (vs := [(.int .i64 (x8.kind)), (.int .i64 (x8.n)), u18, u20, u22, u24]) h 7 [(.int .i64 (x8.kind)), (.int .i64 (x8.n)), u18, u20, u22, u24] rfl Many147 rfl rfl rfl rfl rfl (ones_cons rfl (ones_cons rfl (ones_cons (h.rdAt 3 rfl).one (ones_cons (h.rdAt 4 rfl).one (ones_cons (h.rdAt 5 rfl).one (ones_cons (h.rdAt 6 rfl).one ones_nil)))))) fun w h => wl_nil (then_normal (wc_seq (wc_region (wl_ok (r_move (v := (.int .i64 (x5))) rfl) ?_))))))
     obtain ⟨a27, hs⟩ := o_grd hs
     refine wl_ok (r_add rfl rfl a27) (wl_ok (r_assign (v := (.int .i64 ((x5 + 1)))) rfl) (wl_nil (then_normal (wc_seq (wc_seq (wc_region (wl_ok (r_fieldAddr Fld147x4 rfl) (wl_ok (r_ldB h 7 rfl One111 rfl rfl) (wl_ok (r_fieldAddr Fld147x5 rfl) (wl_ok (r_ldB h 7 rfl One111 rfl rfl) (w_bs (R := (rSl rStmt)) (vs := [u22, u24]) (xs := [x8.a, x8.b]) h 8 ElemOf204 rfl rfl rfl ⟨(h.rdAt 5 rfl).rdc, ⟨(h.rdAt 6 rfl).rdc, trivial⟩⟩ rfl fun w u28 h => wl_ok (r_len SliceOf204 rfl (h.ownS 8 rfl)) (wl_ok (r_move (v := (.int .i64 (0))) rfl) (wl_nil (then_normal (wc_block ?_)))))))))))))))
     replace h := h.freeze 8 rfl
     refine wc_lp (σ := Nat × Int × Int) (inl [4, 5, 6, 10, 11, 12, 29, 30, 31, 32, 33, 34, 35, 36, 37, 38, 39, 40, 41, 42, 43, 44, 45, 46, 47, 48, 49, 50, 51, 52]) (fun ⟨k33, i34, x32⟩ => [(6, (.int .i64 (x32))), (29, (.int .i64 (i34)))]) (fun ⟨k33, i34, x32⟩ w => SH w0 M BE w (hset [(1, .sr rStmt va a), (8, .rd (rSl rStmt) u28 [x8.a, x8.b])]) ∧ i34 = (k33 : Int) ∧ each (wandererref_sized_b121 F0 b) (wandererref_sized_k122 nx10) ([x8.a, x8.b].drop k33) x32 = some r) (fun ⟨k33, i34, x32⟩ => [x8.a, x8.b].length - k33) ⟨0, 0, (x5 + 1)⟩ ⟨rfl, rfl, trivial⟩ ?_ ?_
     ·
      exact ⟨h.cn _, rfl, hs⟩
     ·
      rintro ⟨k33, i34, x32⟩ w junk ⟨h, hik, hs⟩
      refine wc_seq (wc_region ?_)
      refine wl_ok (r_lss rfl rfl) (wl_nil (then_normal ?_))
      refine wc_seq (wc_if rfl (fun e38 => ?_) (fun e38 => ?_))
      ·
       refine wc_skip (then_normal ?_)
       obtain ⟨x35, e39a, e39b⟩ := drop_lt (hik ▸ e38)
       rw [e39b, each_cons] at hs
       generalize hnx37 : each (wandererref_sized_b121 F0 b) (wandererref_sized_k122 nx10) ([x8.a, x8.b].drop (k33 + 1)) = nx37 at hs
       have e39r := nat_rng ((h.rdS 8 rfl)).len_le hik e38
       refine wc_join (σ := Int) (inl [4, 5, 6, 10, 11, 12, 31, 32, 33, 34, 35, 36, 37, 38, 39, 40, 41, 42, 43, 44, 45, 46, 47, 48, 49, 50, 51]) (fun x40 => [(6, (.int .i64 (x40)))]) (fun x40 w => SH w0 M BE w (hset [(1, .sr rStmt va a), (8, .rd (rSl rStmt) u28 [x8.a, x8.b])]) ∧ wandererref_sized_j120 nx37 x40 = some r) ?_ ?_
       ·
        rintro x40 w junk ⟨h, hs⟩
        refine wc_region (wl_ok (r_add rfl rfl e39r) (wl_ok (r_move (v := (.int .i64 ((i34 + 1)))) rfl) (wl_nil (then_loop ?_))))
        subst hnx37
        exact lend ⟨k33 + 1, i34 + 1, x40⟩ ⟨h.cn _, by omega, hs⟩ (by have := of_decide_eq_true e38; dsimp only; omega)
       ·
        refine wc_block (wc_seq (wc_region ?_))
        obtain ⟨b42, o43, cs44, h, r45, i41⟩ := h.ixR 8 9 rfl SliceOf204 rfl (nat_nn hik) (get_nat hik e39a)
        obtain ⟨u46, rfl, g47⟩ := r45
        replace h := h.knowRd 10 g47.up
        refine wl_ok (i41 _ _ _ _ _ _ _ _ _ rfl rfl) (wl_ok (r_ldP (k := 0) h 9 rfl One111 rfl rfl) (wl_ok (r_assign (v := u46) rfl) (wl_nil (then_normal (wc_seq (wc_region (wl_ok (r_move (v := u46) rfl) (wl_ok (r_len SliceOf111 rfl (h.rdS 10 rfl)) (wl_ok (r_gtr rfl rfl) (wl_nil (then_normal (wc_ifb hs rfl (fun c48 hs => ?_) (fun c48 hs => ?_)))))))))))))
        ·
         refine wc_seq (wc_region (wl_ok (r_move (v := u46) rfl) (wl_ok (r_move (v := (.int .i64 (b))) rfl) ?_)))
         obtain ⟨a49, hs⟩ := o_grd hs
         refine wl_ok (r_sub rfl rfl a49) ?_
         obtain ⟨y50, e51, hs⟩ := o_bind hs
         refine w_call fnOk128 rfl rfl (ih _ _ h.lt u46 x35 (h.rdS 10 rfl) (b - 1) _ e51) ?_
         rintro _ w ⟨k52, rfl⟩
         refine ⟨_, rfl, ?_⟩
         replace h := h.grow k52
         refine wl_ok (r_move (v := (.tuple #[(.int .i64 (y50.1)), (.bool (y50.2))])) rfl) (wl_ok (r_extract rfl rfl) (wl_ok (r_extract rfl rfl) (wl_ok (r_assign (v := (.int .i64 (y50.1))) rfl) (wl_ok (r_assign (v := (.bool (y50.2))) rfl) (wl_nil (then_normal (wc_seq (wc_region (wl_ok (r_move (v := (.int .i64 (x32))) rfl) (wl_ok (r_move (v := (.int .i64 (y50.1))) rfl) ?_))))))))))
         obtain ⟨a53, hs⟩ := o_grd hs
         refine wl_ok (r_add rfl rfl a53) (wl_ok (r_assign (v := (.int .i64 ((x32 + y50.1)))) rfl) (wl_nil (then_normal (wc_seq (wc_region (wl_ok (r_move (v := (.bool (y50.2))) rfl) (wl_ok (r_notb rfl) (wl_ok (r_move (v := (.bool ((!y50.2)))) rfl) (wl_gd0 rfl rfl (fun q => r_move (v := (.int .i64 ((x32 + y50.1)))) rfl) (wl_gd0 rfl rfl (fun q => r_gtr (gvt q) rfl) (wl_ok (r_por rfl rfl evc) (wl_nil (then_normal (wc_ifb hs rfl (fun c54 hs => ?_) (fun c54 hs => ?_)))))))))))))))
         ·
          refine wc_seq (wc_region (wl_ok (r_assign (v := (.int .i64 (0))) rfl) (wl_ok (r_assign (v := (.bool (false))) rfl) (wl_nil (then_normal (wc_ret (inBlock_ret (then_ret (then_ret (inBlock_ret (then_ret (inBlock_ret (then_ret (then_ret (inBlock_ret (then_ret (fin2 (v1 := (.int .i64 (0))) (v2 := (.bool (false))) Tryz.results128 rfl rfl ?_)))))))))))))))))
          obtain rfl := Option.some.inj hs
          exact ⟨h.grown, rfl⟩
         ·
          refine wc_skip (inBlock_normal (then_loop ?_))
          exact jend (x32 + y50.1) ⟨h.cn _, hs⟩
        ·
         refine wc_skip (inBlock_normal (then_loop ?_))
         exact jend x32 ⟨h.cn _, hs⟩
      ·
       rw [drop_ge (hik ▸ e38), each_nil] at hs
       refine wc_exit (then_exit (then_exit (inBlock_eq (then_normal (wc_seq (wc_region (wl_ok (r_move (v := (.int .i64 (x32))) rfl) (wl_ok (r_gtr rfl rfl) (wl_nil (then_normal (wc_ifb hs rfl (fun c55 hs => ?_) (fun c55 hs => ?_))))))))))))
       ·
        refine wc_seq (wc_region (wl_ok (r_assign (v := (.int .i64 (0))) rfl) (wl_ok (r_assign (v := (.bool (false))) rfl) (wl_nil (then_normal (wc_ret (inBlock_ret (then_ret (then_ret (inBlock_ret (then_ret (fin2 (v1 := (.int .i64 (0))) (v2 := (.bool (false))) Tryz.results128 rfl rfl ?_))))))))))))
        obtain rfl := Option.some.inj hs
        exact ⟨h.grown, rfl⟩
       ·
        refine wc_skip (inBlock_normal (then_normal (wc_region (wl_ok (r_add rfl rfl e12r) (wl_ok (r_move (v := (.int .i64 ((i7 + 1)))) rfl) (wl_nil (then_loop ?_)))))))
        subst hnx10
        exact lend ⟨k6 + 1, i7 + 1, x32⟩ ⟨h.cn _, by omega, hs⟩ (by have := of_decide_eq_true e11; dsimp only; omega)
    ·
     rw [drop_ge (hik ▸ e11), each_nil] at hs
     refine wc_exit (then_exit (then_exit (inBlock_eq (then_normal (wc_seq (wc_region (wl_ok (r_move (v := (.int .i64 (x5))) rfl) (wl_ok (r_assign (v := (.int .i64 (x5))) rfl) (wl_ok (r_assign (v := (.bool (true))) rfl) (wl_nil (then_normal (wc_ret (fin2 (v1 := (.int .i64 (x5))) (v2 := (.bool (true))) Tryz.results128 rfl rfl ?_)))))))))))))
     obtain rfl := Option.some.inj hs
     exact ⟨h.grown, rfl⟩
theorem strings_Contains_c (w0 : World) (M : BS) (hM : ∀ b, M b → b < w0.heap.size) (a : Str) (b : UInt8) (r : Bool) (hs : hasB a b = r) :
    Calls Tryz.prog 145 #[(strV a), (strV [b])] w0 (fun e w' => Grow w0 w' ∧ e = .returned (.bool r)) := by
  refine (Tryz.strings_Contains_one ⟨a.toArray⟩ b w0).mono ?_
  rintro e w' ⟨rfl, rfl⟩
  subst hs
  exact ⟨Keep.refl _ _, by simp [hasB]⟩
def wandererref_below (a : Int) (b : Int) : Bool :=
  (decide ((0 : Int) ≤ a) && decide ((a : Int) < b))
theorem wandererref_below_c (w0 : World) (M : BS) (hM : ∀ b, M b → b < w0.heap.size) (a : Int) (b : Int) (r : Bool) (hs : wandererref_below a b = r) :
    Calls Tryz.prog 55 #[(.int .i64 (a)), (.int .i64 (b))] w0 (fun e w' => Grow w0 w' ∧ e = .returned (.bool r)) := by
 refine calls_start (args := [(.int .i64 (a)), (.int .i64 (b))]) Tryz.func55 rfl Tryz.ntmps55 (Nat.le_of_ble_eq_true rfl) ?_
 have h := SH.init hM
 refine wc_seq (wc_region (wl_ok (r_assign (v := (.bool (false))) rfl) (wl_nil (then_normal (wc_seq (wc_region (wl_ok (r_move (v := (.int .i64 (a))) rfl) (wl_ok (r_geq rfl rfl) (wl_ok (r_move (v := (.bool (decide ((0 : Int) ≤ a)))) rfl) (wl_gd0 rfl rfl (fun q => r_move (v := (.int .i64 (a))) rfl) (wl_gd0 rfl rfl (fun q => r_move (v := (.int .i64 (b))) rfl) (wl_gd0 rfl rfl (fun q => r_lss (gvt q) (gvt q)) (wl_ok (r_pand rfl rfl evc) (wl_ok (r_assign (v := (.bool ((decide ((0 : Int) ≤ a) && decide ((a : Int) < b))))) rfl) (wl_nil (then_normal (wc_ret (fin1 (v := (.bool ((decide ((0 : Int) ≤ a) && decide ((a : Int) < b))))) Tryz.results55 rfl ?_))))))))))))))))))
 obtain rfl := hs
 exact ⟨h.grown, rfl⟩
def wandererref_fits (a : Int) : Bool :=
  (wandererref_in a (-1000000000) 1000000000)
theorem wandererref_fits_c (w0 : World) (M : BS) (hM : ∀ b, M b → b < w0.heap.size) (a : Int) (r : Bool) (hs : wandererref_fits a = r) :
    Calls Tryz.prog 53 #[(.int .i64 (a))] w0 (fun e w' => Grow w0 w' ∧ e = .returned (.bool r)) := by
 refine calls_start (args := [(.int .i64 (a))]) Tryz.func53 rfl Tryz.ntmps53 (Nat.le_of_ble_eq_true rfl) ?_
 have h := SH.init hM
 refine wc_seq (wc_region (wl_ok (r_assign (v := (.bool (false))) rfl) (wl_nil (then_normal (wc_seq (wc_region (wl_ok (r_move (v := (.int .i64 (a))) rfl) (w_call fnOk51 rfl rfl (wandererref_in_c _ _ h.lt a (-1000000000) 1000000000 _ rfl) ?_))))))))
 rintro _ w ⟨k1, rfl⟩
 refine ⟨_, rfl, ?_⟩
 replace h := h.grow k1
 refine wl_ok (r_assign (v := (.bool ((wandererref_in a (-1000000000) 1000000000)))) rfl) (wl_nil (then_normal (wc_ret (fin1 (v := (.bool ((wandererref_in a (-1000000000) 1000000000)))) Tryz.results53 rfl ?_))))
 obtain rfl := hs
 exact ⟨h.grown, rfl⟩
def wandererref_CheckTok_j1 (x2 : Bool) : Int :=
  bif (!x2) then 3 else 0
def wandererref_CheckTok (a : Tok) (b : List Fun) (c : Int) : Int :=
  bif decide ((a.kind : Int) = 1) then wandererref_CheckTok_j1 (wandererref_fits a.n) else bif decide ((a.kind : Int) = 2) then wandererref_CheckTok_j1 (wandererref_below a.n c) else bif decide ((a.kind : Int) = 3) then wandererref_CheckTok_j1 (wandererref_in a.n 1 5) else bif decide ((a.kind : Int) = 4) then wandererref_CheckTok_j1 (wandererref_in a.n 0 3) else bif decide ((a.kind : Int) = 5) then wandererref_CheckTok_j1 (wandererref_in a.n 1 4) else bif decide ((a.kind : Int) = 6) then bif (!(wandererref_below a.n (b.length : Int))) then 5 else wandererref_CheckTok_j1 true else 4
theorem wandererref_CheckTok_c (w0 : World) (M : BS) (hM : ∀ b, M b → b < w0.heap.size) (a : Tok) (vb : Value) (b : List Fun) (hb : Rd2 rFun w0 BE M vb b) (c : Int) (r : Int) (hs : wandererref_CheckTok a b c = r) :
    Calls Tryz.prog 107 #[(.agg #[(.int .i64 (a.kind)), (.int .i64 (a.n))]), vb, (.int .i64 (c))] w0 (fun e w' => Grow w0 w' ∧ e = .returned (.int .i64 r)) := by
 refine calls_start (args := [(.agg #[(.int .i64 (a.kind)), (.int .i64 (a.n))]), vb, (.int .i64 (c))]) Tryz.func107 rfl Tryz.ntmps107 (Nat.le_of_ble_eq_true rfl) ?_
 have h := SH.init hM
 replace h := h.argSr 1 hb none_own
 have hl_b := hb.len_le
 refine wc_seq (wc_region (w_box (cs := [(.int .i64 (a.kind)), (.int .i64 (a.n))]) h 2 rfl rfl fun w b1 h => wl_ok (r_assign (v := (.int .i64 (0))) rfl) (wl_nil (then_normal (wc_seq (wc_region (wl_ok (r_assign (v := (.bool (false))) rfl) (wl_nil (then_normal (wc_join (σ := Bool) (inl [6, 7, 8, 9, 10, 11, 12, 13, 14, 15, 16, 17, 18, 19, 20, 21, 22, 23, 24, 25, 26, 27, 28, 29, 30, 31, 32, 33, 34, 35, 36, 37, 38, 39, 40, 41, 42, 43]) (fun x2 => [(7, (.bool (x2)))]) (fun x2 w => SH w0 M BE w (hset []) ∧ wandererref_CheckTok_j1 x2 = r) ?_ ?_))))))))))
 ·
  rintro x2 w junk ⟨h, hs⟩
  refine wc_seq (wc_seq (wc_region (wl_ok (r_move (v := (.bool (x2))) rfl) (wl_ok (r_notb rfl) (wl_nil (then_normal (wc_ifb hs rfl (fun c3 hs => ?_) (fun c3 hs => ?_))))))))
  ·
   refine wc_seq (wc_region (wl_ok (r_assign (v := (.int .i64 (3))) rfl) (wl_nil (then_normal (wc_ret (then_ret (fin1 (v := (.int .i64 (3))) Tryz.results107 rfl ?_)))))))
   obtain rfl := hs
   exact ⟨h.grown, rfl⟩
  ·
   refine wc_skip (then_normal (wc_seq (wc_region (wl_ok (r_assign (v := (.int .i64 (0))) rfl) (wl_nil (then_normal (wc_ret (fin1 (v := (.int .i64 (0))) Tryz.results107 rfl ?_))))))))
   obtain rfl := hs
   exact ⟨h.grown, rfl⟩
 ·
  refine wc_seq (wc_region (wl_ok (r_fieldAddr Fld160x0 rfl) (wl_ok (r_ldB h 2 rfl One3 rfl rfl) (wl_nil (then_normal (wc_block (wc_seq (wc_region (wl_ok (r_eql rfl rfl) (wl_ok (r_assign (v := (.bool (decide ((a.kind : Int) = 1)))) rfl) (wl_nil (then_normal (wc_ifb hs rfl (fun c4 hs => ?_) (fun c4 hs => ?_))))))))))))))
  ·
   refine wc_region (wl_ok (r_fieldAddr Fld160x1 rfl) (wl_ok (r_ldB h 2 rfl One3 rfl rfl) (w_call fnOk53 rfl rfl (wandererref_fits_c _ _ h.lt a.n _ rfl) ?_)))
   rintro _ w ⟨k5, rfl⟩
   refine ⟨_, rfl, ?_⟩
   replace h := h.grow k5
   refine wl_ok (r_assign (v := (.bool ((wandererref_fits a.n)))) rfl) (wl_nil (inBlock_normal (then_loop ?_)))
   exact jend (wandererref_fits a.n) ⟨h.cn _, hs⟩
  ·
   refine wc_seq (wc_region (wl_ok (r_eql rfl rfl) (wl_ok (r_assign (v := (.bool (decide ((a.kind : Int) = 2)))) rfl) (wl_nil (then_normal (wc_ifb hs rfl (fun c6 hs => ?_) (fun c6 hs => ?_)))))))
   ·
    refine wc_region (wl_ok (r_fieldAddr Fld160x1 rfl) (wl_ok (r_ldB h 2 rfl One3 rfl rfl) (wl_ok (r_move (v := (.int .i64 (c))) rfl) (w_call fnOk55 rfl rfl (wandererref_below_c _ _ h.lt a.n c _ rfl) ?_))))
    rintro _ w ⟨k7, rfl⟩
    refine ⟨_, rfl, ?_⟩
    replace h := h.grow k7
    refine wl_ok (r_assign (v := (.bool ((wandererref_below a.n c)))) rfl) (wl_nil (inBlock_normal (then_loop ?_)))
    exact jend (wandererref_below a.n c) ⟨h.cn _, hs⟩
   ·
    refine wc_seq (wc_region (wl_ok (r_eql rfl rfl) (wl_ok (r_assign (v := (.bool (decide ((a.kind : Int) = 3)))) rfl) (wl_nil (then_normal (wc_ifb hs rfl (fun c8 hs => ?_) (fun c8 hs => ?_)))))))
    ·
     refine wc_region (wl_ok (r_fieldAddr Fld160x1 rfl) (wl_ok (r_ldB h 2 rfl One3 rfl rfl) (w_call fnOk51 rfl rfl (wandererref_in_c _ _ h.lt a.n 1 5 _ rfl) ?_)))
     rintro _ w ⟨k9, rfl⟩
     refine ⟨_, rfl, ?_⟩
     replace h := h.grow k9
     refine wl_ok (r_assign (v := (.bool ((wandererref_in a.n 1 5)))) rfl) (wl_nil (inBlock_normal (then_loop ?_)))
     exact jend (wandererref_in a.n 1 5) ⟨h.cn _, hs⟩
    ·
     refine wc_seq (wc_region (wl_ok (r_eql rfl rfl) (wl_ok (r_assign (v := (.bool (decide ((a.kind : Int) = 4)))) rfl) (wl_nil (then_normal (wc_ifb hs rfl (fun c10 hs => ?_) (fun c10 hs => ?_)))))))
     ·
      refine wc_region (wl_ok (r_fieldAddr Fld160x1 rfl) (wl_ok (r_ldB h 2 rfl One3 rfl rfl) (w_call fnOk51 rfl rfl (wandererref_in_c _ _ h.lt a.n 0 3 _ rfl) ?_)))
      rintro _ w ⟨k11, rfl⟩
      refine ⟨_, rfl, ?_⟩
      replace h := h.grow k11
      refine wl_ok (r_assign (v := (.bool ((wandererref_in a.n 0 3)))) rfl) (wl_nil (inBlock_normal (then_loop ?_)))
      exact jend (wandererref_in a.n 0 3) ⟨h.cn _, hs⟩
     ·
      refine wc_seq (wc_region (wl_ok (r_eql rfl rfl) (wl_ok (r_assign (v := (.bool (decide ((a.kind : Int) = 5)))) rfl) (wl_nil (then_normal (wc_ifb hs rfl (fun c12 hs => ?_) (fun c12 hs => ?_)))))))
      ·
       refine wc_region (wl_ok (r_fieldAddr Fld160x1 rfl) (wl_ok (r_ldB h 2 rfl One3 rfl rfl) (w_call fnOk51 rfl rfl (wandererref_in_c _ _ h.lt a.n 1 4 _ rfl) ?_)))
       rintro _ w ⟨k13, rfl⟩
       refine ⟨_, rfl, ?_⟩
       replace h := h.grow k13
       refine wl_ok (r_assign (v := (.bool ((wandererref_in a.n 1 4)))) rfl) (wl_nil (inBlock_normal (then_loop ?_)))
       exact jend (wandererref_in a.n 1 4) ⟨h.cn _, hs⟩
      ·
       refine wc_seq (wc_region (wl_ok (r_eql rfl rfl) (wl_ok (r_assign (v := (.bool (decide ((a.kind : Int) = 6)))) rfl) (wl_nil (then_normal (wc_ifb hs rfl (fun c14 hs => ?_) (fun c14 hs => ?_)))))))
       ·
        refine wc_seq (wc_seq (wc_region (wl_ok (r_fieldAddr Fld160x1 rfl) (wl_ok (r_ldB h 2 rfl One3 rfl rfl) (wl_ok (r_move (v := vb) rfl) (wl_ok (r_len SliceOf67 rfl (h.srS 1 rfl)) (w_call fnOk55 rfl rfl (wandererref_below_c _ _ h.lt a.n (b.length : Int) _ rfl) ?_)))))))
        rintro _ w ⟨k15, rfl⟩
        refine ⟨_, rfl, ?_⟩
        replace h := h.grow k15
        refine wl_ok (r_notb rfl) (wl_nil (then_normal (wc_ifb hs rfl (fun c16 hs => ?_) (fun c16 hs => ?_))))
        ·
         refine wc_seq (wc_region (wl_ok (r_assign (v := (.int .i64 (5))) rfl) (wl_nil (then_normal (wc_ret (then_ret (inBlock_ret (then_ret (fin1 (v := (.int .i64 (5))) Tryz.results107 rfl ?_)))))))))
         obtain rfl := hs
         exact ⟨h.grown, rfl⟩
        ·
         refine wc_skip (then_normal (wc_region (wl_ok (r_assign (v := (.bool (true))) rfl) (wl_nil (inBlock_normal (then_loop ?_))))))
         exact jend true ⟨h.cn _, hs⟩
       ·
        refine wc_seq (wc_region (wl_ok (r_assign (v := (.int .i64 (4))) rfl) (wl_nil (then_normal (wc_ret (inBlock_ret (then_ret (fin1 (v := (.int .i64 (4))) Tryz.results107 rfl ?_))))))))
        obtain rfl := hs
        exact ⟨h.grown, rfl⟩
def wandererref_asks (a : Tok) (b : List Fun) : Option Int :=
  bif decide ((a.kind : Int) = 3) then some 2 else bif decide ((a.kind : Int) = 4) then some 1 else bif decide ((a.kind : Int) = 6) then (idx b a.n).bind fun x5 => some x5.params else some 0
theorem wandererref_asks_c (w0 : World) (M : BS) (hM : ∀ b, M b → b < w0.heap.size) (a : Tok) (vb : Value) (b : List Fun) (hb : Rd2 rFun w0 BE M vb b) (r : Int) (hs : wandererref_asks a b = some r) :
    Calls Tryz.prog 108 #[(.agg #[(.int .i64 (a.kind)), (.int .i64 (a.n))]), vb] w0 (fun e w' => Grow w0 w' ∧ e = .returned (.int .i64 r)) := by
 refine calls_start (args := [(.agg #[(.int .i64 (a.kind)), (.int .i64 (a.n))]), vb]) Tryz.func108 rfl Tryz.ntmps108 (Nat.le_of_ble_eq_true rfl) ?_
 have h := SH.init hM
 replace h := h.argSr 1 hb none_own
 have hl_b := hb.len_le
 refine wc_seq (wc_region (w_box (cs := [(.int .i64 (a.kind)), (.int .i64 (a.n))]) h 2 rfl rfl fun w b1 h => wl_ok (r_assign (v := (.int .i64 (0))) rfl) (wl_nil (then_normal (wc_seq (wc_seq (wc_region (wl_ok (r_fieldAddr Fld160x0 rfl) (wl_ok (r_ldB h 2 rfl One3 rfl rfl) (wl_nil (then_normal (wc_block (wc_seq (wc_region (wl_ok (r_eql rfl rfl) (wl_ok (r_assign (v := (.bool (decide ((a.kind : Int) = 3)))) rfl) (wl_nil (then_normal (wc_ifb hs rfl (fun c2 hs => ?_) (fun c2 hs => ?_))))))))))))))))))))
 ·
  refine wc_seq (wc_region (wl_ok (r_assign (v := (.int .i64 (2))) rfl) (wl_nil (then_normal (wc_ret (inBlock_ret (then_ret (fin1 (v := (.int .i64 (2))) Tryz.results108 rfl ?_))))))))
  obtain rfl := Option.some.inj hs
  exact ⟨h.grown, rfl⟩
 ·
  refine wc_seq (wc_region (wl_ok (r_eql rfl rfl) (wl_ok (r_assign (v := (.bool (decide ((a.kind : Int) = 4)))) rfl) (wl_nil (then_normal (wc_ifb hs rfl (fun c3 hs => ?_) (fun c3 hs => ?_)))))))
  ·
   refine wc_seq (wc_region (wl_ok (r_assign (v := (.int .i64 (1))) rfl) (wl_nil (then_normal (wc_ret (inBlock_ret (then_ret (fin1 (v := (.int .i64 (1))) Tryz.results108 rfl ?_))))))))
   obtain rfl := Option.some.inj hs
   exact ⟨h.grown, rfl⟩
  ·
   refine wc_seq (wc_region (wl_ok (r_eql rfl rfl) (wl_ok (r_assign (v := (.bool (decide ((a.kind : Int) = 6)))) rfl) (wl_nil (then_normal (wc_ifb hs rfl (fun c4 hs => ?_) (fun c4 hs => ?_)))))))
   ·
    refine wc_seq (wc_region (wl_ok (r_move (v := vb) rfl) (wl_ok (r_fieldAddr Fld160x1 rfl) (wl_ok (r_ldB h 2 rfl One3 rfl rfl) ?_))))
    obtain ⟨x5, e6, hs⟩ := o_bind hs
    obtain ⟨b8, o9, cs10, h, r11, i7⟩ := h.ixS 1 3 rfl SliceOf67 rfl (o_idx e6).1 (o_idx e6).2
    obtain ⟨u12, rfl, g13⟩ := rFun_open r11
    replace h := h.knowRd 4 g13.up
    refine wl_ok (i7 _ _ _ _ _ _ _ _ _ rfl rfl) (wl_ok (r_fieldAddr Fld113x0 rfl) (wl_ok (r_ldP (k := 0) h 3 rfl One3 rfl rfl) (wl_ok (r_assign (v := (.int .i64 (x5.params))) rfl) (wl_nil (then_normal (wc_ret (inBlock_ret (then_ret (fin1 (v := (.int .i64 (x5.params))) Tryz.results108 rfl ?_)))))))))
    obtain rfl := Option.some.inj hs
    exact ⟨h.grown, rfl⟩
   ·
    refine wc_skip (inBlock_normal (then_normal (wc_seq (wc_region (wl_ok (r_assign (v := (.int .i64 (0))) rfl) (wl_nil (then_normal (wc_ret (fin1 (v := (.int .i64 (0))) Tryz.results108 rfl ?_)))))))))
    obtain rfl := Option.some.inj hs
    exact ⟨h.grown, rfl⟩
def slices_Max_int_b2 (a : List Int) (s : Int × Int) (nx21 : Int × Int → Option Int) : Option Int :=
  match s with | (x15, x16) => bif decide ((x16 : Int) < (a.length : Int)) then (idx a x16).bind fun x25 => grd (I64 (x16 + 1)) (nx21 ((max x15 x25), (x16 + 1))) else some x15
def slices_Max_int (N : Nat) (a : List Int) : Option Int :=
  bif decide (((a.length : Int) : Int) < 1) then none else (idx a 0).bind fun x2 => again (slices_Max_int_b2 a) N (x2, 1)
theorem slices_Max_int_c (N : Nat) (w0 : World) (M : BS) (hM : ∀ b, M b → b < w0.heap.size) (va : Value) (a : List Int) (ha : Rd2 rInt w0 BE M va a) (r : Int) (hs : slices_Max_int N a = some r) :
    Calls Tryz.prog 164 #[va] w0 (fun e w' => Grow w0 w' ∧ e = .returned (.int .i64 r)) := by
 refine calls_start (args := [va]) Tryz.func164 rfl Tryz.ntmps164 (Nat.le_of_ble_eq_true rfl) ?_
 have h := SH.init hM
 replace h := h.argSr 1 ha none_own
 have hl_a := ha.len_le
 refine wc_seq (wc_region (wl_ok (r_assign (v := (.int .i64 (0))) rfl) (wl_nil (then_normal (wc_seq (wc_seq (wc_region (wl_ok (r_move (v := va) rfl) (wl_ok (r_len SliceOf27 rfl (h.srS 1 rfl)) (wl_ok (r_lss rfl rfl) (wl_nil (then_normal (wc_ifb hs rfl (fun c1 hs => ?_) (fun c1 hs => ?_))))))))))))))
 ·
  cases hs
 ·
  refine wc_skip (then_normal (wc_seq (wc_region (wl_ok (r_move (v := va) rfl) ?_))))
  obtain ⟨x2, e3, hs⟩ := o_bind hs
  obtain ⟨b5, o6, cs7, h, r8, i4⟩ := h.ixS 1 2 rfl SliceOf27 rfl (o_idx e3).1 (o_idx e3).2
  obtain rfl := r8
  refine wl_ok (i4 _ _ _ _ _ _ _ _ _ rfl rfl) (wl_ok (r_ldP (k := 0) h 2 rfl One3 rfl rfl) (wl_ok (r_assign (v := (.int .i64 (x2))) rfl) (wl_nil (then_normal (wc_seq (wc_seq (wc_region (wl_ok (r_assign (v := (.int .i64 (1))) rfl) (wl_nil (then_normal (wc_block (wc_lp (σ := Nat × Int × Int) (inl [3, 4, 12, 13, 14, 15, 16, 17, 18, 19, 20, 21, 22, 23]) (fun ⟨m20, x15, x16⟩ => [(3, (.int .i64 (x15))), (4, (.int .i64 (x16)))]) (fun ⟨m20, x15, x16⟩ w => SH w0 M BE w (hset [(1, .sr rInt va a)]) ∧ again (slices_Max_int_b2 a) m20 (x15, x16) = some r) (fun ⟨m20, x15, x16⟩ => m20) ⟨N, x2, 1⟩ ⟨rfl, rfl, trivial⟩ ?_ ?_))))))))))))
  ·
   exact ⟨h.cn _, hs⟩
  ·
   rintro ⟨m20, x15, x16⟩ w junk ⟨h, hs⟩
   obtain ⟨m201, m20e, m20h⟩ := again_pos hs
   subst m20e
   replace hs := m20h
   generalize hnx21 : again (slices_Max_int_b2 a) m201 = nx21 at hs
   refine wc_seq (wc_seq (wc_region (wl_ok (r_move (v := (.int .i64 (x16))) rfl) (wl_ok (r_move (v := va) rfl) (wl_ok (r_len SliceOf27 rfl (h.srS 1 rfl)) (wl_ok (r_lss rfl rfl) (wl_nil (then_normal (wc_ifb hs rfl (fun c24 hs => ?_) (fun c24 hs => ?_))))))))))
   ·
    refine wc_skip (then_normal (wc_seq (wc_block (wc_region (wl_ok (r_move (v := (.int .i64 (x15))) rfl) (wl_ok (r_move (v := va) rfl) (wl_ok (r_move (v := (.int .i64 (x16))) rfl) ?_)))))))
    obtain ⟨x25, e26, hs⟩ := o_bind hs
    obtain ⟨b28, o29, cs30, h, r31, i27⟩ := h.ixS 1 3 rfl SliceOf27 rfl (o_idx e26).1 (o_idx e26).2
    obtain rfl := r31
    refine wl_ok (i27 _ _ _ _ _ _ _ _ _ rfl rfl) (wl_ok (r_ldP (k := 0) h 3 rfl One3 rfl rfl) (wl_ok (r_max rfl rfl) (wl_ok (r_assign (v := (.int .i64 ((max x15 x25)))) rfl) (wl_nil (inBlock_normal (then_normal (wc_region (wl_ok (r_move (v := (.int .i64 (x16))) rfl) ?_))))))))
    obtain ⟨a32, hs⟩ := o_grd hs
    refine wl_ok (r_add rfl rfl a32) (wl_ok (r_assign (v := (.int .i64 ((x16 + 1)))) rfl) (wl_nil (then_loop ?_)))
    subst hnx21
    exact lend ⟨m201, (max x15 x25), (x16 + 1)⟩ ⟨h.cn _, hs⟩
   ·
    refine wc_exit (then_exit (then_exit (inBlock_eq (then_normal (wc_seq (wc_region (wl_ok (r_move (v := (.int .i64 (x15))) rfl) (wl_ok (r_assign (v := (.int .i64 (x15))) rfl) (wl_nil (then_normal (wc_ret (fin1 (v := (.int .i64 (x15))) Tryz.results164 rfl ?_))))))))))))
    obtain rfl := Option.some.inj hs
    exact ⟨h.grown, rfl⟩
def wandererref_CheckExpr_j131 (x29 : Tok) (b : List Fun) (nx31 : List Int → Option Int) (x66 : List Int) : Option Int :=
  (wandererref_asks x29 b).bind fun y67 => grd (Room 8 x66 [y67]) (nx31 (x66 ++ [y67]))
def wandererref_CheckExpr_j130 (x49 : List Int) (nx54 : List Int → Option Int) (i28 : Int) (x29 : Tok) (b : List Fun) (nx31 : List Int → Option Int) (x57 : Bool) : Option Int :=
  bif x57 then grd (I64 ((x49.length : Int) - 1)) ((sub? x49 0 ((x49.length : Int) - 1)).bind fun x60 => nx54 (x49.take (((x49.length : Int) - 1)).toNat)) else bif (decide ((0 : Int) < i28) && decide (((x49.length : Int) : Int) = 0)) then some 4 else bif decide ((0 : Int) < i28) then grd (I64 ((x49.length : Int) - 1)) ((idx x49 ((x49.length : Int) - 1)).bind fun x75 => grd (I64 (x75 - 1)) (wandererref_CheckExpr_j131 x29 b nx31 (x49.set (((x49.length : Int) - 1)).toNat (x75 - 1)))) else wandererref_CheckExpr_j131 x29 b nx31 x49
def wandererref_CheckExpr_b132 (i28 : Int) (x29 : Tok) (b : List Fun) (nx31 : List Int → Option Int) (x49 : List Int) (nx54 : List Int → Option Int) : Option Int :=
  bif decide ((0 : Int) < (x49.length : Int)) then grd (I64 ((x49.length : Int) - 1)) ((idx x49 ((x49.length : Int) - 1)).bind fun x89 => wandererref_CheckExpr_j130 x49 nx54 i28 x29 b nx31 (decide ((x89 : Int) = 0))) else wandererref_CheckExpr_j130 x49 nx54 i28 x29 b nx31 false
def wandererref_CheckExpr_j134 (x97 : Bool) : Option Int :=
  bif x97 then some 4 else some 0
def wandererref_CheckExpr_b135 (N : Nat) (b : List Fun) (c : Int) (i28 : Int) (x29 : Tok) (x26 : List Int) (nx31 : List Int → Option Int) : Option Int :=
  bif decide (((wandererref_CheckTok x29 b c) : Int) ≠ 0) then some (wandererref_CheckTok x29 b c) else again (wandererref_CheckExpr_b132 i28 x29 b nx31) N x26
def wandererref_CheckExpr_k136 (N : Nat) (a : List Tok) (x26 : List Int) : Option Int :=
  bif decide (((a.length : Int) : Int) = 0) then wandererref_CheckExpr_j134 true else grd (Room 8 [0] x26) ((slices_Max_int N ([0] ++ x26)).bind fun y103 => wandererref_CheckExpr_j134 (decide ((0 : Int) < y103)))
def wandererref_CheckExpr_b137 (x4 : Fun) (s : Unit) (nx6 : Unit → Option Int) : Option Int :=
  bif (!(wandererref_in x4.params 0 3)) then some 3 else nx6 ()
def wandererref_CheckExpr_k138 (N : Nat) (b : List Fun) (c : Int) (a : List Tok) (s : Unit) : Option Int :=
  eachI (wandererref_CheckExpr_b135 N b c) (wandererref_CheckExpr_k136 N a) 0 a []
def wandererref_CheckExpr (N : Nat) (a : List Tok) (b : List Fun) (c : Int) : Option Int :=
  bif decide ((24 : Int) < (a.length : Int)) then some 2 else each wandererref_CheckExpr_b137 (wandererref_CheckExpr_k138 N b c a) b ()
theorem wandererref_CheckExpr_c (N : Nat) (w0 : World) (M : BS) (hM : ∀ b, M b → b < w0.heap.size) (va : Value) (a : List Tok) (ha : Rd2 rTok w0 BE M va a) (vb : Value) (b : List Fun) (hb : Rd2 rFun w0 BE M vb b) (c : Int) (r : Int) (hs : wandererref_CheckExpr N a b c = some r) :
    Calls Tryz.prog 146 #[va, vb, (.int .i64 (c))] w0 (fun e w' => Grow w0 w' ∧ e = .returned (.int .i64 r)) := by
 refine calls_start (args := [va, vb, (.int .i64 (c))]) Tryz.func146 rfl Tryz.ntmps146 (Nat.le_of_ble_eq_true rfl) ?_
 have h := SH.init hM
 replace h := h.argSr 1 ha none_own
 replace h := h.argSr 2 hb (hupd_own_sr none_own)
 have hl_a := ha.len_le
 have hl_b := hb.len_le
 refine wc_seq (wc_region (wl_ok (r_assign (v := (.int .i64 (0))) rfl) (wl_nil (then_normal (wc_seq (wc_seq (wc_region (wl_ok (r_move (v := va) rfl) (wl_ok (r_len SliceOf145 rfl (h.srS 1 rfl)) (wl_ok (r_gtr rfl rfl) (wl_nil (then_normal (wc_ifb hs rfl (fun c1 hs => ?_) (fun c1 hs => ?_))))))))))))))
 ·
  refine wc_seq (wc_region (wl_ok (r_assign (v := (.int .i64 (2))) rfl) (wl_nil (then_normal (wc_ret (then_ret (fin1 (v := (.int .i64 (2))) Tryz.results146 rfl ?_)))))))
  obtain rfl := Option.some.inj hs
  exact ⟨h.grown, rfl⟩
 ·
  refine wc_skip (then_normal (wc_seq (wc_seq (wc_region (wl_ok (r_move (v := vb) rfl) (wl_ok (r_len SliceOf67 rfl (h.srS 2 rfl)) (wl_ok (r_move (v := (.int .i64 (0))) rfl) (wl_nil (then_normal (wc_block (wc_lp (σ := Nat × Int) (inl [6, 8, 18, 19, 20, 21, 22, 23, 24, 25, 26]) (fun ⟨k2, i3⟩ => [(18, (.int .i64 (i3)))]) (fun ⟨k2, i3⟩ w => SH w0 M BE w (hset [(1, .sr rTok va a), (2, .sr rFun vb b)]) ∧ i3 = (k2 : Int) ∧ each wandererref_CheckExpr_b137 (wandererref_CheckExpr_k138 N b c a) (b.drop k2) () = some r) (fun ⟨k2, i3⟩ => b.length - k2) ⟨0, 0⟩ ⟨rfl, trivial⟩ ?_ ?_)))))))))))
  ·
   exact ⟨h.cn _, rfl, hs⟩
  ·
   rintro ⟨k2, i3⟩ w junk ⟨h, hik, hs⟩
   refine wc_seq (wc_region ?_)
   refine wl_ok (r_lss rfl rfl) (wl_nil (then_normal ?_))
   refine wc_seq (wc_if rfl (fun e7 => ?_) (fun e7 => ?_))
   ·
    refine wc_skip (then_normal ?_)
    obtain ⟨x4, e8a, e8b⟩ := drop_lt (hik ▸ e7)
    rw [e8b, each_cons] at hs
    generalize hnx6 : each wandererref_CheckExpr_b137 (wandererref_CheckExpr_k138 N b c a) (b.drop (k2 + 1)) = nx6 at hs
    have e8r := nat_rng ((h.srS 2 rfl)).len_le hik e7
    refine wc_seq (wc_block (wc_seq (wc_region ?_)))
    obtain ⟨b10, o11, cs12, h, r13, i9⟩ := h.ixS 2 3 rfl SliceOf67 rfl (nat_nn hik) (get_nat hik e8a)
    obtain ⟨u14, rfl, g15⟩ := rFun_open r13
    replace h := h.knowRd 4 g15.up
    refine wl_ok (i9 _ _ _ _ _ _ _ _ _ rfl rfl) (wl_ok (r_ldPN (k := 0) (vs := [(.int .i64 (x4.params)), (.int .i64 (x4.locals)), u14]) h 3 rfl Many113 rfl rfl rfl (Nat.le_of_ble_eq_true rfl)) (w_allocN h 5 Many113 fun w b16 h => w_stN (vs := [(.int .i64 (x4.params)), (.int .i64 (x4.locals)), u14]) h 5 [(.int .i64 (x4.params)), (.int .i64 (x4.locals)), u14] rfl Many113 rfl rfl rfl rfl rfl (ones_cons rfl (ones_cons rfl (ones_cons (h.rdAt 4 rfl).one ones_nil))) fun w h => wl_nil (then_normal (wc_seq (wc_region (wl_ok (r_fieldAddr Fld113x0 rfl) (wl_ok (r_ldB h 5 rfl One3 rfl rfl) (w_call fnOk51 rfl rfl (wandererref_in_c _ _ h.lt x4.params 0 3 _ rfl) ?_))))))))
    rintro _ w ⟨k17, rfl⟩
    refine ⟨_, rfl, ?_⟩
    replace h := h.grow k17
    refine wl_ok (r_notb rfl) (wl_nil (then_normal (wc_ifb hs rfl (fun c18 hs => ?_) (fun c18 hs => ?_))))
    ·
     refine wc_seq (wc_region (wl_ok (r_assign (v := (.int .i64 (3))) rfl) (wl_nil (then_normal (wc_ret (inBlock_ret (then_ret (then_ret (inBlock_ret (then_ret (fin1 (v := (.int .i64 (3))) Tryz.results146 rfl ?_)))))))))))
     obtain rfl := Option.some.inj hs
     exact ⟨h.grown, rfl⟩
    ·
     refine wc_skip (inBlock_normal (then_normal (wc_region (wl_ok (r_add rfl rfl e8r) (wl_ok (r_move (v := (.int .i64 ((i3 + 1)))) rfl) (wl_nil (then_loop ?_)))))))
     subst hnx6
     exact lend ⟨k2 + 1, i3 + 1⟩ ⟨h.cn _, by omega, hs⟩ (by have := of_decide_eq_true e7; dsimp only; omega)
   ·
    rw [drop_ge (hik ▸ e7), each_nil] at hs
    refine wc_exit (then_exit (then_exit (inBlock_eq (then_normal (wc_seq (wc_region (wl_ok (r_assign (v := (.slice none 0 0)) rfl) (wl_nil (then_normal (wc_seq (wc_seq (wc_region (wl_ok (r_move (v := va) rfl) (wl_ok (r_len SliceOf145 rfl (h.srS 1 rfl)) (wl_ok (r_move (v := (.int .i64 (0))) rfl) (wl_nil (then_normal (wc_block ?_))))))))))))))))))
    replace h := h.nilO (R := rInt) (E := 3) 9
    refine wc_lp (σ := Nat × Int × Value × List Int) (inl [6, 9, 10, 11, 12, 29, 30, 31, 32, 33, 34, 35, 36, 37, 38, 39, 40, 41, 42, 43, 44, 45, 46, 47, 48, 49, 50, 51, 52, 53, 54, 55, 56, 57, 58, 59, 60, 61, 62, 63, 64, 65, 66, 67, 68, 69, 70, 71, 72, 73, 74, 75, 76, 77, 78, 79, 80, 81]) (fun ⟨k27, i28, v25, x26⟩ => [(9, v25), (29, (.int .i64 (i28)))]) (fun ⟨k27, i28, v25, x26⟩ w => SH w0 M BE w (hset [(1, .sr rTok va a), (2, .sr rFun vb b), (9, .own rInt 3 v25 x26)]) ∧ i28 = (k27 : Int) ∧ eachI (wandererref_CheckExpr_b135 N b c) (wandererref_CheckExpr_k136 N a) i28 (a.drop k27) x26 = some r) (fun ⟨k27, i28, v25, x26⟩ => a.length - k27) ⟨0, 0, (.slice none 0 0), []⟩ ⟨rfl, rfl, trivial⟩ ?_ ?_
    ·
     exact ⟨h.cn _, rfl, hs⟩
    ·
     rintro ⟨k27, i28, v25, x26⟩ w junk ⟨h, hik, hs⟩
     refine wc_seq (wc_region ?_)
     refine wl_ok (r_lss rfl rfl) (wl_nil (then_normal ?_))
     refine wc_seq (wc_if rfl (fun e32 => ?_) (fun e32 => ?_))
     ·
      refine wc_skip (then_normal ?_)
      obtain ⟨x29, e33a, e33b⟩ := drop_lt (hik ▸ e32)
      rw [e33b, eachI_cons] at hs
      generalize hnx31 : eachI (wandererref_CheckExpr_b135 N b c) (wandererref_CheckExpr_k136 N a) (i28 + 1) (a.drop (k27 + 1)) = nx31 at hs
      have e33r := nat_rng ((h.srS 1 rfl)).len_le hik e32
      refine wc_seq (wc_block (wc_seq (wc_region (wl_ok (r_move (v := (.int .i64 (i28))) rfl) ?_))))
      obtain ⟨b35, o36, cs37, h, r38, i34⟩ := h.ixS 1 10 rfl SliceOf145 rfl (nat_nn hik) (get_nat hik e33a)
      obtain rfl := r38
      refine wl_ok (i34 _ _ _ _ _ _ _ _ _ rfl rfl) (wl_ok (r_ldPN (k := 0) (vs := [(.int .i64 (x29.kind)), (.int .i64 (x29.n))]) h 10 rfl Many160 rfl rfl rfl (Nat.le_of_ble_eq_true rfl)) (w_allocN h 11 Many160 fun w b39 h => wl_ok (r_assign (v := (.int .i64 (i28))) rfl) (w_stN (vs := [(.int .i64 (x29.kind)), (.int .i64 (x29.n))]) h 11 [(.int .i64 (x29.kind)), (.int .i64 (x29.n))] rfl Many160 rfl rfl rfl rfl rfl (ones_cons rfl (ones_cons rfl ones_nil)) fun w h => wl_nil (then_normal (wc_seq (wc_seq (wc_region (wl_ok (r_ldBN (vs := [(.int .i64 (x29.kind)), (.int .i64 (x29.n))]) h 11 rfl Many160 rfl rfl rfl) (wl_ok (r_move (v := vb) rfl) (wl_ok (r_move (v := (.int .i64 (c))) rfl) (w_call fnOk107 rfl rfl (wandererref_CheckTok_c _ _ h.lt x29 vb b (h.srS 2 rfl) c _ rfl) ?_)))))))))))
      rintro _ w ⟨k40, rfl⟩
      refine ⟨_, rfl, ?_⟩
      replace h := h.grow k40
      refine wl_ok (r_assign (v := (.int .i64 ((wandererref_CheckTok x29 b c)))) rfl) (wl_nil (then_normal (wc_seq (wc_region (wl_ok (r_move (v := (.int .i64 ((wandererref_CheckTok x29 b c)))) rfl) (wl_ok (r_neq rfl rfl) (wl_nil (then_normal (wc_ifb hs rfl (fun c41 hs => ?_) (fun c41 hs => ?_))))))))))
      ·
       refine wc_seq (wc_region (wl_ok (r_move (v := (.int .i64 ((wandererref_CheckTok x29 b c)))) rfl) (wl_ok (r_assign (v := (.int .i64 ((wandererref_CheckTok x29 b c)))) rfl) (wl_nil (then_normal (wc_ret (then_ret (inBlock_ret (then_ret (then_ret (inBlock_ret (then_ret (fin1 (v := (.int .i64 ((wandererref_CheckTok x29 b c)))) Tryz.results146 rfl ?_)))))))))))))
       obtain rfl := Option.some.inj hs
       exact ⟨h.grown, rfl⟩
      ·
       refine wc_skip (then_normal (wc_seq (wc_block (wc_lp (σ := Nat × Value × List Int) (inl [9, 41, 42, 43, 44, 45, 46, 47, 48, 49, 50, 51, 52, 53, 54, 55, 56, 57]) (fun ⟨m53, v48, x49⟩ => [(9, v48)]) (fun ⟨m53, v48, x49⟩ w => SH w0 M BE w (hset [(1, .sr rTok va a), (2, .sr rFun vb b), (9, .own rInt 3 v48 x49), (11, .blk b39 [(.int .i64 (x29.kind)), (.int .i64 (x29.n))])]) ∧ again (wandererref_CheckExpr_b132 i28 x29 b nx31) m53 x49 = some r) (fun ⟨m53, v48, x49⟩ => m53) ⟨N, v25, x26⟩ ⟨rfl, trivial⟩ ?_ ?_))))
       ·
        exact ⟨h.cn _, hs⟩
       ·
        rintro ⟨m53, v48, x49⟩ w junk ⟨h, hs⟩
        obtain ⟨m531, m53e, m53h⟩ := again_pos hs
        subst m53e
        replace hs := m53h
        generalize hnx54 : again (wandererref_CheckExpr_b132 i28 x29 b nx31) m531 = nx54 at hs
        refine wc_seq (wc_join (σ := Bool) (inl [41, 42, 43, 44, 45, 46, 47, 48, 49, 50, 51, 52]) (fun x57 => [(52, (.bool (x57)))]) (fun x57 w => SH w0 M BE w (hset [(1, .sr rTok va a), (2, .sr rFun vb b), (9, .own rInt 3 v48 x49), (11, .blk b39 [(.int .i64 (x29.kind)), (.int .i64 (x29.n))])]) ∧ wandererref_CheckExpr_j130 x49 nx54 i28 x29 b nx31 x57 = some r) ?_ ?_)
        ·
         rintro x57 w junk ⟨h, hs⟩
         refine wc_ifb hs rfl (fun c58 hs => ?_) (fun c58 hs => ?_)
         ·
          refine wc_skip (then_normal (wc_block (wc_region (wl_ok (r_move (v := v48) rfl) (wl_ok (r_move (v := v48) rfl) (wl_ok (r_len SliceOf27 rfl (h.ownS 9 rfl)) ?_))))))
          obtain ⟨a59, hs⟩ := o_grd hs
          refine wl_ok (r_sub rfl rfl a59) ?_
          obtain ⟨x60, e61, hs⟩ := o_bind hs
          obtain ⟨e64, e64a, e64b, e64c⟩ := o_sub e61
          obtain ⟨u62, h, i63⟩ := h.cutO 9 rfl SliceOf27 rfl e64b e64c
          refine wl_ok (i63 _ _ _ _ _ _ _ _ _ _ rfl (.inl ⟨rfl, rfl⟩) (.inr (congrArg some rfl))) (wl_ok (r_assign (v := u62) rfl) (wl_nil (inBlock_normal (then_loop ?_))))
          subst hnx54
          exact lend ⟨m531, u62, (x49.take (((x49.length : Int) - 1)).toNat)⟩ ⟨h.cn _, hs⟩
         ·
          refine wc_exit (then_exit (then_exit (inBlock_eq (then_normal (wc_seq (wc_seq (wc_region (wl_ok (r_move (v := (.int .i64 (i28))) rfl) (wl_ok (r_gtr rfl rfl) (wl_ok (r_move (v := (.bool (decide ((0 : Int) < i28)))) rfl) (wl_gd0 rfl rfl (fun q => r_move (v := v48) rfl) (wl_gd0 rfl rfl (fun q => r_len SliceOf27 (gvt q) (h.ownS 9 rfl)) (wl_gd0 rfl rfl (fun q => r_eql (gvt q) rfl) (wl_ok (r_pand rfl rfl evc) (wl_nil (then_normal (wc_ifb hs rfl (fun c65 hs => ?_) (fun c65 hs => ?_))))))))))))))))))
          ·
           refine wc_seq (wc_region (wl_ok (r_assign (v := (.int .i64 (4))) rfl) (wl_nil (then_normal (wc_ret (then_ret (inBlock_ret (then_ret (then_ret (inBlock_ret (then_ret (fin1 (v := (.int .i64 (4))) Tryz.results146 rfl ?_))))))))))))
           obtain rfl := Option.some.inj hs
           exact ⟨h.grown, rfl⟩
          ·
           refine wc_skip (then_normal (wc_join (σ := List Int) (inl [65, 66, 67, 68, 69, 70, 71, 72, 73, 74]) (fun x66 => []) (fun x66 w => SH w0 M BE w (hset [(1, .sr rTok va a), (2, .sr rFun vb b), (9, .own rInt 3 v48 x66), (11, .blk b39 [(.int .i64 (x29.kind)), (.int .i64 (x29.n))])]) ∧ wandererref_CheckExpr_j131 x29 b nx31 x66 = some r) ?_ ?_))
           ·
            rintro x66 w junk ⟨h, hs⟩
            refine wc_region (wl_ok (r_move (v := v48) rfl) (wl_ok (r_ldBN (vs := [(.int .i64 (x29.kind)), (.int .i64 (x29.n))]) h 11 rfl Many160 rfl rfl rfl) (wl_ok (r_move (v := vb) rfl) ?_)))
            obtain ⟨y67, e68, hs⟩ := o_bind hs
            refine w_call fnOk108 rfl rfl (wandererref_asks_c _ _ h.lt x29 vb b (h.srS 2 rfl) _ e68) ?_
            rintro _ w ⟨k69, rfl⟩
            refine ⟨_, rfl, ?_⟩
            replace h := h.grow k69
            refine w_bs (R := rInt) (vs := [(.int .i64 (y67))]) (xs := [y67]) h 13 ElemOf27 rfl rfl rfl ⟨rfl, trivial⟩ rfl fun w u70 h => ?_
            obtain ⟨a71, hs⟩ := o_grd hs
            refine w_app (R := rInt) (m := [y67]) h 9 rfl (h.ownS 13 rfl) ElemOf27 rfl rfl rfl a71.1 a71.2 fun w u72 h => wl_ok (r_assign (v := u72) rfl) (wl_nil (inBlock_normal (then_normal (wc_region (wl_ok (r_add rfl rfl e33r) (wl_ok (r_move (v := (.int .i64 ((i28 + 1)))) rfl) (wl_nil (then_loop ?_))))))))
            subst hnx31
            exact lend ⟨k27 + 1, i28 + 1, u72, (x66 ++ [y67])⟩ ⟨h.cn _, by omega, hs⟩ (by have := of_decide_eq_true e32; dsimp only; omega)
           ·
            refine wc_seq (wc_region (wl_ok (r_move (v := (.int .i64 (i28))) rfl) (wl_ok (r_gtr rfl rfl) (wl_nil (then_normal (wc_ifb hs rfl (fun c73 hs => ?_) (fun c73 hs => ?_)))))))
            ·
             refine wc_region (wl_ok (r_move (v := v48) rfl) (wl_ok (r_move (v := v48) rfl) (wl_ok (r_len SliceOf27 rfl (h.ownS 9 rfl)) ?_)))
             obtain ⟨a74, hs⟩ := o_grd hs
             refine wl_ok (r_sub rfl rfl a74) ?_
             obtain ⟨x75, e76, hs⟩ := o_bind hs
             obtain ⟨b78, q79, i77⟩ := h.ixO 9 rfl SliceOf27 rfl (o_idx e76).1 (o_idx e76).2
             refine wl_ok (i77 _ _ _ _ _ _ _ _ _ rfl rfl) ?_
             obtain ⟨cs80, m81, r82⟩ := h.elO 9 rfl q79 (o_idx e76).2
             obtain rfl := r82
             refine wl_ok (r_ldA (k := 0) m81 One3 rfl rfl) ?_
             obtain ⟨a83, hs⟩ := o_grd hs
             refine wl_ok (r_sub rfl rfl a83) ?_
             obtain ⟨b85, q86, i84⟩ := h.ixO 9 rfl SliceOf27 rfl (o_idx e76).1 (o_idx e76).2
             refine wl_ok (i84 _ _ _ _ _ _ _ _ _ rfl rfl) (w_stO (off := 0) (a' := (x75 - 1)) h 9 rfl q86 rfl (o_idx e76).2 One3 rfl rfl rfl rfl (fun cs hq => set1 rfl hq rfl rfl) fun w h => wl_nil (then_loop ?_))
             exact jend (x49.set (((x49.length : Int) - 1)).toNat (x75 - 1)) ⟨h.cn _, hs⟩
            ·
             refine wc_skip (then_loop ?_)
             exact jend x49 ⟨h.cn _, hs⟩
        ·
         refine wc_region (wl_ok (r_move (v := v48) rfl) (wl_ok (r_len SliceOf27 rfl (h.ownS 9 rfl)) (wl_ok (r_gtr rfl rfl) (wl_ok (r_move (v := (.bool (decide ((0 : Int) < (x49.length : Int))))) rfl) (c_split (b := decide ((0 : Int) < (x49.length : Int))) hs (fun c87 hs => ?_) (fun c87 hs => ?_))))))
         ·
          refine wl_on rfl (congrArg Value.bool c87) (wl_ok (r_move (v := v48) rfl) (wl_on rfl (congrArg Value.bool c87) (wl_ok (r_move (v := v48) rfl) (wl_on rfl (congrArg Value.bool c87) (wl_ok (r_len SliceOf27 rfl (h.ownS 9 rfl)) (wl_on rfl (congrArg Value.bool c87) ?_))))))
          obtain ⟨a88, hs⟩ := o_grd hs
          refine wl_ok (r_sub rfl rfl a88) (wl_on rfl (congrArg Value.bool c87) ?_)
          obtain ⟨x89, e90, hs⟩ := o_bind hs
          obtain ⟨b92, q93, i91⟩ := h.ixO 9 rfl SliceOf27 rfl (o_idx e90).1 (o_idx e90).2
          refine wl_ok (i91 _ _ _ _ _ _ _ _ _ rfl rfl) (wl_on rfl (congrArg Value.bool c87) ?_)
          obtain ⟨cs94, m95, r96⟩ := h.elO 9 rfl q93 (o_idx e90).2
          obtain rfl := r96
          refine wl_ok (r_ldA (k := 0) m95 One3 rfl rfl) (wl_on rfl (congrArg Value.bool c87) (wl_ok (r_eql rfl rfl) (wl_ok (r_pick (b := true) (v := (.bool (decide ((x89 : Int) = 0)))) (congrArg Value.bool c87) rfl) (wl_nil (then_loop ?_)))))
          exact jend (decide ((x89 : Int) = 0)) ⟨h.cn _, hs⟩
         ·
          refine wl_off (b' := false) rfl (congrArg Value.bool c87) rfl (wl_off (b' := false) rfl (congrArg Value.bool c87) rfl (wl_off (b' := false) rfl (congrArg Value.bool c87) rfl (wl_off (b' := false) rfl (congrArg Value.bool c87) rfl (wl_off (b' := false) rfl (congrArg Value.bool c87) rfl (wl_off (b' := false) rfl (congrArg Value.bool c87) rfl (wl_off (b' := false) rfl (congrArg Value.bool c87) rfl (wl_ok (r_pick (b := false) (v := (.bool (false))) (congrArg Value.bool c87) rfl) (wl_nil (then_loop ?_)))))))))
          exact jend false ⟨h.cn _, hs⟩
     ·
      rw [drop_ge (hik ▸ e32), eachI_nil] at hs
      refine wc_exit (then_exit (then_exit (inBlock_eq (then_normal (wc_seq (wc_join (σ := Bool) (inl [82, 83, 84, 85, 86, 87, 88, 89, 90, 91]) (fun x97 => [(91, (.bool (x97)))]) (fun x97 w => SH w0 M BE w (hset []) ∧ wandererref_CheckExpr_j134 x97 = some r) ?_ ?_))))))
      ·
       rintro x97 w junk ⟨h, hs⟩
       refine wc_ifb hs rfl (fun c98 hs => ?_) (fun c98 hs => ?_)
       ·
        refine wc_seq (wc_region (wl_ok (r_assign (v := (.int .i64 (4))) rfl) (wl_nil (then_normal (wc_ret (then_ret (fin1 (v := (.int .i64 (4))) Tryz.results146 rfl ?_)))))))
        obtain rfl := Option.some.inj hs
        exact ⟨h.grown, rfl⟩
       ·
        refine wc_skip (then_normal (wc_seq (wc_region (wl_ok (r_assign (v := (.int .i64 (0))) rfl) (wl_nil (then_normal (wc_ret (fin1 (v := (.int .i64 (0))) Tryz.results146 rfl ?_))))))))
        obtain rfl := Option.some.inj hs
        exact ⟨h.grown, rfl⟩
      ·
       refine wc_region (wl_ok (r_move (v := va) rfl) (wl_ok (r_len SliceOf145 rfl (h.srS 1 rfl)) (wl_ok (r_eql rfl rfl) (wl_ok (r_move (v := (.bool (decide (((a.length : Int) : Int) = 0)))) rfl) (c_split (b := decide (((a.length : Int) : Int) = 0)) hs (fun c99 hs => ?_) (fun c99 hs => ?_))))))
       ·
        refine wl_off (b' := true) rfl (congrArg Value.bool c99) rfl (wl_off (b' := true) rfl (congrArg Value.bool c99) rfl (wl_off (b' := true) rfl (congrArg Value.bool c99) rfl (wl_off (b' := true) rfl (congrArg Value.bool c99) rfl (wl_off (b' := true) rfl (congrArg Value.bool c99) rfl (wl_ok (r_pick (b := true) (v := (.bool (true))) (congrArg Value.bool c99) rfl) (wl_nil (then_loop ?_)))))))
        exact jend true ⟨h.cn _, hs⟩
       ·
        refine wl_on rfl (congrArg Value.bool c99) (w_bs (R := rInt) (vs := [(.int .i64 (0))]) (xs := [0]) h 14 ElemOf27 rfl rfl rfl ⟨rfl, trivial⟩ rfl fun w u100 h => wl_on rfl (congrArg Value.bool c99) (wl_ok (r_move (v := v25) rfl) (wl_on rfl (congrArg Value.bool c99) ?_)))
        obtain ⟨a101, hs⟩ := o_grd hs
        refine w_app (R := rInt) (m := x26) h 14 rfl (h.ownS 9 rfl) ElemOf27 rfl rfl rfl a101.1 a101.2 fun w u102 h => wl_on rfl (congrArg Value.bool c99) ?_
        obtain ⟨y103, e104, hs⟩ := o_bind hs
        refine w_call fnOk164 rfl rfl (slices_Max_int_c N _ _ h.lt u102 ([0] ++ x26) (h.ownS 14 rfl) _ e104) ?_
        rintro _ w ⟨k105, rfl⟩
        refine ⟨_, rfl, ?_⟩
        replace h := h.grow k105
        refine wl_on rfl (congrArg Value.bool c99) (wl_ok (r_gtr rfl rfl) (wl_ok (r_pick (b := false) (v := (.bool (decide ((0 : Int) < y103)))) (congrArg Value.bool c99) rfl) (wl_nil (then_loop ?_))))
        exact jend (decide ((0 : Int) < y103)) ⟨h.cn _, hs⟩
def wandererref_checkStmts_1_78 (z0_0 : Str) : Bool :=
  (hasB z0_0 78)
theorem wandererref_checkStmts_1_78_c (w0 : World) (M : BS) (hM : ∀ b, M b → b < w0.heap.size) (z0_0 : Str) (q0 : Nat) (hq0 : ∃ E, w0.heap[q0]? = some (.cells #[(strV z0_0)] E (0, 0))) (r : Bool) (hs : wandererref_checkStmts_1_78 z0_0 = r) :
    Calls Tryz.prog 144 #[(strV [78]), (.pointer (some ⟨q0, 0, none⟩))] w0 (fun e w' => Grow w0 w' ∧ e = .returned (.bool r)) := by
 refine calls_start (args := [(strV [78]), (.pointer (some ⟨q0, 0, none⟩))]) Tryz.func144 rfl Tryz.ntmps144 (Nat.le_of_ble_eq_true rfl) ?_
 have h := SH.init hM
 replace h := h.argPt 1 (cs := [(strV z0_0)]) hq0 none_own
 refine wc_seq (wc_region (wl_ok (r_assign (v := (.bool (false))) rfl) (wl_nil (then_normal (wc_seq (wc_region (wl_ok (r_ldP (k := 0) h 1 rfl One9 rfl rfl) (wl_ok (r_move (v := (strV [78])) rfl) (w_call fnOk145 rfl rfl (strings_Contains_c _ _ h.lt z0_0 78 _ rfl) ?_)))))))))
 rintro _ w ⟨k1, rfl⟩
 refine ⟨_, rfl, ?_⟩
 replace h := h.grow k1
 refine wl_ok (r_assign (v := (.bool ((hasB z0_0 78)))) rfl) (wl_nil (then_normal (wc_ret (fin1 (v := (.bool ((hasB z0_0 78)))) Tryz.results144 rfl ?_))))
 obtain rfl := hs
 exact ⟨h.grown, rfl⟩
def wandererref_checkStmts_1_69 (z0_0 : Str) : Bool :=
  (hasB z0_0 69)
theorem wandererref_checkStmts_1_69_c (w0 : World) (M : BS) (hM : ∀ b, M b → b < w0.heap.size) (z0_0 : Str) (q0 : Nat) (hq0 : ∃ E, w0.heap[q0]? = some (.cells #[(strV z0_0)] E (0, 0))) (r : Bool) (hs : wandererref_checkStmts_1_69 z0_0 = r) :
    Calls Tryz.prog 144 #[(strV [69]), (.pointer (some ⟨q0, 0, none⟩))] w0 (fun e w' => Grow w0 w' ∧ e = .returned (.bool r)) := by
 refine calls_start (args := [(strV [69]), (.pointer (some ⟨q0, 0, none⟩))]) Tryz.func144 rfl Tryz.ntmps144 (Nat.le_of_ble_eq_true rfl) ?_
 have h := SH.init hM
 replace h := h.argPt 1 (cs := [(strV z0_0)]) hq0 none_own
 refine wc_seq (wc_region (wl_ok (r_assign (v := (.bool (false))) rfl) (wl_nil (then_normal (wc_seq (wc_region (wl_ok (r_ldP (k := 0) h 1 rfl One9 rfl rfl) (wl_ok (r_move (v := (strV [69])) rfl) (w_call fnOk145 rfl rfl (strings_Contains_c _ _ h.lt z0_0 69 _ rfl) ?_)))))))))
 rintro _ w ⟨k1, rfl⟩
 refine ⟨_, rfl, ?_⟩
 replace h := h.grow k1
 refine wl_ok (r_assign (v := (.bool ((hasB z0_0 69)))) rfl) (wl_nil (then_normal (wc_ret (fin1 (v := (.bool ((hasB z0_0 69)))) Tryz.results144 rfl ?_))))
 obtain rfl := hs
 exact ⟨h.grown, rfl⟩
def wandererref_checkStmts_1_70 (z0_0 : Str) : Bool :=
  (hasB z0_0 70)
theorem wandererref_checkStmts_1_70_c (w0 : World) (M : BS) (hM : ∀ b, M b → b < w0.heap.size) (z0_0 : Str) (q0 : Nat) (hq0 : ∃ E, w0.heap[q0]? = some (.cells #[(strV z0_0)] E (0, 0))) (r : Bool) (hs : wandererref_checkStmts_1_70 z0_0 = r) :
    Calls Tryz.prog 144 #[(strV [70]), (.pointer (some ⟨q0, 0, none⟩))] w0 (fun e w' => Grow w0 w' ∧ e = .returned (.bool r)) := by
 refine calls_start (args := [(strV [70]), (.pointer (some ⟨q0, 0, none⟩))]) Tryz.func144 rfl Tryz.ntmps144 (Nat.le_of_ble_eq_true rfl) ?_
 have h := SH.init hM
 replace h := h.argPt 1 (cs := [(strV z0_0)]) hq0 none_own
 refine wc_seq (wc_region (wl_ok (r_assign (v := (.bool (false))) rfl) (wl_nil (then_normal (wc_seq (wc_region (wl_ok (r_ldP (k := 0) h 1 rfl One9 rfl rfl) (wl_ok (r_move (v := (strV [70])) rfl) (w_call fnOk145 rfl rfl (strings_Contains_c _ _ h.lt z0_0 70 _ rfl) ?_)))))))))
 rintro _ w ⟨k1, rfl⟩
 refine ⟨_, rfl, ?_⟩
 replace h := h.grow k1
 refine wl_ok (r_assign (v := (.bool ((hasB z0_0 70)))) rfl) (wl_nil (then_normal (wc_ret (fin1 (v := (.bool ((hasB z0_0 70)))) Tryz.results144 rfl ?_))))
 obtain rfl := hs
 exact ⟨h.grown, rfl⟩
def wandererref_checkStmts_1_65 (z0_0 : Str) : Bool :=
  (hasB z0_0 65)
theorem wandererref_checkStmts_1_65_c (w0 : World) (M : BS) (hM : ∀ b, M b → b < w0.heap.size) (z0_0 : Str) (q0 : Nat) (hq0 : ∃ E, w0.heap[q0]? = some (.cells #[(strV z0_0)] E (0, 0))) (r : Bool) (hs : wandererref_checkStmts_1_65 z0_0 = r) :
    Calls Tryz.prog 144 #[(strV [65]), (.pointer (some ⟨q0, 0, none⟩))] w0 (fun e w' => Grow w0 w' ∧ e = .returned (.bool r)) := by
 refine calls_start (args := [(strV [65]), (.pointer (some ⟨q0, 0, none⟩))]) Tryz.func144 rfl Tryz.ntmps144 (Nat.le_of_ble_eq_true rfl) ?_
 have h := SH.init hM
 replace h := h.argPt 1 (cs := [(strV z0_0)]) hq0 none_own
 refine wc_seq (wc_region (wl_ok (r_assign (v := (.bool (false))) rfl) (wl_nil (then_normal (wc_seq (wc_region (wl_ok (r_ldP (k := 0) h 1 rfl One9 rfl rfl) (wl_ok (r_move (v := (strV [65])) rfl) (w_call fnOk145 rfl rfl (strings_Contains_c _ _ h.lt z0_0 65 _ rfl) ?_)))))))))
 rintro _ w ⟨k1, rfl⟩
 refine ⟨_, rfl, ?_⟩
 replace h := h.grow k1
 refine wl_ok (r_assign (v := (.bool ((hasB z0_0 65)))) rfl) (wl_nil (then_normal (wc_ret (fin1 (v := (.bool ((hasB z0_0 65)))) Tryz.results144 rfl ?_))))
 obtain rfl := hs
 exact ⟨h.grown, rfl⟩
def wandererref_checkStmts_1_66 (z0_0 : Str) : Bool :=
  (hasB z0_0 66)
theorem wandererref_checkStmts_1_66_c (w0 : World) (M : BS) (hM : ∀ b, M b → b < w0.heap.size) (z0_0 : Str) (q0 : Nat) (hq0 : ∃ E, w0.heap[q0]? = some (.cells #[(strV z0_0)] E (0, 0))) (r : Bool) (hs : wandererref_checkStmts_1_66 z0_0 = r) :
    Calls Tryz.prog 144 #[(strV [66]), (.pointer (some ⟨q0, 0, none⟩))] w0 (fun e w' => Grow w0 w' ∧ e = .returned (.bool r)) := by
 refine calls_start (args := [(strV [66]), (.pointer (some ⟨q0, 0, none⟩))]) Tryz.func144 rfl Tryz.ntmps144 (Nat.le_of_ble_eq_true rfl) ?_
 have h := SH.init hM
 replace h := h.argPt 1 (cs := [(strV z0_0)]) hq0 none_own
 refine wc_seq (wc_region (wl_ok (r_assign (v := (.bool (false))) rfl) (wl_nil (then_normal (wc_seq (wc_region (wl_ok (r_ldP (k := 0) h 1 rfl One9 rfl rfl) (wl_ok (r_move (v := (strV [66])) rfl) (w_call fnOk145 rfl rfl (strings_Contains_c _ _ h.lt z0_0 66 _ rfl) ?_)))))))))
 rintro _ w ⟨k1, rfl⟩
 refine ⟨_, rfl, ?_⟩
 replace h := h.grow k1
 refine wl_ok (r_assign (v := (.bool ((hasB z0_0 66)))) rfl) (wl_nil (then_normal (wc_ret (fin1 (v := (.bool ((hasB z0_0 66)))) Tryz.results144 rfl ?_))))
 obtain rfl := hs
 exact ⟨h.grown, rfl⟩
def wandererref_checkStmts_j34 (nx5 : Unit → Option Int) (x36 : Int) : Option Int :=
  bif decide ((x36 : Int) ≠ 0) then some x36 else nx5 ()
def wandererref_checkStmts_j33 (F0 : List GStmt → List Fun → Int → Option Int) (x3 : GStmt) (b : List Fun) (c : Int) (nx5 : Unit → Option Int) (x35 : Int) : Option Int :=
  bif decide ((x35 : Int) = 0) then (F0 x3.b b c).bind fun y39 => wandererref_checkStmts_j34 nx5 y39 else wandererref_checkStmts_j34 nx5 x35
def wandererref_checkStmts_j32 (F0 : List GStmt → List Fun → Int → Option Int) (x3 : GStmt) (a : List GStmt) (b : List Fun) (c : Int) (nx5 : Unit → Option Int) (x34 : Int) : Option Int :=
  bif decide ((x34 : Int) = 0) then (F0 x3.a b c).bind fun y43 => wandererref_checkStmts_j33 F0 x3 b c nx5 y43 else wandererref_checkStmts_j33 F0 x3 b c nx5 x34
def wandererref_checkStmts_j31 (N : Nat) (F0 : List GStmt → List Fun → Int → Option Int) (x3 : GStmt) (b : List Fun) (c : Int) (a : List GStmt) (nx5 : Unit → Option Int) (x33 : Int) : Option Int :=
  bif (decide ((x33 : Int) = 0) && (wandererref_checkStmts_1_70 ((lk x3.kind ([(1, [78, 69]), (2, [78, 69, 70]), (3, [69]), (4, []), (5, [69]), (6, [69, 65, 66]), (7, [69, 65]), (8, [69])] : List (Int × Str))).getD []))) then (wandererref_CheckExpr N x3.f b c).bind fun y48 => wandererref_checkStmts_j32 F0 x3 a b c nx5 y48 else wandererref_checkStmts_j32 F0 x3 a b c nx5 x33
def wandererref_checkStmts_b35 (N : Nat) (F0 : List GStmt → List Fun → Int → Option Int) (a : List GStmt) (b : List Fun) (c : Int) (x3 : GStmt) (s : Unit) (nx5 : Unit → Option Int) : Option Int :=
  bif ((((((!(lk x3.kind ([(1, [78, 69]), (2, [78, 69, 70]), (3, [69]), (4, []), (5, [69]), (6, [69, 65, 66]), (7, [69, 65]), (8, [69])] : List (Int × Str))).isSome) || (decide ((x3.n : Int) ≠ 0) && (!(wandererref_checkStmts_1_78 ((lk x3.kind ([(1, [78, 69]), (2, [78, 69, 70]), (3, [69]), (4, []), (5, [69]), (6, [69, 65, 66]), (7, [69, 65]), (8, [69])] : List (Int × Str))).getD []))))) || (decide ((0 : Int) < (x3.e.length : Int)) && (!(wandererref_checkStmts_1_69 ((lk x3.kind ([(1, [78, 69]), (2, [78, 69, 70]), (3, [69]), (4, []), (5, [69]), (6, [69, 65, 66]), (7, [69, 65]), (8, [69])] : List (Int × Str))).getD []))))) || (decide ((0 : Int) < (x3.f.length : Int)) && (!(wandererref_checkStmts_1_70 ((lk x3.kind ([(1, [78, 69]), (2, [78, 69, 70]), (3, [69]), (4, []), (5, [69]), (6, [69, 65, 66]), (7, [69, 65]), (8, [69])] : List (Int × Str))).getD []))))) || (decide ((0 : Int) < (x3.a.length : Int)) && (!(wandererref_checkStmts_1_65 ((lk x3.kind ([(1, [78, 69]), (2, [78, 69, 70]), (3, [69]), (4, []), (5, [69]), (6, [69, 65, 66]), (7, [69, 65]), (8, [69])] : List (Int × Str))).getD []))))) || (decide ((0 : Int) < (x3.b.length : Int)) && (!(wandererref_checkStmts_1_66 ((lk x3.kind ([(1, [78, 69]), (2, [78, 69, 70]), (3, [69]), (4, []), (5, [69]), (6, [69, 65, 66]), (7, [69, 65]), (8, [69])] : List (Int × Str))).getD []))))) then some 4 else bif ((decide ((x3.kind : Int) = 1) && (!(wandererref_below x3.n c))) || (decide ((x3.kind : Int) = 2) && (!(wandererref_in x3.n 0 3)))) then some 3 else bif (hasB ((lk x3.kind ([(1, [78, 69]), (2, [78, 69, 70]), (3, [69]), (4, []), (5, [69]), (6, [69, 65, 66]), (7, [69, 65]), (8, [69])] : List (Int × Str))).getD []) 69) then (wandererref_CheckExpr N x3.e b c).bind fun y53 => wandererref_checkStmts_j31 N F0 x3 b c a nx5 y53 else wandererref_checkStmts_j31 N F0 x3 b c a nx5 0
def wandererref_checkStmts_k36 (s : Unit) : Option Int :=
  some 0
def wandererref_checkStmts_r (N : Nat) (F0 : List GStmt → List Fun → Int → Option Int) (a : List GStmt) (b : List Fun) (c : Int) : Option Int :=
  each (wandererref_checkStmts_b35 N F0 a b c) wandererref_checkStmts_k36 a ()
def wandererref_checkStmts : Nat → List GStmt → List Fun → Int → Option Int
  | 0 => fun _ _ _ => none
  | N + 1 => wandererref_checkStmts_r N (wandererref_checkStmts N)
theorem wandererref_checkStmts_c : ∀ (N : Nat) (w0 : World) (M : BS) (hM : ∀ b, M b → b < w0.heap.size) (va : Value) (a : List GStmt) (ha : Rd2 rStmt w0 BE M va a) (vb : Value) (b : List Fun) (hb : Rd2 rFun w0 BE M vb b) (c : Int) (r : Int) (hs : wandererref_checkStmts N a b c = some r),
    Calls Tryz.prog 129 #[va, vb, (.int .i64 (c))] w0 (fun e w' => Grow w0 w' ∧ e = .returned (.int .i64 r)) := by
  intro N
  induction N with
  | zero => intro w0 M hM va a ha vb b hb c r hs; cases hs
  | succ N ih =>
  intro w0 M hM va a ha vb b hb c r hs
  replace hs : wandererref_checkStmts_r N (wandererref_checkStmts N) a b c = some r := hs
  generalize wandererref_checkStmts N = F0 at hs ih
  refine calls_start (args := [va, vb, (.int .i64 (c))]) Tryz.func129 rfl Tryz.ntmps129 (Nat.le_of_ble_eq_true rfl) ?_
  have h := SH.init hM
  replace h := h.argSr 1 ha none_own
  replace h := h.argSr 2 hb (hupd_own_sr none_own)
  have hl_a := ha.len_le
  have hl_b := hb.len_le
  refine wc_seq (wc_region (wl_ok (r_assign (v := (.int .i64 (0))) rfl) (wl_nil (then_normal (wc_seq (wc_seq (wc_region (wl_ok (r_move (v := va) rfl) (wl_ok (r_len SliceOf111 rfl (h.srS 1 rfl)) (wl_ok (r_move (v := (.int .i64 (0))) rfl) (wl_nil (then_normal (wc_block (wc_lp (σ := Nat × Int) (inl [6, 8, 9, 10, 11, 12, 15, 16, 17, 18, 19, 20, 21, 22, 23, 24, 25, 26, 27, 28, 29, 30, 31, 32, 33, 34, 35, 36, 37, 38, 39, 40, 41, 42, 43, 44, 45, 46, 47, 48, 49, 50, 51, 52, 53, 54, 55, 56, 57, 58, 59, 60, 61, 62, 63, 64, 65, 66, 67, 68, 69, 70, 71, 72, 73, 74, 75, 76, 77, 78, 79, 80, 81, 82, 83, 84, 85, 86, 87, 88, 89, 90, 91, 92, 93, 94, 95, 96, 97, 98, 99, 100, 101, 102, 103, 104, 105, 106, 107, 108, 109, 110, 111, 112, 113, 114, 115, 116, 117, 118, 119, 120, 121, 122, 123, 124, 125, 126, 127, 128, 129, 130, 131, 132, 133, 134, 135, 136, 137, 138, 139, 140]) (fun ⟨k1, i2⟩ => [(15, (.int .i64 (i2)))]) (fun ⟨k1, i2⟩ w => SH w0 M BE w (hset [(1, .sr rStmt va a), (2, .sr rFun vb b)]) ∧ i2 = (k1 : Int) ∧ each (wandererref_checkStmts_b35 N F0 a b c) wandererref_checkStmts_k36 (a.drop k1) () = some r) (fun ⟨k1, i2⟩ => a.length - k1) ⟨0, 0⟩ ⟨rfl, trivial⟩ ?_ ?_))))))))))))))
  ·
   exact ⟨h.cn _, rfl, hs⟩
  ·
   rintro ⟨k1, i2⟩ w junk ⟨h, hik, hs⟩
   refine wc_seq (wc_region ?_)
   refine wl_ok (r_lss rfl rfl) (wl_nil (then_normal ?_))
   refine wc_seq (wc_if rfl (fun e6 => ?_) (fun e6 => ?_))
   ·
    refine wc_skip (then_normal ?_)
    obtain ⟨x3, e7a, e7b⟩ := drop_lt (hik ▸ e6)
    rw [e7b, each_cons] at hs
    generalize hnx5 : each (wandererref_checkStmts_b35 N F0 a b c) wandererref_checkStmts_k36 (a.drop (k1 + 1)) = nx5 at hs
    have e7r := nat_rng ((h.srS 1 rfl)).len_le hik e6
    refine wc_seq (wc_block (wc_seq (wc_region ?_)))
    obtain ⟨b9, o10, cs11, h, r12, i8⟩ := h.ixS 1 3 rfl SliceOf111 rfl (nat_nn hik) (get_nat hik e7a)
    obtain ⟨u13, u15, u17, u19, rfl, g14, g16, g18, g20⟩ := rStmt_open r12
    replace h := h.knowRd 4 g14.up
    replace h := h.knowRd 5 g16.up.up
    replace h := h.knowRd 6 g18.up.up.up
    replace h := h.knowRd 7 g20.up.up.up.up
    refine wl_ok (i8 _ _ _ _ _ _ _ _ _ rfl rfl) (wl_ok (r_ldPN (k := 0) (vs := [(.int .i64 (x3.kind)), (.int .i64 (x3.n)), u13, u15, u17, u19]) h 3 rfl Many147 rfl rfl rfl (Nat.le_of_ble_eq_true rfl)) (w_allocN h 8 Many147 fun w b21 h => w_stN (vs := [(.int .i64 (x3.kind)), (.int .i64 (x3.n)), u13, u15, u17, u19]) h 8 [(.int .i64 (x3.kind)), (.int .i64 (x3.n)), u13, u15, u17, u19] rfl Many147 rfl rfl rfl rfl rfl (ones_cons rfl (ones_cons rfl (ones_cons (h.rdAt 4 rfl).one (ones_cons (h.rdAt 5 rfl).one (ones_cons (h.rdAt 6 rfl).one (ones_cons (h.rdAt 7 rfl).one ones_nil)))))) fun w h => wl_nil (then_normal (wc_seq (wc_region (w_makeMap h 9 fun w b22 h => w_insert (ents' := [(1, (strV [78, 69]))]) h 9 rfl MapOf131 rfl rfl rfl rfl fun w h => w_insert (ents' := [(1, (strV [78, 69])), (2, (strV [78, 69, 70]))]) h 9 rfl MapOf131 rfl rfl rfl rfl fun w h => w_insert (ents' := [(1, (strV [78, 69])), (2, (strV [78, 69, 70])), (3, (strV [69]))]) h 9 rfl MapOf131 rfl rfl rfl rfl fun w h => w_insert (ents' := [(1, (strV [78, 69])), (2, (strV [78, 69, 70])), (3, (strV [69])), (4, (strV []))]) h 9 rfl MapOf131 rfl rfl rfl rfl fun w h => w_insert (ents' := [(1, (strV [78, 69])), (2, (strV [78, 69, 70])), (3, (strV [69])), (4, (strV [])), (5, (strV [69]))]) h 9 rfl MapOf131 rfl rfl rfl rfl fun w h => w_insert (ents' := [(1, (strV [78, 69])), (2, (strV [78, 69, 70])), (3, (strV [69])), (4, (strV [])), (5, (strV [69])), (6, (strV [69, 65, 66]))]) h 9 rfl MapOf131 rfl rfl rfl rfl fun w h => w_insert (ents' := [(1, (strV [78, 69])), (2, (strV [78, 69, 70])), (3, (strV [69])), (4, (strV [])), (5, (strV [69])), (6, (strV [69, 65, 66])), (7, (strV [69, 65]))]) h 9 rfl MapOf131 rfl rfl rfl rfl fun w h => w_insert (ents' := [(1, (strV [78, 69])), (2, (strV [78, 69, 70])), (3, (strV [69])), (4, (strV [])), (5, (strV [69])), (6, (strV [69, 65, 66])), (7, (strV [69, 65])), (8, (strV [69]))]) h 9 rfl MapOf131 rfl rfl rfl rfl fun w h => wl_ok (r_move (v := (.map (some b22))) rfl) (wl_ok (r_fieldAddr Fld147x0 rfl) (wl_ok (r_ldB h 8 rfl One3 rfl rfl) (wl_ok (r_lk2 (f := strV) (zz := []) ([(1, [78, 69]), (2, [78, 69, 70]), (3, [69]), (4, []), (5, [69]), (6, [69, 65, 66]), (7, [69, 65]), (8, [69])] : List (Int × Str)) h 9 rfl MapOf131 rfl rfl rfl rfl) (wl_ok (r_move (v := (.tuple #[(strV ((lk x3.kind ([(1, [78, 69]), (2, [78, 69, 70]), (3, [69]), (4, []), (5, [69]), (6, [69, 65, 66]), (7, [69, 65]), (8, [69])] : List (Int × Str))).getD [])), (.bool ((lk x3.kind ([(1, [78, 69]), (2, [78, 69, 70]), (3, [69]), (4, []), (5, [69]), (6, [69, 65, 66]), (7, [69, 65]), (8, [69])] : List (Int × Str))).isSome))])) rfl) (wl_ok (r_extract rfl rfl) (wl_ok (r_extract rfl rfl) ?_))))))))))))
    refine w_alloc1 h 10 One9 fun w b23 h => w_st1 h 10 [(strV ((lk x3.kind ([(1, [78, 69]), (2, [78, 69, 70]), (3, [69]), (4, []), (5, [69]), (6, [69, 65, 66]), (7, [69, 65]), (8, [69])] : List (Int × Str))).getD []))] rfl One9 rfl rfl rfl rfl rfl fun w h => wl_ok (r_assign (v := (.bool ((lk x3.kind ([(1, [78, 69]), (2, [78, 69, 70]), (3, [69]), (4, []), (5, [69]), (6, [69, 65, 66]), (7, [69, 65]), (8, [69])] : List (Int × Str))).isSome))) rfl) (wl_nil (then_normal (wc_seq (wc_region (wl_ok (r_makeFunc (c1 := []) (c2 := [(.pointer (some ⟨b23, 0, none⟩))]) rfl rfl) (wl_ok (r_assign (v := (.func (.func 144) #[] #[(.pointer (some ⟨b23, 0, none⟩))])) rfl) (wl_nil (then_normal (wc_seq (wc_seq (wc_region (wl_ok (r_move (v := (.bool ((lk x3.kind ([(1, [78, 69]), (2, [78, 69, 70]), (3, [69]), (4, []), (5, [69]), (6, [69, 65, 66]), (7, [69, 65]), (8, [69])] : List (Int × Str))).isSome))) rfl) (wl_ok (r_notb rfl) (wl_ok (r_move (v := (.bool ((!(lk x3.kind ([(1, [78, 69]), (2, [78, 69, 70]), (3, [69]), (4, []), (5, [69]), (6, [69, 65, 66]), (7, [69, 65]), (8, [69])] : List (Int × Str))).isSome)))) rfl) (wl_gd0 rfl rfl (fun q => r_fieldAddr Fld147x1 rfl) (wl_gd0 rfl rfl (fun q => r_ldB h 8 rfl One3 (gvt q) rfl) (wl_gd0 rfl rfl (fun q => r_neq (gvt q) rfl) (wl_gd0 rfl rfl (fun q => r_move (v := (.bool (decide ((x3.n : Int) ≠ 0)))) (gvt q)) (wl_gd ((!(lk x3.kind ([(1, [78, 69]), (2, [78, 69, 70]), (3, [69]), (4, []), (5, [69]), (6, [69, 65, 66]), (7, [69, 65]), (8, [69])] : List (Int × Str))).isSome) == false) rfl rfl (fun q => r_move (v := (.func (.func 144) #[] #[(.pointer (some ⟨b23, 0, none⟩))])) rfl) (w_callH [(.pointer (some ⟨b23, 0, none⟩))] ((!(lk x3.kind ([(1, [78, 69]), (2, [78, 69, 70]), (3, [69]), (4, []), (5, [69]), (6, [69, 65, 66]), (7, [69, 65]), (8, [69])] : List (Int × Str))).isSome) == false) rfl rfl fnOk144 (fun q => (gvt q)) (fun q => la_cons rfl rfl) (wandererref_checkStmts_1_78_c _ _ h.lt ((lk x3.kind ([(1, [78, 69]), (2, [78, 69, 70]), (3, [69]), (4, []), (5, [69]), (6, [69, 65, 66]), (7, [69, 65]), (8, [69])] : List (Int × Str))).getD []) b23 (h.blkAt 10 rfl) _ rfl) fun w k24 => ?_))))))))))))))))))))
    replace h := h.grow k24
    refine wl_gd ((!(lk x3.kind ([(1, [78, 69]), (2, [78, 69, 70]), (3, [69]), (4, []), (5, [69]), (6, [69, 65, 66]), (7, [69, 65]), (8, [69])] : List (Int × Str))).isSome) == false) rfl rfl (fun q => r_notb (gvt q)) (wl_gd0 rfl rfl (fun q => r_pand (gvt q) (gvn q) evc) (wl_ok (r_por rfl rfl evc) (wl_ok (r_move (v := (.bool (((!(lk x3.kind ([(1, [78, 69]), (2, [78, 69, 70]), (3, [69]), (4, []), (5, [69]), (6, [69, 65, 66]), (7, [69, 65]), (8, [69])] : List (Int × Str))).isSome) || (decide ((x3.n : Int) ≠ 0) && (!(wandererref_checkStmts_1_78 ((lk x3.kind ([(1, [78, 69]), (2, [78, 69, 70]), (3, [69]), (4, []), (5, [69]), (6, [69, 65, 66]), (7, [69, 65]), (8, [69])] : List (Int × Str))).getD [])))))))) rfl) (wl_gd0 rfl rfl (fun q => r_fieldAddr Fld147x2 rfl) (wl_gd0 rfl rfl (fun q => r_ldB h 8 rfl One145 (gvt q) rfl) (wl_gd0 rfl rfl (fun q => r_len SliceOf145 (gvt q) (h.rdS 4 rfl)) (wl_gd0 rfl rfl (fun q => r_gtr (gvt q) rfl) (wl_gd0 rfl rfl (fun q => r_move (v := (.bool (decide ((0 : Int) < (x3.e.length : Int))))) (gvt q)) (wl_gd (((!(lk x3.kind ([(1, [78, 69]), (2, [78, 69, 70]), (3, [69]), (4, []), (5, [69]), (6, [69, 65, 66]), (7, [69, 65]), (8, [69])] : List (Int × Str))).isSome) || (decide ((x3.n : Int) ≠ 0) && (!(wandererref_checkStmts_1_78 ((lk x3.kind ([(1, [78, 69]), (2, [78, 69, 70]), (3, [69]), (4, []), (5, [69]), (6, [69, 65, 66]), (7, [69, 65]), (8, [69])] : List (Int × Str))).getD []))))) == false) rfl rfl (fun q => r_move (v := (.func (.func 144) #[] #[(.pointer (some ⟨b23, 0, none⟩))])) rfl) (w_callH [(.pointer (some ⟨b23, 0, none⟩))] (((!(lk x3.kind ([(1, [78, 69]), (2, [78, 69, 70]), (3, [69]), (4, []), (5, [69]), (6, [69, 65, 66]), (7, [69, 65]), (8, [69])] : List (Int × Str))).isSome) || (decide ((x3.n : Int) ≠ 0) && (!(wandererref_checkStmts_1_78 ((lk x3.kind ([(1, [78, 69]), (2, [78, 69, 70]), (3, [69]), (4, []), (5, [69]), (6, [69, 65, 66]), (7, [69, 65]), (8, [69])] : List (Int × Str))).getD []))))) == false) rfl rfl fnOk144 (fun q => (gvt q)) (fun q => la_cons rfl rfl) (wandererref_checkStmts_1_69_c _ _ h.lt ((lk x3.kind ([(1, [78, 69]), (2, [78, 69, 70]), (3, [69]), (4, []), (5, [69]), (6, [69, 65, 66]), (7, [69, 65]), (8, [69])] : List (Int × Str))).getD []) b23 (h.blkAt 10 rfl) _ rfl) fun w k25 => ?_))))))))))
    replace h := h.grow k25
    refine wl_gd (((!(lk x3.kind ([(1, [78, 69]), (2, [78, 69, 70]), (3, [69]), (4, []), (5, [69]), (6, [69, 65, 66]), (7, [69, 65]), (8, [69])] : List (Int × Str))).isSome) || (decide ((x3.n : Int) ≠ 0) && (!(wandererref_checkStmts_1_78 ((lk x3.kind ([(1, [78, 69]), (2, [78, 69, 70]), (3, [69]), (4, []), (5, [69]), (6, [69, 65, 66]), (7, [69, 65]), (8, [69])] : List (Int × Str))).getD []))))) == false) rfl rfl (fun q => r_notb (gvt q)) (wl_gd0 rfl rfl (fun q => r_pand (gvt q) (gvn q) evc) (wl_ok (r_por rfl rfl evc) (wl_ok (r_move (v := (.bool ((((!(lk x3.kind ([(1, [78, 69]), (2, [78, 69, 70]), (3, [69]), (4, []), (5, [69]), (6, [69, 65, 66]), (7, [69, 65]), (8, [69])] : List (Int × Str))).isSome) || (decide ((x3.n : Int) ≠ 0) && (!(wandererref_checkStmts_1_78 ((lk x3.kind ([(1, [78, 69]), (2, [78, 69, 70]), (3, [69]), (4, []), (5, [69]), (6, [69, 65, 66]), (7, [69, 65]), (8, [69])] : List (Int × Str))).getD []))))) || (decide ((0 : Int) < (x3.e.length : Int)) && (!(wandererref_checkStmts_1_69 ((lk x3.kind ([(1, [78, 69]), (2, [78, 69, 70]), (3, [69]), (4, []), (5, [69]), (6, [69, 65, 66]), (7, [69, 65]), (8, [69])] : List (Int × Str))).getD [])))))))) rfl) (wl_gd0 rfl rfl (fun q => r_fieldAddr Fld147x3 rfl) (wl_gd0 rfl rfl (fun q => r_ldB h 8 rfl One145 (gvt q) rfl) (wl_gd0 rfl rfl (fun q => r_len SliceOf145 (gvt q) (h.rdS 5 rfl)) (wl_gd0 rfl rfl (fun q => r_gtr (gvt q) rfl) (wl_gd0 rfl rfl (fun q => r_move (v := (.bool (decide ((0 : Int) < (x3.f.length : Int))))) (gvt q)) (wl_gd ((((!(lk x3.kind ([(1, [78, 69]), (2, [78, 69, 70]), (3, [69]), (4, []), (5, [69]), (6, [69, 65, 66]), (7, [69, 65]), (8, [69])] : List (Int × Str))).isSome) || (decide ((x3.n : Int) ≠ 0) && (!(wandererref_checkStmts_1_78 ((lk x3.kind ([(1, [78, 69]), (2, [78, 69, 70]), (3, [69]), (4, []), (5, [69]), (6, [69, 65, 66]), (7, [69, 65]), (8, [69])] : List (Int × Str))).getD []))))) || (decide ((0 : Int) < (x3.e.length : Int)) && (!(wandererref_checkStmts_1_69 ((lk x3.kind ([(1, [78, 69]), (2, [78, 69, 70]), (3, [69]), (4, []), (5, [69]), (6, [69, 65, 66]), (7, [69, 65]), (8, [69])] : List (Int × Str))).getD []))))) == false) rfl rfl (fun q => r_move (v := (.func (.func 144) #[] #[(.pointer (some ⟨b23, 0, none⟩))])) rfl) (w_callH [(.pointer (some ⟨b23, 0, none⟩))] ((((!(lk x3.kind ([(1, [78, 69]), (2, [78, 69, 70]), (3, [69]), (4, []), (5, [69]), (6, [69, 65, 66]), (7, [69, 65]), (8, [69])] : List (Int × Str))).isSome) || (decide ((x3.n : Int) ≠ 0) && (!(wandererref_checkStmts_1_78 ((lk x3.kind ([(1, [78, 69]), (2, [78, 69, 70]), (3, [69]), (4, []), (5, [69]), (6, [69, 65, 66]), (7, [69, 65]), (8, [69])] : List (Int × Str))).getD []))))) || (decide ((0 : Int) < (x3.e.length : Int)) && (!(wandererref_checkStmts_1_69 ((lk x3.kind ([(1, [78, 69]), (2, [78, 69, 70]), (3, [69]), (4, []), (5, [69]), (6, [69, 65, 66]), (7, [69, 65]), (8, [69])] : List (Int × Str))).getD []))))) == false) rfl rfl fnOk144 (fun q => (gvt q)) (fun q => la_cons rfl rfl) (wandererref_checkStmts_1_70_c _ _ h.lt ((lk x3.kind ([(1, [78, 69]), (2, [78, 69, 70]), (3, [69]), (4, []), (5, [69]), (6, [69, 65, 66]), (7, [69, 65]), (8, [69])] : List (Int × Str))).getD []) b23 (h.blkAt 10 rfl) _ rfl) fun w k26 => ?_))))))))))
    replace h := h.grow k26
    refine wl_gd ((((!(lk x3.kind ([(1, [78, 69]), (2, [78, 69, 70]), (3, [69]), (4, []), (5, [69]), (6, [69, 65, 66]), (7, [69, 65]), (8, [69])] : List (Int × Str))).isSome) || (decide ((x3.n : Int) ≠ 0) && (!(wandererref_checkStmts_1_78 ((lk x3.kind ([(1, [78, 69]), (2, [78, 69, 70]), (3, [69]), (4, []), (5, [69]), (6, [69, 65, 66]), (7, [69, 65]), (8, [69])] : List (Int × Str))).getD []))))) || (decide ((0 : Int) < (x3.e.length : Int)) && (!(wandererref_checkStmts_1_69 ((lk x3.kind ([(1, [78, 69]), (2, [78, 69, 70]), (3, [69]), (4, []), (5, [69]), (6, [69, 65, 66]), (7, [69, 65]), (8, [69])] : List (Int × Str))).getD []))))) == false) rfl rfl (fun q => r_notb (gvt q)) (wl_gd0 rfl rfl (fun q => r_pand (gvt q) (gvn q) evc) (wl_ok (r_por rfl rfl evc) (wl_ok (r_move (v := (.bool (((((!(lk x3.kind ([(1, [78, 69]), (2, [78, 69, 70]), (3, [69]), (4, []), (5, [69]), (6, [69, 65, 66]), (7, [69, 65]), (8, [69])] : List (Int × Str))).isSome) || (decide ((x3.n : Int) ≠ 0) && (!(wandererref_checkStmts_1_78 ((lk x3.kind ([(1, [78, 69]), (2, [78, 69, 70]), (3, [69]), (4, []), (5, [69]), (6, [69, 65, 66]), (7, [69, 65]), (8, [69])] : List (Int × Str))).getD []))))) || (decide ((0 : Int) < (x3.e.length : Int)) && (!(wandererref_checkStmts_1_69 ((lk x3.kind ([(1, [78, 69]), (2, [78, 69, 70]), (3, [69]), (4, []), (5, [69]), (6, [69, 65, 66]), (7, [69, 65]), (8, [69])] : List (Int × Str))).getD []))))) || (decide ((0 : Int) < (x3.f.length : Int)) && (!(wandererref_checkStmts_1_70 ((lk x3.kind ([(1, [78, 69]), (2, [78, 69, 70]), (3, [69]), (4, []), (5, [69]), (6, [69, 65, 66]), (7, [69, 65]), (8, [69])] : List (Int × Str))).getD [])))))))) rfl) (wl_gd0 rfl rfl (fun q => r_fieldAddr Fld147x4 rfl) (wl_gd0 rfl rfl (fun q => r_ldB h 8 rfl One111 (gvt q) rfl) (wl_gd0 rfl rfl (fun q => r_len SliceOf111 (gvt q) (h.rdS 6 rfl)) (wl_gd0 rfl rfl (fun q => r_gtr (gvt q) rfl) (wl_gd0 rfl rfl (fun q => r_move (v := (.bool (decide ((0 : Int) < (x3.a.length : Int))))) (gvt q)) (wl_gd (((((!(lk x3.kind ([(1, [78, 69]), (2, [78, 69, 70]), (3, [69]), (4, []), (5, [69]), (6, [69, 65, 66]), (7, [69, 65]), (8, [69])] : List (Int × Str))).isSome) || (decide ((x3.n : Int) ≠ 0) && (!(wandererref_checkStmts_1_78 ((lk x3.kind ([(1, [78, 69]), (2, [78, 69, 70]), (3, [69]), (4, []), (5, [69]), (6, [69, 65, 66]), (7, [69, 65]), (8, [69])] : List (Int × Str))).getD []))))) || (decide ((0 : Int) < (x3.e.length : Int)) && (!(wandererref_checkStmts_1_69 ((lk x3.kind ([(1, [78, 69]), (2, [78, 69, 70]), (3, [69]), (4, []), (5, [69]), (6, [69, 65, 66]), (7, [69, 65]), (8, [69])] : List (Int × Str))).getD []))))) || (decide ((0 : Int) < (x3.f.length : Int)) && (!(wandererref_checkStmts_1_70 ((lk x3.kind ([(1, [78, 69]), (2, [78, 69, 70]), (3, [69]), (4, []), (5, [69]), (6, [69, 65, 66]), (7, [69, 65]), (8, [69])] : List (Int × Str))).getD []))))) == false) rfl rfl (fun q => r_move (v := (.func (.func 144) #[] #[(.pointer (some ⟨b23, 0, none⟩))])) rfl) (w_callH [(.pointer (some ⟨b23, 0, none⟩))] (((((!(lk x3.kind ([(1, [78, 69]), (2, [78, 69, 70]), (3, [69]), (4, []), (5, [69]), (6, [69, 65, 66]), (7, [69, 65]), (8, [69])] : List (Int × Str))).isSome) || (decide ((x3.n : Int) ≠ 0) && (!(wandererref_checkStmts_1_78 ((lk x3.kind ([(1, [78, 69]), (2, [78, 69, 70]), (3, [69]), (4, []), (5, [69]), (6, [69, 65, 66]), (7, [69, 65]), (8, [69])] : List (Int × Str))).getD []))))) || (decide ((0 : Int) < (x3.e.length : Int)) && (!(wandererref_checkStmts_1_69 ((lk x3.kind ([(1, [78, 69]), (2, [78, 69, 70]), (3, [69]), (4, []), (5, [69]), (6, [69, 65, 66]), (7, [69, 65]), (8, [69])] : List (Int × Str))).getD []))))) || (decide ((0 : Int) < (x3.f.length : Int)) && (!(wandererref_checkStmts_1_70 ((lk x3.kind ([(1, [78, 69]), (2, [78, 69, 70]), (3, [69]), (4, []), (5, [69]), (6, [69, 65, 66]), (7, [69, 65]), (8, [69])] : List (Int × Str))).getD []))))) == false) rfl rfl fnOk144 (fun q => (gvt q)) (fun q => la_cons rfl rfl) (wandererref_checkStmts_1_65_c _ _ h.lt ((lk x3.kind ([(1, [78, 69]), (2, [78, 69, 70]), (3, [69]), (4, []), (5, [69]), (6, [69, 65, 66]), (7, [69, 65]), (8, [69])] : List (Int × Str))).getD []) b23 (h.blkAt 10 rfl) _ rfl) fun w k27 => ?_))))))))))
    replace h := h.grow k27
    refine wl_gd (((((!(lk x3.kind ([(1, [78, 69]), (2, [78, 69, 70]), (3, [69]), (4, []), (5, [69]), (6, [69, 65, 66]), (7, [69, 65]), (8, [69])] : List (Int × Str))).isSome) || (decide ((x3.n : Int) ≠ 0) && (!(wandererref_checkStmts_1_78 ((lk x3.kind ([(1, [78, 69]), (2, [78, 69, 70]), (3, [69]), (4, []), (5, [69]), (6, [69, 65, 66]), (7, [69, 65]), (8, [69])] : List (Int × Str))).getD []))))) || (decide ((0 : Int) < (x3.e.length : Int)) && (!(wandererref_checkStmts_1_69 ((lk x3.kind ([(1, [78, 69]), (2, [78, 69, 70]), (3, [69]), (4, []), (5, [69]), (6, [69, 65, 66]), (7, [69, 65]), (8, [69])] : List (Int × Str))).getD []))))) || (decide ((0 : Int) < (x3.f.length : Int)) && (!(wandererref_checkStmts_1_70 ((lk x3.kind ([(1, [78, 69]), (2, [78, 69, 70]), (3, [69]), (4, []), (5, [69]), (6, [69, 65, 66]), (7, [69, 65]), (8, [69])] : List (Int × Str))).getD []))))) == false) rfl rfl (fun q => r_notb (gvt q)) (wl_gd0 rfl rfl (fun q => r_pand (gvt q) (gvn q) evc) (wl_ok (r_por rfl rfl evc) (wl_ok (r_move (v := (.bool ((((((!(lk x3.kind ([(1, [78, 69]), (2, [78, 69, 70]), (3, [69]), (4, []), (5, [69]), (6, [69, 65, 66]), (7, [69, 65]), (8, [69])] : List (Int × Str))).isSome) || (decide ((x3.n : Int) ≠ 0) && (!(wandererref_checkStmts_1_78 ((lk x3.kind ([(1, [78, 69]), (2, [78, 69, 70]), (3, [69]), (4, []), (5, [69]), (6, [69, 65, 66]), (7, [69, 65]), (8, [69])] : List (Int × Str))).getD []))))) || (decide ((0 : Int) < (x3.e.length : Int)) && (!(wandererref_checkStmts_1_69 ((lk x3.kind ([(1, [78, 69]), (2, [78, 69, 70]), (3, [69]), (4, []), (5, [69]), (6, [69, 65, 66]), (7, [69, 65]), (8, [69])] : List (Int × Str))).getD []))))) || (decide ((0 : Int) < (x3.f.length : Int)) && (!(wandererref_checkStmts_1_70 ((lk x3.kind ([(1, [78, 69]), (2, [78, 69, 70]), (3, [69]), (4, []), (5, [69]), (6, [69, 65, 66]), (7, [69, 65]), (8, [69])] : List (Int × Str))).getD []))))) || (decide ((0 : Int) < (x3.a.length : Int)) && (!(wandererref_checkStmts_1_65 ((lk x3.kind ([(1, [78, 69]), (2, [78, 69, 70]), (3, [69]), (4, []), (5, [69]), (6, [69, 65, 66]), (7, [69, 65]), (8, [69])] : List (Int × Str))).getD [])))))))) rfl) (wl_gd0 rfl rfl (fun q => r_fieldAddr Fld147x5 rfl) (wl_gd0 rfl rfl (fun q => r_ldB h 8 rfl One111 (gvt q) rfl) (wl_gd0 rfl rfl (fun q => r_len SliceOf111 (gvt q) (h.rdS 7 rfl)) (wl_gd0 rfl rfl (fun q => r_gtr (gvt q) rfl) (wl_gd0 rfl rfl (fun q => r_move (v := (.bool (decide ((0 : Int) < (x3.b.length : Int))))) (gvt q)) (wl_gd ((((((!(lk x3.kind ([(1, [78, 69]), (2, [78, 69, 70]), (3, [69]), (4, []), (5, [69]), (6, [69, 65, 66]), (7, [69, 65]), (8, [69])] : List (Int × Str))).isSome) || (decide ((x3.n : Int) ≠ 0) && (!(wandererref_checkStmts_1_78 ((lk x3.kind ([(1, [78, 69]), (2, [78, 69, 70]), (3, [69]), (4, []), (5, [69]), (6, [69, 65, 66]), (7, [69, 65]), (8, [69])] : List (Int × Str))).getD []))))) || (decide ((0 : Int) < (x3.e.length : Int)) && (!(wandererref_checkStmts_1_69 ((lk x3.kind ([(1, [78, 69]), (2, [78, 69, 70]), (3, [69]), (4, []), (5, [69]), (6, [69, 65, 66]), (7, [69, 65]), (8, [69])] : List (Int × Str))).getD []))))) || (decide ((0 : Int) < (x3.f.length : Int)) && (!(wandererref_checkStmts_1_70 ((lk x3.kind ([(1, [78, 69]), (2, [78, 69, 70]), (3, [69]), (4, []), (5, [69]), (6, [69, 65, 66]), (7, [69, 65]), (8, [69])] : List (Int × Str))).getD []))))) || (decide ((0 : Int) < (x3.a.length : Int)) && (!(wandererref_checkStmts_1_65 ((lk x3.kind ([(1, [78, 69]), (2, [78, 69, 70]), (3, [69]), (4, []), (5, [69]), (6, [69, 65, 66]), (7, [69, 65]), (8, [69])] : List (Int × Str))).getD []))))) == false) rfl rfl (fun q => r_move (v := (.func (.func 144) #[] #[(.pointer (some ⟨b23, 0, none⟩))])) rfl) (w_callH [(.pointer (some ⟨b23, 0, none⟩))] ((((((!(lk x3.kind ([(1, [78, 69]), (2, [78, 69, 70]), (3, [69]), (4, []), (5, [69]), (6, [69, 65, 66]), (7, [69, 65]), (8, [69])] : List (Int × Str))).isSome) || (decide ((x3.n : Int) ≠ 0) && (!(wandererref_checkStmts_1_78 ((lk x3.kind ([(1, [78, 69]), (2, [78, 69, 70]), (3, [69]), (4, []), (5, [69]), (6, [69, 65, 66]), (7, [69, 65]), (8, [69])] : List (Int × Str))).getD []))))) || (decide ((0 : Int) < (x3.e.length : Int)) && (!(wandererref_checkStmts_1_69 ((lk x3.kind ([(1, [78, 69]), (2, [78, 69, 70]), (3, [69]), (4, []), (5, [69]), (6, [69, 65, 66]), (7, [69, 65]), (8, [69])] : List (Int × Str))).getD []))))) || (decide ((0 : Int) < (x3.f.length : Int)) && (!(wandererref_checkStmts_1_70 ((lk x3.kind ([(1, [78, 69]), (2, [78, 69, 70]), (3, [69]), (4, []), (5, [69]), (6, [69, 65, 66]), (7, [69, 65]), (8, [69])] : List (Int × Str))).getD []))))) || (decide ((0 : Int) < (x3.a.length : Int)) && (!(wandererref_checkStmts_1_65 ((lk x3.kind ([(1, [78, 69]), (2, [78, 69, 70]), (3, [69]), (4, []), (5, [69]), (6, [69, 65, 66]), (7, [69, 65]), (8, [69])] : List (Int × Str))).getD []))))) == false) rfl rfl fnOk144 (fun q => (gvt q)) (fun q => la_cons rfl rfl) (wandererref_checkStmts_1_66_c _ _ h.lt ((lk x3.kind ([(1, [78, 69]), (2, [78, 69, 70]), (3, [69]), (4, []), (5, [69]), (6, [69, 65, 66]), (7, [69, 65]), (8, [69])] : List (Int × Str))).getD []) b23 (h.blkAt 10 rfl) _ rfl) fun w k28 => ?_))))))))))
    replace h := h.grow k28
    refine wl_gd ((((((!(lk x3.kind ([(1, [78, 69]), (2, [78, 69, 70]), (3, [69]), (4, []), (5, [69]), (6, [69, 65, 66]), (7, [69, 65]), (8, [69])] : List (Int × Str))).isSome) || (decide ((x3.n : Int) ≠ 0) && (!(wandererref_checkStmts_1_78 ((lk x3.kind ([(1, [78, 69]), (2, [78, 69, 70]), (3, [69]), (4, []), (5, [69]), (6, [69, 65, 66]), (7, [69, 65]), (8, [69])] : List (Int × Str))).getD []))))) || (decide ((0 : Int) < (x3.e.length : Int)) && (!(wandererref_checkStmts_1_69 ((lk x3.kind ([(1, [78, 69]), (2, [78, 69, 70]), (3, [69]), (4, []), (5, [69]), (6, [69, 65, 66]), (7, [69, 65]), (8, [69])] : List (Int × Str))).getD []))))) || (decide ((0 : Int) < (x3.f.length : Int)) && (!(wandererref_checkStmts_1_70 ((lk x3.kind ([(1, [78, 69]), (2, [78, 69, 70]), (3, [69]), (4, []), (5, [69]), (6, [69, 65, 66]), (7, [69, 65]), (8, [69])] : List (Int × Str))).getD []))))) || (decide ((0 : Int) < (x3.a.length : Int)) && (!(wandererref_checkStmts_1_65 ((lk x3.kind ([(1, [78, 69]), (2, [78, 69, 70]), (3, [69]), (4, []), (5, [69]), (6, [69, 65, 66]), (7, [69, 65]), (8, [69])] : List (Int × Str))).getD []))))) == false) rfl rfl (fun q => r_notb (gvt q)) (wl_gd0 rfl rfl (fun q => r_pand (gvt q) (gvn q) evc) (wl_ok (r_por rfl rfl evc) (wl_nil (then_normal (wc_ifb hs rfl (fun c29 hs => ?_) (fun c29 hs => ?_))))))
    ·
     refine wc_seq (wc_region (wl_ok (r_assign (v := (.int .i64 (4))) rfl) (wl_nil (then_normal (wc_ret (then_ret (inBlock_ret (then_ret (then_ret (inBlock_ret (then_ret (fin1 (v := (.int .i64 (4))) Tryz.results129 rfl ?_))))))))))))
     obtain rfl := Option.some.inj hs
     exact ⟨h.grown, rfl⟩
    ·
     refine wc_skip (then_normal (wc_seq (wc_seq (wc_region (wl_ok (r_fieldAddr Fld147x0 rfl) (wl_ok (r_ldB h 8 rfl One3 rfl rfl) (wl_ok (r_eql rfl rfl) (wl_ok (r_move (v := (.bool (decide ((x3.kind : Int) = 1)))) rfl) (wl_gd0 rfl rfl (fun q => r_fieldAddr Fld147x1 rfl) (wl_gd0 rfl rfl (fun q => r_ldB h 8 rfl One3 (gvt q) rfl) (wl_gd0 rfl rfl (fun q => r_move (v := (.int .i64 (c))) rfl) (w_callG0 rfl rfl fnOk55 rfl (fun q => la_cons (gvt q) (la_cons (gvt q) rfl)) (wandererref_below_c _ _ h.lt x3.n c _ rfl) fun w k30 => ?_))))))))))))
     replace h := h.grow k30
     refine wl_gd0 rfl rfl (fun q => r_notb (gvt q)) (wl_ok (r_pand rfl rfl evc) (wl_ok (r_move (v := (.bool ((decide ((x3.kind : Int) = 1) && (!(wandererref_below x3.n c)))))) rfl) (wl_gd0 rfl rfl (fun q => r_fieldAddr Fld147x0 rfl) (wl_gd0 rfl rfl (fun q => r_ldB h 8 rfl One3 (gvt q) rfl) (wl_gd0 rfl rfl (fun q => r_eql (gvt q) rfl) (wl_gd0 rfl rfl (fun q => r_move (v := (.bool (decide ((x3.kind : Int) = 2)))) (gvt q)) (wl_gd ((decide ((x3.kind : Int) = 1) && (!(wandererref_below x3.n c))) == false) rfl rfl (fun q => r_fieldAddr Fld147x1 rfl) (wl_gd ((decide ((x3.kind : Int) = 1) && (!(wandererref_below x3.n c))) == false) rfl rfl (fun q => r_ldB h 8 rfl One3 (gvt q) rfl) (w_callG ((decide ((x3.kind : Int) = 1) && (!(wandererref_below x3.n c))) == false) rfl rfl fnOk51 rfl (fun q => la_cons (gvt q) (la_cons rfl (la_cons rfl rfl))) (wandererref_in_c _ _ h.lt x3.n 0 3 _ rfl) fun w k31 => ?_)))))))))
     replace h := h.grow k31
     refine wl_gd ((decide ((x3.kind : Int) = 1) && (!(wandererref_below x3.n c))) == false) rfl rfl (fun q => r_notb (gvt q)) (wl_gd0 rfl rfl (fun q => r_pand (gvt q) (gvn q) evc) (wl_ok (r_por rfl rfl evc) (wl_nil (then_normal (wc_ifb hs rfl (fun c32 hs => ?_) (fun c32 hs => ?_))))))
     ·
      refine wc_seq (wc_region (wl_ok (r_assign (v := (.int .i64 (3))) rfl) (wl_nil (then_normal (wc_ret (then_ret (inBlock_ret (then_ret (then_ret (inBlock_ret (then_ret (fin1 (v := (.int .i64 (3))) Tryz.results129 rfl ?_))))))))))))
      obtain rfl := Option.some.inj hs
      exact ⟨h.grown, rfl⟩
     ·
      refine wc_skip (then_normal (wc_seq (wc_region (wl_ok (r_assign (v := (.int .i64 (0))) rfl) (wl_nil (then_normal (wc_join (σ := Int) (inl [12, 105, 106, 107, 108, 109, 110, 111]) (fun x33 => [(12, (.int .i64 (x33)))]) (fun x33 w => SH w0 M BE w (hset [(1, .sr rStmt va a), (2, .sr rFun vb b), (4, .rd rTok u13 x3.e), (5, .rd rTok u15 x3.f), (6, .rd rStmt u17 x3.a), (7, .rd rStmt u19 x3.b), (8, .blk b21 [(.int .i64 (x3.kind)), (.int .i64 (x3.n)), u13, u15, u17, u19]), (10, .blk b23 [(strV ((lk x3.kind ([(1, [78, 69]), (2, [78, 69, 70]), (3, [69]), (4, []), (5, [69]), (6, [69, 65, 66]), (7, [69, 65]), (8, [69])] : List (Int × Str))).getD []))])]) ∧ wandererref_checkStmts_j31 N F0 x3 b c a nx5 x33 = some r) ?_ ?_)))))))
      ·
       rintro x33 w junk ⟨h, hs⟩
       refine wc_join (σ := Int) (inl [12, 112, 113, 114, 115, 116, 117, 118, 119, 120, 121, 122]) (fun x34 => [(12, (.int .i64 (x34))), (115, (gv (decide ((x33 : Int) = 0) == true) (.func (.func 144) #[] #[(.pointer (some ⟨b23, 0, none⟩))])))]) (fun x34 w => SH w0 M BE w (hset [(1, .sr rStmt va a), (2, .sr rFun vb b), (4, .rd rTok u13 x3.e), (5, .rd rTok u15 x3.f), (6, .rd rStmt u17 x3.a), (7, .rd rStmt u19 x3.b), (8, .blk b21 [(.int .i64 (x3.kind)), (.int .i64 (x3.n)), u13, u15, u17, u19]), (10, .blk b23 [(strV ((lk x3.kind ([(1, [78, 69]), (2, [78, 69, 70]), (3, [69]), (4, []), (5, [69]), (6, [69, 65, 66]), (7, [69, 65]), (8, [69])] : List (Int × Str))).getD []))])]) ∧ wandererref_checkStmts_j32 F0 x3 a b c nx5 x34 = some r) ?_ ?_
       ·
        rintro x34 w junk ⟨h, hs⟩
        refine wc_join (σ := Int) (inl [12, 123, 124, 125, 126, 127, 128, 129]) (fun x35 => [(12, (.int .i64 (x35)))]) (fun x35 w => SH w0 M BE w (hset [(1, .sr rStmt va a), (2, .sr rFun vb b), (4, .rd rTok u13 x3.e), (5, .rd rTok u15 x3.f), (6, .rd rStmt u17 x3.a), (7, .rd rStmt u19 x3.b), (8, .blk b21 [(.int .i64 (x3.kind)), (.int .i64 (x3.n)), u13, u15, u17, u19]), (10, .blk b23 [(strV ((lk x3.kind ([(1, [78, 69]), (2, [78, 69, 70]), (3, [69]), (4, []), (5, [69]), (6, [69, 65, 66]), (7, [69, 65]), (8, [69])] : List (Int × Str))).getD []))])]) ∧ wandererref_checkStmts_j33 F0 x3 b c nx5 x35 = some r) ?_ ?_
        ·
         rintro x35 w junk ⟨h, hs⟩
         refine wc_join (σ := Int) (inl [12, 130, 131, 132, 133, 134, 135, 136]) (fun x36 => [(12, (.int .i64 (x36)))]) (fun x36 w => SH w0 M BE w (hset [(1, .sr rStmt va a), (2, .sr rFun vb b), (10, .blk b23 [(strV ((lk x3.kind ([(1, [78, 69]), (2, [78, 69, 70]), (3, [69]), (4, []), (5, [69]), (6, [69, 65, 66]), (7, [69, 65]), (8, [69])] : List (Int × Str))).getD []))])]) ∧ wandererref_checkStmts_j34 nx5 x36 = some r) ?_ ?_
         ·
          rintro x36 w junk ⟨h, hs⟩
          refine wc_seq (wc_region (wl_ok (r_move (v := (.int .i64 (x36))) rfl) (wl_ok (r_neq rfl rfl) (wl_nil (then_normal (wc_ifb hs rfl (fun c37 hs => ?_) (fun c37 hs => ?_)))))))
          ·
           refine wc_seq (wc_region (wl_ok (r_move (v := (.int .i64 (x36))) rfl) (wl_ok (r_assign (v := (.int .i64 (x36))) rfl) (wl_nil (then_normal (wc_ret (inBlock_ret (then_ret (then_ret (inBlock_ret (then_ret (fin1 (v := (.int .i64 (x36))) Tryz.results129 rfl ?_))))))))))))
           obtain rfl := Option.some.inj hs
           exact ⟨h.grown, rfl⟩
          ·
           refine wc_skip (inBlock_normal (then_normal (wc_region (wl_ok (r_add rfl rfl e7r) (wl_ok (r_move (v := (.int .i64 ((i2 + 1)))) rfl) (wl_nil (then_loop ?_)))))))
           subst hnx5
           exact lend ⟨k1 + 1, i2 + 1⟩ ⟨h.cn _, by omega, hs⟩ (by have := of_decide_eq_true e6; dsimp only; omega)
         ·
          refine wc_seq (wc_region (wl_ok (r_move (v := (.int .i64 (x35))) rfl) (wl_ok (r_eql rfl rfl) (wl_nil (then_normal (wc_ifb hs rfl (fun c38 hs => ?_) (fun c38 hs => ?_)))))))
          ·
           refine wc_region (wl_ok (r_fieldAddr Fld147x5 rfl) (wl_ok (r_ldB h 8 rfl One111 rfl rfl) (wl_ok (r_move (v := vb) rfl) (wl_ok (r_move (v := (.int .i64 (c))) rfl) ?_))))
           obtain ⟨y39, e40, hs⟩ := o_bind hs
           refine w_call fnOk129 rfl rfl (ih _ _ h.lt u19 x3.b (h.rdS 7 rfl) vb b (h.srS 2 rfl) c _ e40) ?_
           rintro _ w ⟨k41, rfl⟩
           refine ⟨_, rfl, ?_⟩
           replace h := h.grow k41
           refine wl_ok (r_assign (v := (.int .i64 (y39))) rfl) (wl_nil (then_loop ?_))
           exact jend y39 ⟨h.cn _, hs⟩
          ·
           refine wc_skip (then_loop ?_)
           exact jend x35 ⟨h.cn _, hs⟩
        ·
         refine wc_seq (wc_region (wl_ok (r_move (v := (.int .i64 (x34))) rfl) (wl_ok (r_eql rfl rfl) (wl_nil (then_normal (wc_ifb hs rfl (fun c42 hs => ?_) (fun c42 hs => ?_)))))))
         ·
          refine wc_region (wl_ok (r_fieldAddr Fld147x4 rfl) (wl_ok (r_ldB h 8 rfl One111 rfl rfl) (wl_ok (r_move (v := vb) rfl) (wl_ok (r_move (v := (.int .i64 (c))) rfl) ?_))))
          obtain ⟨y43, e44, hs⟩ := o_bind hs
          refine w_call fnOk129 rfl rfl (ih _ _ h.lt u17 x3.a (h.rdS 6 rfl) vb b (h.srS 2 rfl) c _ e44) ?_
          rintro _ w ⟨k45, rfl⟩
          refine ⟨_, rfl, ?_⟩
          replace h := h.grow k45
          refine wl_ok (r_assign (v := (.int .i64 (y43))) rfl) (wl_nil (then_loop ?_))
          exact jend y43 ⟨h.cn _, hs⟩
         ·
          refine wc_skip (then_loop ?_)
          exact jend x34 ⟨h.cn _, hs⟩
       ·
        refine wc_seq (wc_region (wl_ok (r_move (v := (.int .i64 (x33))) rfl) (wl_ok (r_eql rfl rfl) (wl_ok (r_move (v := (.bool (decide ((x33 : Int) = 0)))) rfl) (wl_gd0 rfl rfl (fun q => r_move (v := (.func (.func 144) #[] #[(.pointer (some ⟨b23, 0, none⟩))])) rfl) (w_callH0 [(.pointer (some ⟨b23, 0, none⟩))] rfl rfl fnOk144 (fun q => (gvt q)) (fun q => la_cons rfl rfl) (wandererref_checkStmts_1_70_c _ _ h.lt ((lk x3.kind ([(1, [78, 69]), (2, [78, 69, 70]), (3, [69]), (4, []), (5, [69]), (6, [69, 65, 66]), (7, [69, 65]), (8, [69])] : List (Int × Str))).getD []) b23 (h.blkAt 10 rfl) _ rfl) fun w k46 => ?_))))))
        replace h := h.grow k46
        refine wl_ok (r_pand rfl rfl evc) (wl_nil (then_normal (wc_ifb hs rfl (fun c47 hs => ?_) (fun c47 hs => ?_))))
        ·
         refine wc_region (wl_ok (r_fieldAddr Fld147x3 rfl) (wl_ok (r_ldB h 8 rfl One145 rfl rfl) (wl_ok (r_move (v := vb) rfl) (wl_ok (r_move (v := (.int .i64 (c))) rfl) ?_))))
         obtain ⟨y48, e49, hs⟩ := o_bind hs
         refine w_call fnOk146 rfl rfl (wandererref_CheckExpr_c N _ _ h.lt u15 x3.f (h.rdS 5 rfl) vb b (h.srS 2 rfl) c _ e49) ?_
         rintro _ w ⟨k50, rfl⟩
         refine ⟨_, rfl, ?_⟩
         replace h := h.grow k50
         refine wl_ok (r_assign (v := (.int .i64 (y48))) rfl) (wl_nil (then_loop ?_))
         exact jend y48 ⟨h.cn _, hs⟩
        ·
         refine wc_skip (then_loop ?_)
         exact jend x33 ⟨h.cn _, hs⟩
      ·
       refine wc_seq (wc_region (wl_ok (r_move (v := (.func (.func 144) #[] #[(.pointer (some ⟨b23, 0, none⟩))])) rfl) (w_callIn (args := [(strV [69]), (.pointer (some ⟨b23, 0, none⟩))]) fnOk144 rfl rfl (calls_start (args := [(strV [69]), (.pointer (some ⟨b23, 0, none⟩))]) Tryz.func144 rfl Tryz.ntmps144 (Nat.le_of_ble_eq_true rfl) (wc_seq (wc_region (wl_ok (r_assign (v := (.bool (false))) rfl) (wl_nil (then_normal (wc_seq (wc_region (wl_ok (r_ldB h 10 rfl One9 rfl rfl) (wl_ok (r_move (v := (strV [69])) rfl) (w_call fnOk145 rfl rfl (strings_Contains_c _ _ h.lt ((lk x3.kind ([(1, [78, 69]), (2, [78, 69, 70]), (3, [69]), (4, []), (5, [69]), (6, [69, 65, 66]), (7, [69, 65]), (8, [69])] : List (Int × Str))).getD []) 69 _ rfl) ?_))))))))))))))
       rintro _ w ⟨k51, rfl⟩
       refine ⟨_, rfl, ?_⟩
       replace h := h.grow k51
       refine wl_ok (r_assign (v := (.bool ((hasB ((lk x3.kind ([(1, [78, 69]), (2, [78, 69, 70]), (3, [69]), (4, []), (5, [69]), (6, [69, 65, 66]), (7, [69, 65]), (8, [69])] : List (Int × Str))).getD []) 69)))) rfl) (wl_nil (then_normal (wc_ret (fin1 (v := (.bool ((hasB ((lk x3.kind ([(1, [78, 69]), (2, [78, 69, 70]), (3, [69]), (4, []), (5, [69]), (6, [69, 65, 66]), (7, [69, 65]), (8, [69])] : List (Int × Str))).getD []) 69)))) Tryz.results144 rfl (⟨_, rfl, ?_⟩)))))
       refine wl_nil (then_normal (wc_ifb hs rfl (fun c52 hs => ?_) (fun c52 hs => ?_)))
       ·
        refine wc_region (wl_ok (r_fieldAddr Fld147x2 rfl) (wl_ok (r_ldB h 8 rfl One145 rfl rfl) (wl_ok (r_move (v := vb) rfl) (wl_ok (r_move (v := (.int .i64 (c))) rfl) ?_))))
        obtain ⟨y53, e54, hs⟩ := o_bind hs
        refine w_call fnOk146 rfl rfl (wandererref_CheckExpr_c N _ _ h.lt u13 x3.e (h.rdS 4 rfl) vb b (h.srS 2 rfl) c _ e54) ?_
        rintro _ w ⟨k55, rfl⟩
        refine ⟨_, rfl, ?_⟩
        replace h := h.grow k55
        refine wl_ok (r_assign (v := (.int .i64 (y53))) rfl) (wl_nil (then_loop ?_))
        exact jend y53 ⟨h.cn _, hs⟩
       ·
        refine wc_skip (then_loop ?_)
        exact jend 0 ⟨h.cn _, hs⟩
   ·
    rw [drop_ge (hik ▸ e6), each_nil] at hs
    refine wc_exit (then_exit (then_exit (inBlock_eq (then_normal (wc_seq (wc_region (wl_ok (r_assign (v := (.int .i64 (0))) rfl) (wl_nil (then_normal (wc_ret (fin1 (v := (.int .i64 (0))) Tryz.results129 rfl ?_)))))))))))
    obtain rfl := Option.some.inj hs
    exact ⟨h.grown, rfl⟩
def wandererref_CheckSource_b5 (N : Nat) (a : List Fun) (x23 : Fun) (s : Unit) (nx25 : Unit → Option Int) : Option Int :=
  (wandererref_sized N x23.body 4).bind fun y36 => bif (!y36.2) then some 2 else (wandererref_checkStmts N x23.body a x23.locals).bind fun y40 => bif decide ((y40 : Int) ≠ 0) then some y40 else nx25 ()
def wandererref_CheckSource_k6 (s : Unit) : Option Int :=
  some 0
def wandererref_CheckSource_b7 (i4 : Int) (x5 : Fun) (s : Unit) (nx7 : Unit → Option Int) : Option Int :=
  bif (((!(wandererref_in x5.params 0 3)) || (!(wandererref_in x5.locals x5.params 6))) || (decide ((i4 : Int) = 0) && decide ((x5.params : Int) ≠ 0))) then some 3 else nx7 ()
def wandererref_CheckSource_k8 (N : Nat) (a : List Fun) (s : Unit) : Option Int :=
  each (wandererref_CheckSource_b5 N a) wandererref_CheckSource_k6 a ()
def wandererref_CheckSource (N : Nat) (a : List Fun) : Option Int :=
  bif (!(wandererref_in (a.length : Int) 1 4)) then some 2 else eachI wandererref_CheckSource_b7 (wandererref_CheckSource_k8 N a) 0 a ()
theorem wandererref_CheckSource_c (N : Nat) (w0 : World) (M : BS) (hM : ∀ b, M b → b < w0.heap.size) (va : Value) (a : List Fun) (ha : Rd2 rFun w0 BE M va a) (r : Int) (hs : wandererref_CheckSource N a = some r) :
    Calls Tryz.prog 112 #[va] w0 (fun e w' => Grow w0 w' ∧ e = .returned (.int .i64 r)) := by
 refine calls_start (args := [va]) Tryz.func112 rfl Tryz.ntmps112 (Nat.le_of_ble_eq_true rfl) ?_
 have h := SH.init hM
 replace h := h.argSr 1 ha none_own
 have hl_a := ha.len_le
 refine wc_seq (wc_region (wl_ok (r_assign (v := (.int .i64 (0))) rfl) (wl_nil (then_normal (wc_seq (wc_seq (wc_region (wl_ok (r_move (v := va) rfl) (wl_ok (r_len SliceOf67 rfl (h.srS 1 rfl)) (w_call fnOk51 rfl rfl (wandererref_in_c _ _ h.lt (a.length : Int) 1 4 _ rfl) ?_))))))))))
 rintro _ w ⟨k1, rfl⟩
 refine ⟨_, rfl, ?_⟩
 replace h := h.grow k1
 refine wl_ok (r_notb rfl) (wl_nil (then_normal (wc_ifb hs rfl (fun c2 hs => ?_) (fun c2 hs => ?_))))
 ·
  refine wc_seq (wc_region (wl_ok (r_assign (v := (.int .i64 (2))) rfl) (wl_nil (then_normal (wc_ret (then_ret (fin1 (v := (.int .i64 (2))) Tryz.results112 rfl ?_)))))))
  obtain rfl := Option.some.inj hs
  exact ⟨h.grown, rfl⟩
 ·
  refine wc_skip (then_normal (wc_seq (wc_seq (wc_region (wl_ok (r_move (v := va) rfl) (wl_ok (r_len SliceOf67 rfl (h.srS 1 rfl)) (wl_ok (r_move (v := (.int .i64 (0))) rfl) (wl_nil (then_normal (wc_block (wc_lp (σ := Nat × Int) (inl [2, 3, 4, 16, 17, 18, 19, 20, 21, 22, 23, 24, 25, 26, 27, 28, 29, 30, 31, 32, 33, 34, 35, 36, 37, 38, 39, 40, 41, 42]) (fun ⟨k3, i4⟩ => [(16, (.int .i64 (i4)))]) (fun ⟨k3, i4⟩ w => SH w0 M BE w (hset [(1, .sr rFun va a)]) ∧ i4 = (k3 : Int) ∧ eachI wandererref_CheckSource_b7 (wandererref_CheckSource_k8 N a) i4 (a.drop k3) () = some r) (fun ⟨k3, i4⟩ => a.length - k3) ⟨0, 0⟩ ⟨rfl, trivial⟩ ?_ ?_)))))))))))
  ·
   exact ⟨h.cn _, rfl, hs⟩
  ·
   rintro ⟨k3, i4⟩ w junk ⟨h, hik, hs⟩
   refine wc_seq (wc_region ?_)
   refine wl_ok (r_lss rfl rfl) (wl_nil (then_normal ?_))
   refine wc_seq (wc_if rfl (fun e8 => ?_) (fun e8 => ?_))
   ·
    refine wc_skip (then_normal ?_)
    obtain ⟨x5, e9a, e9b⟩ := drop_lt (hik ▸ e8)
    rw [e9b, eachI_cons] at hs
    generalize hnx7 : eachI wandererref_CheckSource_b7 (wandererref_CheckSource_k8 N a) (i4 + 1) (a.drop (k3 + 1)) = nx7 at hs
    have e9r := nat_rng ((h.srS 1 rfl)).len_le hik e8
    refine wc_seq (wc_block (wc_seq (wc_region (wl_ok (r_move (v := (.int .i64 (i4))) rfl) ?_))))
    obtain ⟨b11, o12, cs13, h, r14, i10⟩ := h.ixS 1 2 rfl SliceOf67 rfl (nat_nn hik) (get_nat hik e9a)
    obtain ⟨u15, rfl, g16⟩ := rFun_open r14
    replace h := h.knowRd 3 g16.up
    refine wl_ok (i10 _ _ _ _ _ _ _ _ _ rfl rfl) (wl_ok (r_ldPN (k := 0) (vs := [(.int .i64 (x5.params)), (.int .i64 (x5.locals)), u15]) h 2 rfl Many113 rfl rfl rfl (Nat.le_of_ble_eq_true rfl)) (w_allocN h 4 Many113 fun w b17 h => wl_ok (r_assign (v := (.int .i64 (i4))) rfl) (w_stN (vs := [(.int .i64 (x5.params)), (.int .i64 (x5.locals)), u15]) h 4 [(.int .i64 (x5.params)), (.int .i64 (x5.locals)), u15] rfl Many113 rfl rfl rfl rfl rfl (ones_cons rfl (ones_cons rfl (ones_cons (h.rdAt 3 rfl).one ones_nil))) fun w h => wl_nil (then_normal (wc_seq (wc_region (wl_ok (r_fieldAddr Fld113x0 rfl) (wl_ok (r_ldB h 4 rfl One3 rfl rfl) (w_call fnOk51 rfl rfl (wandererref_in_c _ _ h.lt x5.params 0 3 _ rfl) ?_)))))))))
    rintro _ w ⟨k18, rfl⟩
    refine ⟨_, rfl, ?_⟩
    replace h := h.grow k18
    refine wl_ok (r_notb rfl) (wl_ok (r_move (v := (.bool ((!(wandererref_in x5.params 0 3))))) rfl) (wl_gd0 rfl rfl (fun q => r_fieldAddr Fld113x1 rfl) (wl_gd0 rfl rfl (fun q => r_ldB h 4 rfl One3 (gvt q) rfl) (wl_gd0 rfl rfl (fun q => r_fieldAddr Fld113x0 rfl) (wl_gd0 rfl rfl (fun q => r_ldB h 4 rfl One3 (gvt q) rfl) (w_callG0 rfl rfl fnOk51 rfl (fun q => la_cons (gvt q) (la_cons (gvt q) (la_cons rfl rfl))) (wandererref_in_c _ _ h.lt x5.locals x5.params 6 _ rfl) fun w k19 => ?_))))))
    replace h := h.grow k19
    refine wl_gd0 rfl rfl (fun q => r_notb (gvt q)) (wl_ok (r_por rfl rfl evc) (wl_ok (r_move (v := (.bool (((!(wandererref_in x5.params 0 3)) || (!(wandererref_in x5.locals x5.params 6)))))) rfl) (wl_gd0 rfl rfl (fun q => r_move (v := (.int .i64 (i4))) rfl) (wl_gd0 rfl rfl (fun q => r_eql (gvt q) rfl) (wl_gd0 rfl rfl (fun q => r_move (v := (.bool (decide ((i4 : Int) = 0)))) (gvt q)) (wl_gd (((!(wandererref_in x5.params 0 3)) || (!(wandererref_in x5.locals x5.params 6))) == false) rfl rfl (fun q => r_fieldAddr Fld113x0 rfl) (wl_gd (((!(wandererref_in x5.params 0 3)) || (!(wandererref_in x5.locals x5.params 6))) == false) rfl rfl (fun q => r_ldB h 4 rfl One3 (gvt q) rfl) (wl_gd (((!(wandererref_in x5.params 0 3)) || (!(wandererref_in x5.locals x5.params 6))) == false) rfl rfl (fun q => r_neq (gvt q) rfl) (wl_gd0 rfl rfl (fun q => r_pand (gvt q) (gvn q) evc) (wl_ok (r_por rfl rfl evc) (wl_nil (then_normal (wc_ifb hs rfl (fun c20 hs => ?_) (fun c20 hs => ?_))))))))))))))
    ·
     refine wc_seq (wc_region (wl_ok (r_assign (v := (.int .i64 (3))) rfl) (wl_nil (then_normal (wc_ret (inBlock_ret (then_ret (then_ret (inBlock_ret (then_ret (fin1 (v := (.int .i64 (3))) Tryz.results112 rfl ?_)))))))))))
     obtain rfl := Option.some.inj hs
     exact ⟨h.grown, rfl⟩
    ·
     refine wc_skip (inBlock_normal (then_normal (wc_region (wl_ok (r_add rfl rfl e9r) (wl_ok (r_move (v := (.int .i64 ((i4 + 1)))) rfl) (wl_nil (then_loop ?_)))))))
     subst hnx7
     exact lend ⟨k3 + 1, i4 + 1⟩ ⟨h.cn _, by omega, hs⟩ (by have := of_decide_eq_true e8; dsimp only; omega)
   ·
    rw [drop_ge (hik ▸ e8), eachI_nil] at hs
    refine wc_exit (then_exit (then_exit (inBlock_eq (then_normal (wc_seq (wc_seq (wc_region (wl_ok (r_move (v := va) rfl) (wl_ok (r_len SliceOf67 rfl (h.srS 1 rfl)) (wl_ok (r_move (v := (.int .i64 (0))) rfl) (wl_nil (then_normal (wc_block (wc_lp (σ := Nat × Int) (inl [2, 6, 7, 8, 9, 45, 46, 47, 48, 49, 50, 51, 52, 53, 54, 55, 56, 57, 58, 59, 60, 61, 62, 63, 64, 65, 66]) (fun ⟨k21, i22⟩ => [(45, (.int .i64 (i22)))]) (fun ⟨k21, i22⟩ w => SH w0 M BE w (hset [(1, .sr rFun va a)]) ∧ i22 = (k21 : Int) ∧ each (wandererref_CheckSource_b5 N a) wandererref_CheckSource_k6 (a.drop k21) () = some r) (fun ⟨k21, i22⟩ => a.length - k21) ⟨0, 0⟩ ⟨rfl, trivial⟩ ?_ ?_))))))))))))))
    ·
     exact ⟨h.cn _, rfl, hs⟩
    ·
     rintro ⟨k21, i22⟩ w junk ⟨h, hik, hs⟩
     refine wc_seq (wc_region ?_)
     refine wl_ok (r_lss rfl rfl) (wl_nil (then_normal ?_))
     refine wc_seq (wc_if rfl (fun e26 => ?_) (fun e26 => ?_))
     ·
      refine wc_skip (then_normal ?_)
      obtain ⟨x23, e27a, e27b⟩ := drop_lt (hik ▸ e26)
      rw [e27b, each_cons] at hs
      generalize hnx25 : each (wandererref_CheckSource_b5 N a) wandererref_CheckSource_k6 (a.drop (k21 + 1)) = nx25 at hs
      have e27r := nat_rng ((h.srS 1 rfl)).len_le hik e26
      refine wc_seq (wc_block (wc_seq (wc_region ?_)))
      obtain ⟨b29, o30, cs31, h, r32, i28⟩ := h.ixS 1 5 rfl SliceOf67 rfl (nat_nn hik) (get_nat hik e27a)
      obtain ⟨u33, rfl, g34⟩ := rFun_open r32
      replace h := h.knowRd 6 g34.up
      refine wl_ok (i28 _ _ _ _ _ _ _ _ _ rfl rfl) (wl_ok (r_ldPN (k := 0) (vs := [(.int .i64 (x23.params)), (.int .i64 (x23.locals)), u33]) h 5 rfl Many113 rfl rfl rfl (Nat.le_of_ble_eq_true rfl)) (w_allocN h 7 Many113 fun w b35 h => w_stN (vs := [(.int .i64 (x23.params)), (.int .i64 (x23.locals)), u33]) h 7 [(.int .i64 (x23.params)), (.int .i64 (x23.locals)), u33] rfl Many113 rfl rfl rfl rfl rfl (ones_cons rfl (ones_cons rfl (ones_cons (h.rdAt 6 rfl).one ones_nil))) fun w h => wl_nil (then_normal (wc_seq (wc_seq (wc_region (wl_ok (r_fieldAddr Fld113x2 rfl) (wl_ok (r_ldB h 7 rfl One111 rfl rfl) ?_))))))))
      obtain ⟨y36, e37, hs⟩ := o_bind hs
      refine w_call fnOk128 rfl rfl (wandererref_sized_c N _ _ h.lt u33 x23.body (h.rdS 6 rfl) 4 _ e37) ?_
      rintro _ w ⟨k38, rfl⟩
      refine ⟨_, rfl, ?_⟩
      replace h := h.grow k38
      refine wl_ok (r_move (v := (.tuple #[(.int .i64 (y36.1)), (.bool (y36.2))])) rfl) (wl_ok (r_extract rfl rfl) (wl_ok (r_extract rfl rfl) (wl_ok (r_assign (v := (.int .i64 (y36.1))) rfl) (wl_ok (r_assign (v := (.bool (y36.2))) rfl) (wl_nil (then_normal (wc_seq (wc_region (wl_ok (r_move (v := (.bool (y36.2))) rfl) (wl_ok (r_notb rfl) (wl_nil (then_normal (wc_ifb hs rfl (fun c39 hs => ?_) (fun c39 hs => ?_))))))))))))))
      ·
       refine wc_seq (wc_region (wl_ok (r_assign (v := (.int .i64 (2))) rfl) (wl_nil (then_normal (wc_ret (then_ret (inBlock_ret (then_ret (then_ret (inBlock_ret (then_ret (fin1 (v := (.int .i64 (2))) Tryz.results112 rfl ?_))))))))))))
       obtain rfl := Option.some.inj hs
       exact ⟨h.grown, rfl⟩
      ·
       refine wc_skip (then_normal (wc_seq (wc_region (wl_ok (r_fieldAddr Fld113x2 rfl) (wl_ok (r_ldB h 7 rfl One111 rfl rfl) (wl_ok (r_move (v := va) rfl) (wl_ok (r_fieldAddr Fld113x1 rfl) (wl_ok (r_ldB h 7 rfl One3 rfl rfl) ?_))))))))
       obtain ⟨y40, e41, hs⟩ := o_bind hs
       refine w_call fnOk129 rfl rfl (wandererref_checkStmts_c N _ _ h.lt u33 x23.body (h.rdS 6 rfl) va a (h.srS 1 rfl) x23.locals _ e41) ?_
       rintro _ w ⟨k42, rfl⟩
       refine ⟨_, rfl, ?_⟩
       replace h := h.grow k42
       refine wl_ok (r_assign (v := (.int .i64 (y40))) rfl) (wl_nil (then_normal (wc_seq (wc_region (wl_ok (r_move (v := (.int .i64 (y40))) rfl) (wl_ok (r_neq rfl rfl) (wl_nil (then_normal (wc_ifb hs rfl (fun c43 hs => ?_) (fun c43 hs => ?_))))))))))
       ·
        refine wc_seq (wc_region (wl_ok (r_move (v := (.int .i64 (y40))) rfl) (wl_ok (r_assign (v := (.int .i64 (y40))) rfl) (wl_nil (then_normal (wc_ret (inBlock_ret (then_ret (then_ret (inBlock_ret (then_ret (fin1 (v := (.int .i64 (y40))) Tryz.results112 rfl ?_))))))))))))
        obtain rfl := Option.some.inj hs
        exact ⟨h.grown, rfl⟩
       ·
        refine wc_skip (inBlock_normal (then_normal (wc_region (wl_ok (r_add rfl rfl e27r) (wl_ok (r_move (v := (.int .i64 ((i22 + 1)))) rfl) (wl_nil (then_loop ?_)))))))
        subst hnx25
        exact lend ⟨k21 + 1, i22 + 1⟩ ⟨h.cn _, by omega, hs⟩ (by have := of_decide_eq_true e26; dsimp only; omega)
     ·
      rw [drop_ge (hik ▸ e26), each_nil] at hs
      refine wc_exit (then_exit (then_exit (inBlock_eq (then_normal (wc_seq (wc_region (wl_ok (r_assign (v := (.int .i64 (0))) rfl) (wl_nil (then_normal (wc_ret (fin1 (v := (.int .i64 (0))) Tryz.results112 rfl ?_)))))))))))
      obtain rfl := Option.some.inj hs
      exact ⟨h.grown, rfl⟩
theorem strconv_Itoa_c (w0 : World) (M : BS) (hM : ∀ b, M b → b < w0.heap.size) (hT : Tabs Tryz.prog 4 w0) (a : Int) (r : Str) (hs : itoaS a = some r) :
    Calls Tryz.prog 125 #[.int .i64 a] w0 (fun e w' => Grow w0 w' ∧ e = .returned (strV r)) :=
  itoa_w Tryz.strconv_Itoa hT hs
theorem strings_Fields_c (w0 : World) (M : BS) (hM : ∀ b, M b → b < w0.heap.size) (hT : Tabs Tryz.prog 4 w0) (a : Str) (r : List Str) (hs : fieldsS a = some r) :
    Calls Tryz.prog 111 #[strV a] w0 (fun e w' => Grow w0 w' ∧ ∃ u, e = .returned u ∧ RdSl rStr w' M u r) :=
  fields_w Tryz.strings_Fields (q := 0) (by kernel_rfl) hM hT hs
def wandererref_TokText (a : Tok) : Option Str :=
  (itoaS a.n).bind fun y2 => bif decide ((a.kind : Int) = 2) then grd ([118].length + y2.length ≤ 9223372036854775807) (some ([118] ++ y2)) else bif decide ((a.kind : Int) = 3) then grd (I64 (a.n + 1)) ((subs? [63, 43, 45, 42, 60, 61] a.n (a.n + 1)).bind fun x9 => some x9) else bif decide ((a.kind : Int) = 4) then grd ([46].length + y2.length ≤ 9223372036854775807) (some ([46] ++ y2)) else bif decide ((a.kind : Int) = 5) then grd ([110, 101, 119].length + y2.length ≤ 9223372036854775807) (some ([110, 101, 119] ++ y2)) else bif decide ((a.kind : Int) = 6) then grd ([102].length + y2.length ≤ 9223372036854775807) (some ([102] ++ y2)) else some y2
theorem wandererref_TokText_c (w0 : World) (M : BS) (hM : ∀ b, M b → b < w0.heap.size) (hT : Tabs Tryz.prog 4 w0) (a : Tok) (r : Str) (hs : wandererref_TokText a = some r) :
    Calls Tryz.prog 106 #[(.agg #[(.int .i64 (a.kind)), (.int .i64 (a.n))])] w0 (fun e w' => Grow w0 w' ∧ e = .returned (strV r)) := by
 refine calls_start (args := [(.agg #[(.int .i64 (a.kind)), (.int .i64 (a.n))])]) Tryz.func106 rfl Tryz.ntmps106 (Nat.le_of_ble_eq_true rfl) ?_
 have h := SH.init hM
 refine wc_seq (wc_region (w_box (cs := [(.int .i64 (a.kind)), (.int .i64 (a.n))]) h 1 rfl rfl fun w b1 h => wl_ok (r_assign (v := (strV [])) rfl) (wl_nil (then_normal (wc_seq (wc_region (wl_ok (r_fieldAddr Fld160x1 rfl) (wl_ok (r_ldB h 1 rfl One3 rfl rfl) ?_))))))))
 obtain ⟨y2, e3, hs⟩ := o_bind hs
 refine w_call fnOk125 rfl rfl (strconv_Itoa_c _ _ h.lt (hT.go h.keep) a.n _ e3) ?_
 rintro _ w ⟨k4, rfl⟩
 refine ⟨_, rfl, ?_⟩
 replace h := h.grow k4
 refine wl_ok (r_assign (v := (strV y2)) rfl) (wl_nil (then_normal (wc_seq (wc_seq (wc_region (wl_ok (r_fieldAddr Fld160x0 rfl) (wl_ok (r_ldB h 1 rfl One3 rfl rfl) (wl_nil (then_normal (wc_block (wc_seq (wc_region (wl_ok (r_eql rfl rfl) (wl_ok (r_assign (v := (.bool (decide ((a.kind : Int) = 2)))) rfl) (wl_nil (then_normal (wc_ifb hs rfl (fun c5 hs => ?_) (fun c5 hs => ?_))))))))))))))))))
 ·
  refine wc_seq (wc_region (wl_ok (r_move (v := (strV y2)) rfl) ?_))
  obtain ⟨a6, hs⟩ := o_grd hs
  refine wl_ok (r_adds rfl rfl a6) (wl_ok (r_assign (v := (strV ([118] ++ y2))) rfl) (wl_nil (then_normal (wc_ret (inBlock_ret (then_ret (fin1 (v := (strV ([118] ++ y2))) Tryz.results106 rfl ?_)))))))
  obtain rfl := Option.some.inj hs
  exact ⟨h.grown, rfl⟩
 ·
  refine wc_seq (wc_region (wl_ok (r_eql rfl rfl) (wl_ok (r_assign (v := (.bool (decide ((a.kind : Int) = 3)))) rfl) (wl_nil (then_normal (wc_ifb hs rfl (fun c7 hs => ?_) (fun c7 hs => ?_)))))))
  ·
   refine wc_seq (wc_region (wl_ok (r_fieldAddr Fld160x1 rfl) (wl_ok (r_ldB h 1 rfl One3 rfl rfl) (wl_ok (r_fieldAddr Fld160x1 rfl) (wl_ok (r_ldB h 1 rfl One3 rfl rfl) ?_)))))
   obtain ⟨a8, hs⟩ := o_grd hs
   refine wl_ok (r_add rfl rfl a8) ?_
   obtain ⟨x9, e10, hs⟩ := o_bind hs
   obtain ⟨e11a, e11b, e11c, e11⟩ := o_subs e10
   refine wl_ok (r_slsE e11 Tryz.underlying9 rfl (.inr (congrArg some rfl)) (.inr (congrArg some rfl)) e11a e11b e11c) (wl_ok (r_assign (v := (strV x9)) rfl) (wl_nil (then_normal (wc_ret (inBlock_ret (then_ret (fin1 (v := (strV x9)) Tryz.results106 rfl ?_)))))))
   obtain rfl := Option.some.inj hs
   exact ⟨h.grown, rfl⟩
  ·
   refine wc_seq (wc_region (wl_ok (r_eql rfl rfl) (wl_ok (r_assign (v := (.bool (decide ((a.kind : Int) = 4)))) rfl) (wl_nil (then_normal (wc_ifb hs rfl (fun c12 hs => ?_) (fun c12 hs => ?_)))))))
   ·
    refine wc_seq (wc_region (wl_ok (r_move (v := (strV y2)) rfl) ?_))
    obtain ⟨a13, hs⟩ := o_grd hs
    refine wl_ok (r_adds rfl rfl a13) (wl_ok (r_assign (v := (strV ([46] ++ y2))) rfl) (wl_nil (then_normal (wc_ret (inBlock_ret (then_ret (fin1 (v := (strV ([46] ++ y2))) Tryz.results106 rfl ?_)))))))
    obtain rfl := Option.some.inj hs
    exact ⟨h.grown, rfl⟩
   ·
    refine wc_seq (wc_region (wl_ok (r_eql rfl rfl) (wl_ok (r_assign (v := (.bool (decide ((a.kind : Int) = 5)))) rfl) (wl_nil (then_normal (wc_ifb hs rfl (fun c14 hs => ?_) (fun c14 hs => ?_)))))))
    ·
     refine wc_seq (wc_region (wl_ok (r_move (v := (strV y2)) rfl) ?_))
     obtain ⟨a15, hs⟩ := o_grd hs
     refine wl_ok (r_adds rfl rfl a15) (wl_ok (r_assign (v := (strV ([110, 101, 119] ++ y2))) rfl) (wl_nil (then_normal (wc_ret (inBlock_ret (then_ret (fin1 (v := (strV ([110, 101, 119] ++ y2))) Tryz.results106 rfl ?_)))))))
     obtain rfl := Option.some.inj hs
     exact ⟨h.grown, rfl⟩
    ·
     refine wc_seq (wc_region (wl_ok (r_eql rfl rfl) (wl_ok (r_assign (v := (.bool (decide ((a.kind : Int) = 6)))) rfl) (wl_nil (then_normal (wc_ifb hs rfl (fun c16 hs => ?_) (fun c16 hs => ?_)))))))
     ·
      refine wc_seq (wc_region (wl_ok (r_move (v := (strV y2)) rfl) ?_))
      obtain ⟨a17, hs⟩ := o_grd hs
      refine wl_ok (r_adds rfl rfl a17) (wl_ok (r_assign (v := (strV ([102] ++ y2))) rfl) (wl_nil (then_normal (wc_ret (inBlock_ret (then_ret (fin1 (v := (strV ([102] ++ y2))) Tryz.results106 rfl ?_)))))))
      obtain rfl := Option.some.inj hs
      exact ⟨h.grown, rfl⟩
     ·
      refine wc_skip (inBlock_normal (then_normal (wc_seq (wc_region (wl_ok (r_move (v := (strV y2)) rfl) (wl_ok (r_assign (v := (strV y2)) rfl) (wl_nil (then_normal (wc_ret (fin1 (v := (strV y2)) Tryz.results106 rfl ?_))))))))))
      obtain rfl := Option.some.inj hs
      exact ⟨h.grown, rfl⟩
def wandererref_exprText_b3 (x7 : Tok) (x4 : Str) (nx9 : Str → Option Str) : Option Str :=
  (wandererref_TokText x7).bind fun y18 => grd ([32].length + y18.length ≤ 9223372036854775807) (grd (x4.length + ([32] ++ y18).length ≤ 9223372036854775807) (nx9 (x4 ++ ([32] ++ y18))))
def wandererref_exprText_k4 (x4 : Str) : Option Str :=
  some x4
def wandererref_exprText (a : List Tok) : Option Str :=
  each wandererref_exprText_b3 wandererref_exprText_k4 a []
theorem wandererref_exprText_c (w0 : World) (M : BS) (hM : ∀ b, M b → b < w0.heap.size) (hT : Tabs Tryz.prog 4 w0) (va : Value) (a : List Tok) (ha : Rd2 rTok w0 BE M va a) (r : Str) (hs : wandererref_exprText a = some r) :
    Calls Tryz.prog 147 #[va] w0 (fun e w' => Grow w0 w' ∧ e = .returned (strV r)) := by
 refine calls_start (args := [va]) Tryz.func147 rfl Tryz.ntmps147 (Nat.le_of_ble_eq_true rfl) ?_
 have h := SH.init hM
 replace h := h.argSr 1 ha none_own
 have hl_a := ha.len_le
 refine wc_seq (wc_region (wl_ok (r_assign (v := (strV [])) rfl) (wl_nil (then_normal (wc_seq (wc_region (wl_ok (r_assign (v := (strV [])) rfl) (wl_nil (then_normal (wc_seq (wc_seq (wc_region (wl_ok (r_move (v := va) rfl) (wl_ok (r_len SliceOf145 rfl (h.srS 1 rfl)) (wl_ok (r_move (v := (.int .i64 (0))) rfl) (wl_nil (then_normal (wc_block (wc_lp (σ := Nat × Int × Str) (inl [3, 5, 8, 9, 10, 11, 12, 13, 14, 15, 16, 17]) (fun ⟨k5, i6, x4⟩ => [(3, (strV x4)), (8, (.int .i64 (i6)))]) (fun ⟨k5, i6, x4⟩ w => SH w0 M BE w (hset [(1, .sr rTok va a)]) ∧ i6 = (k5 : Int) ∧ each wandererref_exprText_b3 wandererref_exprText_k4 (a.drop k5) x4 = some r) (fun ⟨k5, i6, x4⟩ => a.length - k5) ⟨0, 0, []⟩ ⟨rfl, rfl, trivial⟩ ?_ ?_)))))))))))))))))))
 ·
  exact ⟨h.cn _, rfl, hs⟩
 ·
  rintro ⟨k5, i6, x4⟩ w junk ⟨h, hik, hs⟩
  refine wc_seq (wc_region ?_)
  refine wl_ok (r_lss rfl rfl) (wl_nil (then_normal ?_))
  refine wc_seq (wc_if rfl (fun e10 => ?_) (fun e10 => ?_))
  ·
   refine wc_skip (then_normal ?_)
   obtain ⟨x7, e11a, e11b⟩ := drop_lt (hik ▸ e10)
   rw [e11b, each_cons] at hs
   generalize hnx9 : each wandererref_exprText_b3 wandererref_exprText_k4 (a.drop (k5 + 1)) = nx9 at hs
   have e11r := nat_rng ((h.srS 1 rfl)).len_le hik e10
   refine wc_seq (wc_block (wc_seq (wc_region ?_)))
   obtain ⟨b13, o14, cs15, h, r16, i12⟩ := h.ixS 1 2 rfl SliceOf145 rfl (nat_nn hik) (get_nat hik e11a)
   obtain rfl := r16
   refine wl_ok (i12 _ _ _ _ _ _ _ _ _ rfl rfl) (wl_ok (r_ldPN (k := 0) (vs := [(.int .i64 (x7.kind)), (.int .i64 (x7.n))]) h 2 rfl Many160 rfl rfl rfl (Nat.le_of_ble_eq_true rfl)) (w_allocN h 3 Many160 fun w b17 h => w_stN (vs := [(.int .i64 (x7.kind)), (.int .i64 (x7.n))]) h 3 [(.int .i64 (x7.kind)), (.int .i64 (x7.n))] rfl Many160 rfl rfl rfl rfl rfl (ones_cons rfl (ones_cons rfl ones_nil)) fun w h => wl_nil (then_normal (wc_region (wl_ok (r_move (v := (strV x4)) rfl) (wl_ok (r_ldBN (vs := [(.int .i64 (x7.kind)), (.int .i64 (x7.n))]) h 3 rfl Many160 rfl rfl rfl) ?_))))))
   obtain ⟨y18, e19, hs⟩ := o_bind hs
   refine w_call fnOk106 rfl rfl (wandererref_TokText_c _ _ h.lt (hT.go h.keep) x7 _ e19) ?_
   rintro _ w ⟨k20, rfl⟩
   refine ⟨_, rfl, ?_⟩
   replace h := h.grow k20
   obtain ⟨a21, hs⟩ := o_grd hs
   refine wl_ok (r_adds rfl rfl a21) ?_
   obtain ⟨a22, hs⟩ := o_grd hs
   refine wl_ok (r_adds rfl rfl a22) (wl_ok (r_assign (v := (strV (x4 ++ ([32] ++ y18)))) rfl) (wl_nil (inBlock_normal (then_normal (wc_region (wl_ok (r_add rfl rfl e11r) (wl_ok (r_move (v := (.int .i64 ((i6 + 1)))) rfl) (wl_nil (then_loop ?_)))))))))
   subst hnx9
   exact lend ⟨k5 + 1, i6 + 1, (x4 ++ ([32] ++ y18))⟩ ⟨h.cn _, by omega, hs⟩ (by have := of_decide_eq_true e10; dsimp only; omega)
  ·
   rw [drop_ge (hik ▸ e10), each_nil] at hs
   refine wc_exit (then_exit (then_exit (inBlock_eq (then_normal (wc_seq (wc_region (wl_ok (r_move (v := (strV x4)) rfl) (wl_ok (r_assign (v := (strV x4)) rfl) (wl_nil (then_normal (wc_ret (fin1 (v := (strV x4)) Tryz.results147 rfl ?_))))))))))))
   obtain rfl := Option.some.inj hs
   exact ⟨h.grown, rfl⟩
def wandererref_blockText_j30 (nx9 : Str → Option Str) (x12 : Str) : Option Str :=
  nx9 x12
def wandererref_blockText_j32 (F0 : List GStmt → Option Str) (x7 : GStmt) (nx9 : Str → Option Str) (x34 : Str) : Option Str :=
  bif decide ((x7.kind : Int) = 6) then (F0 x7.b).bind fun y36 => grd ([32].length + y36.length ≤ 9223372036854775807) (grd (x34.length + ([32] ++ y36).length ≤ 9223372036854775807) (wandererref_blockText_j30 nx9 (x34 ++ ([32] ++ y36)))) else wandererref_blockText_j30 nx9 x34
def wandererref_blockText_j31 (F0 : List GStmt → Option Str) (x7 : GStmt) (a : List GStmt) (nx9 : Str → Option Str) (x30 : Str) : Option Str :=
  (wandererref_exprText x7.e).bind fun yq31x3_1 => (wandererref_exprText x7.f).bind fun yq31x6_1 => grd (yq31x3_1.length + yq31x6_1.length ≤ 9223372036854775807) (grd (x30.length + (yq31x3_1 ++ yq31x6_1).length ≤ 9223372036854775807) (bif (decide ((x7.kind : Int) = 6) || decide ((x7.kind : Int) = 7)) then (F0 x7.a).bind fun y42 => grd ([32].length + y42.length ≤ 9223372036854775807) (grd ((x30 ++ (yq31x3_1 ++ yq31x6_1)).length + ([32] ++ y42).length ≤ 9223372036854775807) (wandererref_blockText_j32 F0 x7 nx9 ((x30 ++ (yq31x3_1 ++ yq31x6_1)) ++ ([32] ++ y42)))) else wandererref_blockText_j32 F0 x7 nx9 (x30 ++ (yq31x3_1 ++ yq31x6_1))))
def wandererref_blockText_b33 (F0 : List GStmt → Option Str) (a : List GStmt) (x7 : GStmt) (x4 : Str) (nx9 : Str → Option Str) : Option Str :=
  grd (I64 (x7.kind - 1)) ((fieldsS [115, 101, 116, 32, 112, 117, 116, 32, 115, 97, 121, 32, 112, 97, 117, 115, 101, 32, 103, 111, 32, 105, 102, 32, 119, 104, 105, 108, 101, 32, 114, 101, 116, 117, 114, 110]).bind fun yq27x1_1 => (idx yq27x1_1 (x7.kind - 1)).bind fun xq27x5_1 => grd ([32].length + xq27x5_1.length ≤ 9223372036854775807) (grd (x4.length + ([32] ++ xq27x5_1).length ≤ 9223372036854775807) (bif decide ((x7.kind : Int) ≤ 2) then (itoaS x7.n).bind fun y48 => grd ([32].length + y48.length ≤ 9223372036854775807) (grd ((x4 ++ ([32] ++ xq27x5_1)).length + ([32] ++ y48).length ≤ 9223372036854775807) (wandererref_blockText_j31 F0 x7 a nx9 ((x4 ++ ([32] ++ xq27x5_1)) ++ ([32] ++ y48)))) else wandererref_blockText_j31 F0 x7 a nx9 (x4 ++ ([32] ++ xq27x5_1)))))
def wandererref_blockText_k34 (x4 : Str) : Option Str :=
  grd (x4.length + [32, 125].length ≤ 9223372036854775807) (some (x4 ++ [32, 125]))
def wandererref_blockText_r (F0 : List GStmt → Option Str) (a : List GStmt) : Option Str :=
  each (wandererref_blockText_b33 F0 a) wandererref_blockText_k34 a [123]
def wandererref_blockText : Nat → List GStmt → Option Str
  | 0 => fun _ => none
  | N + 1 => wandererref_blockText_r (wandererref_blockText N)
theorem wandererref_blockText_c : ∀ (N : Nat) (w0 : World) (M : BS) (hM : ∀ b, M b → b < w0.heap.size) (hT : Tabs Tryz.prog 4 w0) (va : Value) (a : List GStmt) (ha : Rd2 rStmt w0 BE M va a) (r : Str) (hs : wandererref_blockText N a = some r),
    Calls Tryz.prog 130 #[va] w0 (fun e w' => Grow w0 w' ∧ e = .returned (strV r)) := by
  intro N
  induction N with
  | zero => intro w0 M hM hT va a ha r hs; cases hs
  | succ N ih =>
  intro w0 M hM hT va a ha r hs
  replace hs : wandererref_blockText_r (wandererref_blockText N) a = some r := hs
  generalize wandererref_blockText N = F0 at hs ih
  refine calls_start (args := [va]) Tryz.func130 rfl Tryz.ntmps130 (Nat.le_of_ble_eq_true rfl) ?_
  have h := SH.init hM
  replace h := h.argSr 1 ha none_own
  have hl_a := ha.len_le
  refine wc_seq (wc_region (wl_ok (r_assign (v := (strV [])) rfl) (wl_nil (then_normal (wc_seq (wc_region (wl_ok (r_assign (v := (strV [123])) rfl) (wl_nil (then_normal (wc_seq (wc_seq (wc_region (wl_ok (r_move (v := va) rfl) (wl_ok (r_len SliceOf111 rfl (h.srS 1 rfl)) (wl_ok (r_move (v := (.int .i64 (0))) rfl) (wl_nil (then_normal (wc_block (wc_lp (σ := Nat × Int × Str) (inl [3, 5, 8, 9, 10, 11, 12, 13, 14, 15, 16, 17, 18, 19, 20, 21, 22, 23, 24, 25, 26, 27, 28, 29, 30, 31, 32, 33, 34, 35, 36, 37, 38, 39, 40, 41, 42, 43, 44, 45, 46, 47, 48, 49, 50, 51, 52, 53, 54, 55, 56, 57, 58, 59, 60, 61, 62]) (fun ⟨k5, i6, x4⟩ => [(3, (strV x4)), (8, (.int .i64 (i6)))]) (fun ⟨k5, i6, x4⟩ w => SH w0 M BE w (hset [(1, .sr rStmt va a)]) ∧ i6 = (k5 : Int) ∧ each (wandererref_blockText_b33 F0 a) wandererref_blockText_k34 (a.drop k5) x4 = some r) (fun ⟨k5, i6, x4⟩ => a.length - k5) ⟨0, 0, [123]⟩ ⟨rfl, rfl, trivial⟩ ?_ ?_)))))))))))))))))))
  ·
   exact ⟨h.cn _, rfl, hs⟩
  ·
   rintro ⟨k5, i6, x4⟩ w junk ⟨h, hik, hs⟩
   refine wc_seq (wc_region ?_)
   refine wl_ok (r_lss rfl rfl) (wl_nil (then_normal ?_))
   refine wc_seq (wc_if rfl (fun e10 => ?_) (fun e10 => ?_))
   ·
    refine wc_skip (then_normal ?_)
    obtain ⟨x7, e11a, e11b⟩ := drop_lt (hik ▸ e10)
    rw [e11b, each_cons] at hs
    generalize hnx9 : each (wandererref_blockText_b33 F0 a) wandererref_blockText_k34 (a.drop (k5 + 1)) = nx9 at hs
    have e11r := nat_rng ((h.srS 1 rfl)).len_le hik e10
    refine wc_join (σ := Str) (inl [3, 5, 10, 11, 12, 13, 14, 15, 16, 17, 18, 19, 20, 21, 22, 23, 24, 25, 26, 27, 28, 29, 30, 31, 32, 33, 34, 35, 36, 37, 38, 39, 40, 41, 42, 43, 44, 45, 46, 47, 48, 49, 50, 51, 52, 53, 54, 55, 56, 57, 58, 59, 60, 61]) (fun x12 => [(3, (strV x12))]) (fun x12 w => SH w0 M BE w (hset [(1, .sr rStmt va a)]) ∧ wandererref_blockText_j30 nx9 x12 = some r) ?_ ?_
    ·
     rintro x12 w junk ⟨h, hs⟩
     refine wc_region (wl_ok (r_add rfl rfl e11r) (wl_ok (r_move (v := (.int .i64 ((i6 + 1)))) rfl) (wl_nil (then_loop ?_))))
     subst hnx9
     exact lend ⟨k5 + 1, i6 + 1, x12⟩ ⟨h.cn _, by omega, hs⟩ (by have := of_decide_eq_true e10; dsimp only; omega)
    ·
     refine wc_block (wc_seq (wc_region ?_))
     obtain ⟨b14, o15, cs16, h, r17, i13⟩ := h.ixS 1 2 rfl SliceOf111 rfl (nat_nn hik) (get_nat hik e11a)
     obtain ⟨u18, u20, u22, u24, rfl, g19, g21, g23, g25⟩ := rStmt_open r17
     replace h := h.knowRd 3 g19.up
     replace h := h.knowRd 4 g21.up.up
     replace h := h.knowRd 5 g23.up.up.up
     replace h := h.knowRd 6 g25.up.up.up.up
     refine wl_ok (i13 _ _ _ _ _ _ _ _ _ rfl rfl) (wl_ok (r_ldPN (k := 0) (vs := [(.int .i64 (x7.kind)), (.int .i64 (x7.n)), u18, u20, u22, u24]) h 2 rfl Many147 rfl rfl rfl (Nat.le_of_ble_eq_true rfl)) (w_allocN h 7 Many147 fun w b26 h => w_stN (vs := [(.int .i64 (x7.kind)), (.int .i64 (x7.n)), u18, u20, u22, u24]) h 7 [(.int .i64 (x7.kind)), (.int .i64 (x7.n)), u18, u20, u22, u24] rfl Many147 rfl rfl rfl rfl rfl (ones_cons rfl (ones_cons rfl (ones_cons (h.rdAt 3 rfl).one (ones_cons (h.rdAt 4 rfl).one (ones_cons (h.rdAt 5 rfl).one (ones_cons (h.rdAt 6 rfl).one ones_nil)))))) fun w h => wl_nil (then_normal (wc_seq (wc_held mixed h fun w h => wh_ok 0 (Keep.refl BE _) rfl want_none (by kernel_rfl) (by kernel_rfl) (by kernel_rfl) (fun w hk => r_move (v := (strV x4)) rfl) (wh_ok 2 (Keep.refl BE _) rfl want_none (by kernel_rfl) (by kernel_rfl) (by kernel_rfl) (fun w hk => r_fieldAddr Fld147x0 rfl) (wh_ok 3 (Keep.refl BE _) rfl want_none (by kernel_rfl) (by kernel_rfl) (by kernel_rfl) (fun w hk => have h := h.grow hk; r_ldB h 7 rfl One3 rfl rfl) ?_)))))))
     obtain ⟨aq27x4_1, hs⟩ := o_grd hs
     refine wh_ok 4 (Keep.refl BE _) rfl want_none (by kernel_rfl) (by kernel_rfl) (by kernel_rfl) (fun w hk => r_sub rfl rfl aq27x4_1) ?_
     obtain ⟨ws28, ws28e⟩ : ∃ x, x = w := ⟨_, rfl⟩
     have hg29 : Grow ws28 w := ws28e ▸ Keep.refl BE w
     refine wh_at ws28e.symm (wh_eff 1 (by kernel_rfl) rfl want_none ?_)
     obtain ⟨yq27x1_1, eq27x1_2, hs⟩ := o_bind hs
     refine w_call fnOk111 rfl rfl (strings_Fields_c _ _ h.lt (hT.go h.keep) [115, 101, 116, 32, 112, 117, 116, 32, 115, 97, 121, 32, 112, 97, 117, 115, 101, 32, 103, 111, 32, 105, 102, 32, 119, 104, 105, 108, 101, 32, 114, 101, 116, 117, 114, 110] _ eq27x1_2) ?_
     rintro _ w ⟨kq27x1_5, uq27x1_3, rfl, gq27x1_4⟩
     refine ⟨_, rfl, ?_⟩
     replace h := h.gotRd 20 kq27x1_5 gq27x1_4
     replace hg29 := hg29.trans kq27x1_5
     refine wl_nil (wh_back hg29 ?_)
     obtain ⟨xq27x5_1, eq27x5_2, hs⟩ := o_bind hs
     obtain ⟨bq27x5_4, oq27x5_5, csq27x5_6, h, rq27x5_7, iq27x5_3⟩ := h.ixR 20 68 rfl SliceOf153 rfl (o_idx eq27x5_2).1 (o_idx eq27x5_2).2
     obtain rfl := rq27x5_7
     refine wh_ok 5 hg29 rfl want_none (by kernel_rfl) (by kernel_rfl) (by kernel_rfl) (fun w hk => iq27x5_3 _ _ _ _ _ _ _ _ _ rfl rfl) (wh_base hg29 ?_)
     obtain ⟨wsq27x6_1, wsq27x6_1e⟩ : ∃ x, x = w := ⟨_, rfl⟩
     have hgq27x6_2 : Grow wsq27x6_1 w := wsq27x6_1e ▸ Keep.refl _ _
     refine wh_ok 6 (Keep.refl BE _) rfl want_none (by kernel_rfl) (by kernel_rfl) (by kernel_rfl) (fun w hk => have h := h.grow hk; r_ldP (k := 0) h 68 rfl One9 rfl rfl) ?_
     obtain ⟨aq27x7_1, hs⟩ := o_grd hs
     refine wh_ok 7 (Keep.refl BE _) rfl want_none (by kernel_rfl) (by kernel_rfl) (by kernel_rfl) (fun w hk => r_adds rfl rfl aq27x7_1) ?_
     obtain ⟨aq27x8_1, hs⟩ := o_grd hs
     refine wh_ok 8 (Keep.refl BE _) rfl want_none (by kernel_rfl) (by kernel_rfl) (by kernel_rfl) (fun w hk => r_adds rfl rfl aq27x8_1) (wh_ok 9 (Keep.refl BE _) rfl want_none (by kernel_rfl) (by kernel_rfl) (by kernel_rfl) (fun w hk => r_assign (v := (strV (x4 ++ ([32] ++ xq27x5_1)))) rfl) (wh_done (by kernel_rfl) (then_normal (wc_join (σ := Str) (inl [3, 21, 22, 23, 24, 25, 26, 27, 28, 29]) (fun x30 => [(3, (strV x30))]) (fun x30 w => SH w0 M BE w (hset [(1, .sr rStmt va a), (3, .rd rTok u18 x7.e), (4, .rd rTok u20 x7.f), (5, .rd rStmt u22 x7.a), (6, .rd rStmt u24 x7.b), (7, .blk b26 [(.int .i64 (x7.kind)), (.int .i64 (x7.n)), u18, u20, u22, u24])]) ∧ wandererref_blockText_j31 F0 x7 a nx9 x30 = some r) ?_ ?_))))
     ·
      rintro x30 w junk ⟨h, hs⟩
      refine wc_seq (wc_held mixed h fun w h => wh_ok 0 (Keep.refl BE _) rfl want_none (by kernel_rfl) (by kernel_rfl) (by kernel_rfl) (fun w hk => r_move (v := (strV x30)) rfl) (wh_ok 1 (Keep.refl BE _) rfl want_none (by kernel_rfl) (by kernel_rfl) (by kernel_rfl) (fun w hk => r_fieldAddr Fld147x2 rfl) (wh_ok 2 (Keep.refl BE _) rfl want_none (by kernel_rfl) (by kernel_rfl) (by kernel_rfl) (fun w hk => have h := h.grow hk; r_ldB h 7 rfl One145 rfl rfl) (wh_ok 4 (Keep.refl BE _) rfl want_none (by kernel_rfl) (by kernel_rfl) (by kernel_rfl) (fun w hk => r_fieldAddr Fld147x3 rfl) (wh_ok 5 (Keep.refl BE _) rfl want_none (by kernel_rfl) (by kernel_rfl) (by kernel_rfl) (fun w hk => have h := h.grow hk; r_ldB h 7 rfl One145 rfl rfl) ?_)))))
      obtain ⟨ws32, ws32e⟩ : ∃ x, x = w := ⟨_, rfl⟩
      have hg33 : Grow ws32 w := ws32e ▸ Keep.refl BE w
      refine wh_at ws32e.symm (wh_eff 3 (by kernel_rfl) rfl want_none ?_)
      obtain ⟨yq31x3_1, eq31x3_2, hs⟩ := o_bind hs
      refine w_call fnOk147 rfl rfl (wandererref_exprText_c _ _ h.lt (hT.go h.keep) u18 x7.e (h.rdS 3 rfl) _ eq31x3_2) ?_
      rintro _ w ⟨kq31x3_3, rfl⟩
      refine ⟨_, rfl, ?_⟩
      replace h := h.grow kq31x3_3
      replace hg33 := hg33.trans kq31x3_3
      refine wl_nil (wh_back hg33 (wh_eff 6 (by kernel_rfl) rfl want_none ?_))
      obtain ⟨yq31x6_1, eq31x6_2, hs⟩ := o_bind hs
      refine w_call fnOk147 rfl rfl (wandererref_exprText_c _ _ h.lt (hT.go h.keep) u20 x7.f (h.rdS 4 rfl) _ eq31x6_2) ?_
      rintro _ w ⟨kq31x6_3, rfl⟩
      refine ⟨_, rfl, ?_⟩
      replace h := h.grow kq31x6_3
      replace hg33 := hg33.trans kq31x6_3
      refine wl_nil (wh_back hg33 ?_)
      obtain ⟨aq31x7_1, hs⟩ := o_grd hs
      refine wh_ok 7 hg33 rfl want_none (by kernel_rfl) (by kernel_rfl) (by kernel_rfl) (fun w hk => r_adds rfl rfl aq31x7_1) ?_
      obtain ⟨aq31x8_1, hs⟩ := o_grd hs
      refine wh_ok 8 hg33 rfl want_none (by kernel_rfl) (by kernel_rfl) (by kernel_rfl) (fun w hk => r_adds rfl rfl aq31x8_1) (wh_ok 9 hg33 rfl want_none (by kernel_rfl) (by kernel_rfl) (by kernel_rfl) (fun w hk => r_assign (v := (strV (x30 ++ (yq31x3_1 ++ yq31x6_1)))) rfl) (wh_done (by kernel_rfl) (then_normal (wc_join (σ := Str) (inl [3, 39, 40, 41, 42, 43, 44, 45, 46, 47, 48, 49, 50, 51, 52]) (fun x34 => [(3, (strV x34))]) (fun x34 w => SH w0 M BE w (hset [(1, .sr rStmt va a), (3, .rd rTok u18 x7.e), (4, .rd rTok u20 x7.f), (5, .rd rStmt u22 x7.a), (6, .rd rStmt u24 x7.b), (7, .blk b26 [(.int .i64 (x7.kind)), (.int .i64 (x7.n)), u18, u20, u22, u24])]) ∧ wandererref_blockText_j32 F0 x7 nx9 x34 = some r) ?_ ?_))))
      ·
       rintro x34 w junk ⟨h, hs⟩
       refine wc_seq (wc_region (wl_ok (r_fieldAddr Fld147x0 rfl) (wl_ok (r_ldB h 7 rfl One3 rfl rfl) (wl_ok (r_eql rfl rfl) (wl_nil (then_normal (wc_ifb hs rfl (fun c35 hs => ?_) (fun c35 hs => ?_))))))))
       ·
        refine wc_region (wl_ok (r_move (v := (strV x34)) rfl) (wl_ok (r_fieldAddr Fld147x5 rfl) (wl_ok (r_ldB h 7 rfl One111 rfl rfl) ?_)))
        obtain ⟨y36, e37, hs⟩ := o_bind hs
        refine w_call fnOk130 rfl rfl (ih _ _ h.lt (hT.go h.keep) u24 x7.b (h.rdS 6 rfl) _ e37) ?_
        rintro _ w ⟨k38, rfl⟩
        refine ⟨_, rfl, ?_⟩
        replace h := h.grow k38
        obtain ⟨a39, hs⟩ := o_grd hs
        refine wl_ok (r_adds rfl rfl a39) ?_
        obtain ⟨a40, hs⟩ := o_grd hs
        refine wl_ok (r_adds rfl rfl a40) (wl_ok (r_assign (v := (strV (x34 ++ ([32] ++ y36)))) rfl) (wl_nil (inBlock_normal (then_loop ?_))))
        exact jend (x34 ++ ([32] ++ y36)) ⟨h.cn _, hs⟩
       ·
        refine wc_skip (inBlock_normal (then_loop ?_))
        exact jend x34 ⟨h.cn _, hs⟩
      ·
       refine wc_seq (wc_region (wl_ok (r_fieldAddr Fld147x0 rfl) (wl_ok (r_ldB h 7 rfl One3 rfl rfl) (wl_ok (r_eql rfl rfl) (wl_ok (r_move (v := (.bool (decide ((x7.kind : Int) = 6)))) rfl) (wl_gd0 rfl rfl (fun q => r_fieldAddr Fld147x0 rfl) (wl_gd0 rfl rfl (fun q => r_ldB h 7 rfl One3 (gvt q) rfl) (wl_gd0 rfl rfl (fun q => r_eql (gvt q) rfl) (wl_ok (r_por rfl rfl evc) (wl_nil (then_normal (wc_ifb hs rfl (fun c41 hs => ?_) (fun c41 hs => ?_)))))))))))))
       ·
        refine wc_region (wl_ok (r_move (v := (strV (x30 ++ (yq31x3_1 ++ yq31x6_1)))) rfl) (wl_ok (r_fieldAddr Fld147x4 rfl) (wl_ok (r_ldB h 7 rfl One111 rfl rfl) ?_)))
        obtain ⟨y42, e43, hs⟩ := o_bind hs
        refine w_call fnOk130 rfl rfl (ih _ _ h.lt (hT.go h.keep) u22 x7.a (h.rdS 5 rfl) _ e43) ?_
        rintro _ w ⟨k44, rfl⟩
        refine ⟨_, rfl, ?_⟩
        replace h := h.grow k44
        obtain ⟨a45, hs⟩ := o_grd hs
        refine wl_ok (r_adds rfl rfl a45) ?_
        obtain ⟨a46, hs⟩ := o_grd hs
        refine wl_ok (r_adds rfl rfl a46) (wl_ok (r_assign (v := (strV ((x30 ++ (yq31x3_1 ++ yq31x6_1)) ++ ([32] ++ y42)))) rfl) (wl_nil (then_loop ?_)))
        exact jend ((x30 ++ (yq31x3_1 ++ yq31x6_1)) ++ ([32] ++ y42)) ⟨h.cn _, hs⟩
       ·
        refine wc_skip (then_loop ?_)
        exact jend (x30 ++ (yq31x3_1 ++ yq31x6_1)) ⟨h.cn _, hs⟩
     ·
      refine wc_seq (wc_region (wl_ok (r_fieldAddr Fld147x0 rfl) (wl_ok (r_ldB h 7 rfl One3 rfl rfl) (wl_ok (r_leq rfl rfl) (wl_nil (then_normal (wc_ifb hs rfl (fun c47 hs => ?_) (fun c47 hs => ?_))))))))
      ·
       refine wc_region (wl_ok (r_move (v := (strV (x4 ++ ([32] ++ xq27x5_1)))) rfl) (wl_ok (r_fieldAddr Fld147x1 rfl) (wl_ok (r_ldB h 7 rfl One3 rfl rfl) ?_)))
       obtain ⟨y48, e49, hs⟩ := o_bind hs
       refine w_call fnOk125 rfl rfl (strconv_Itoa_c _ _ h.lt (hT.go h.keep) x7.n _ e49) ?_
       rintro _ w ⟨k50, rfl⟩
       refine ⟨_, rfl, ?_⟩
       replace h := h.grow k50
       obtain ⟨a51, hs⟩ := o_grd hs
       refine wl_ok (r_adds rfl rfl a51) ?_
       obtain ⟨a52, hs⟩ := o_grd hs
       refine wl_ok (r_adds rfl rfl a52) (wl_ok (r_assign (v := (strV ((x4 ++ ([32] ++ xq27x5_1)) ++ ([32] ++ y48)))) rfl) (wl_nil (then_loop ?_)))
       exact jend ((x4 ++ ([32] ++ xq27x5_1)) ++ ([32] ++ y48)) ⟨h.cn _, hs⟩
      ·
       refine wc_skip (then_loop ?_)
       exact jend (x4 ++ ([32] ++ xq27x5_1)) ⟨h.cn _, hs⟩
   ·
    rw [drop_ge (hik ▸ e10), each_nil] at hs
    refine wc_exit (then_exit (then_exit (inBlock_eq (then_normal (wc_seq (wc_region (wl_ok (r_move (v := (strV x4)) rfl) ?_)))))))
    obtain ⟨a53, hs⟩ := o_grd hs
    refine wl_ok (r_adds rfl rfl a53) (wl_ok (r_assign (v := (strV (x4 ++ [32, 125]))) rfl) (wl_nil (then_normal (wc_ret (fin1 (v := (strV (x4 ++ [32, 125]))) Tryz.results130 rfl ?_)))))
    obtain rfl := Option.some.inj hs
    exact ⟨h.grown, rfl⟩
theorem strings_Join_c (w0 : World) (M : BS) (hM : ∀ b, M b → b < w0.heap.size) (va : Value) (a : List Str) (ha : Rd2 rStr w0 BE M va a) (b : Str) (r : Str) (hs : joinS a b = some r) :
    Calls Tryz.prog 131 #[va, strV b] w0 (fun e w' => Grow w0 w' ∧ e = .returned (strV r)) :=
  join_w Tryz.strings_Join_none Tryz.strings_Join ha hs
def wandererref_SourceText_b3 (N : Nat) (x11 : Fun) (x8 : List Str) (nx13 : List Str → Option Str) : Option Str :=
  (itoaS x11.params).bind fun yq27x3_1 => grd ([102, 117, 110, 32].length + yq27x3_1.length ≤ 9223372036854775807) (grd (([102, 117, 110, 32] ++ yq27x3_1).length + [32].length ≤ 9223372036854775807) ((itoaS x11.locals).bind fun yq27x8_1 => grd ((([102, 117, 110, 32] ++ yq27x3_1) ++ [32]).length + yq27x8_1.length ≤ 9223372036854775807) (grd (((([102, 117, 110, 32] ++ yq27x3_1) ++ [32]) ++ yq27x8_1).length + [32].length ≤ 9223372036854775807) ((wandererref_blockText N x11.body).bind fun yq27x13_1 => grd ((((([102, 117, 110, 32] ++ yq27x3_1) ++ [32]) ++ yq27x8_1) ++ [32]).length + yq27x13_1.length ≤ 9223372036854775807) (grd (Room 16 x8 [((((([102, 117, 110, 32] ++ yq27x3_1) ++ [32]) ++ yq27x8_1) ++ [32]) ++ yq27x13_1)]) (nx13 (x8 ++ [((((([102, 117, 110, 32] ++ yq27x3_1) ++ [32]) ++ yq27x8_1) ++ [32]) ++ yq27x13_1)])))))))
def wandererref_SourceText_k4 (x8 : List Str) : Option Str :=
  (joinS x8 [32]).bind fun y30 => some y30
def wandererref_SourceText (N : Nat) (a : List Fun) : Option Str :=
  each (wandererref_SourceText_b3 N) wandererref_SourceText_k4 a []
theorem wandererref_SourceText_c (N : Nat) (w0 : World) (M : BS) (hM : ∀ b, M b → b < w0.heap.size) (hT : Tabs Tryz.prog 4 w0) (va : Value) (a : List Fun) (ha : Rd2 rFun w0 BE M va a) (r : Str) (hs : wandererref_SourceText N a = some r) :
    Calls Tryz.prog 113 #[va] w0 (fun e w' => Grow w0 w' ∧ e = .returned (strV r)) := by
 refine calls_start (args := [va]) Tryz.func113 rfl Tryz.ntmps113 (Nat.le_of_ble_eq_true rfl) ?_
 have h := SH.init hM
 replace h := h.argSr 1 ha none_own
 have hl_a := ha.len_le
 refine wc_seq (wc_region (wl_ok (r_assign (v := (strV [])) rfl) (wl_nil (then_normal (wc_seq (wc_region (wl_ok (r_assign (v := (.slice none 0 0)) rfl) (wl_nil (then_normal (wc_seq (wc_seq (wc_region (wl_ok (r_move (v := va) rfl) (wl_ok (r_len SliceOf67 rfl (h.srS 1 rfl)) (wl_ok (r_move (v := (.int .i64 (0))) rfl) (wl_nil (then_normal (wc_block ?_))))))))))))))))))
 replace h := h.nilO (R := rStr) (E := 9) 5
 refine wc_lp (σ := Nat × Int × Value × List Str) (inl [3, 5, 8, 9, 10, 11, 12, 13, 14, 15, 16, 17, 18, 19, 20, 21, 22, 23, 24, 25, 26, 27, 28, 29]) (fun ⟨k9, i10, v7, x8⟩ => [(3, v7), (8, (.int .i64 (i10)))]) (fun ⟨k9, i10, v7, x8⟩ w => SH w0 M BE w (hset [(1, .sr rFun va a), (5, .own rStr 9 v7 x8)]) ∧ i10 = (k9 : Int) ∧ each (wandererref_SourceText_b3 N) wandererref_SourceText_k4 (a.drop k9) x8 = some r) (fun ⟨k9, i10, v7, x8⟩ => a.length - k9) ⟨0, 0, (.slice none 0 0), []⟩ ⟨rfl, rfl, trivial⟩ ?_ ?_
 ·
  exact ⟨h.cn _, rfl, hs⟩
 ·
  rintro ⟨k9, i10, v7, x8⟩ w junk ⟨h, hik, hs⟩
  refine wc_seq (wc_region ?_)
  refine wl_ok (r_lss rfl rfl) (wl_nil (then_normal ?_))
  refine wc_seq (wc_if rfl (fun e14 => ?_) (fun e14 => ?_))
  ·
   refine wc_skip (then_normal ?_)
   obtain ⟨x11, e15a, e15b⟩ := drop_lt (hik ▸ e14)
   rw [e15b, each_cons] at hs
   generalize hnx13 : each (wandererref_SourceText_b3 N) wandererref_SourceText_k4 (a.drop (k9 + 1)) = nx13 at hs
   have e15r := nat_rng ((h.srS 1 rfl)).len_le hik e14
   refine wc_seq (wc_block (wc_seq (wc_region ?_)))
   obtain ⟨b17, o18, cs19, h, r20, i16⟩ := h.ixS 1 6 rfl SliceOf67 rfl (nat_nn hik) (get_nat hik e15a)
   obtain ⟨u21, rfl, g22⟩ := rFun_open r20
   replace h := h.knowRd 7 g22.up
   refine wl_ok (i16 _ _ _ _ _ _ _ _ _ rfl rfl) (wl_ok (r_ldPN (k := 0) (vs := [(.int .i64 (x11.params)), (.int .i64 (x11.locals)), u21]) h 6 rfl Many113 rfl rfl rfl (Nat.le_of_ble_eq_true rfl)) (w_allocN h 8 Many113 fun w b23 h => w_stN (vs := [(.int .i64 (x11.params)), (.int .i64 (x11.locals)), u21]) h 8 [(.int .i64 (x11.params)), (.int .i64 (x11.locals)), u21] rfl Many113 rfl rfl rfl rfl rfl (ones_cons rfl (ones_cons rfl (ones_cons (h.rdAt 7 rfl).one ones_nil))) fun w h => wl_nil (then_normal (wck_held (L := (ob v7)) mixed h fun w h => whk_ok 0 (Keep.refl _ _) rfl want_none (by kernel_rfl) (by kernel_rfl) (by kernel_rfl) (fun w hk => r_move (v := v7) rfl) (whk_ok 1 (Keep.refl _ _) rfl want_none (by kernel_rfl) (by kernel_rfl) (by kernel_rfl) (fun w hk => r_fieldAddr Fld113x0 rfl) (whk_ok 2 (Keep.refl _ _) rfl want_none (by kernel_rfl) (by kernel_rfl) (by kernel_rfl) (fun w hk => have h := h.loseC 5 rfl hk; r_ldB h 8 rfl One3 rfl rfl) (whk_ok 6 (Keep.refl _ _) rfl want_none (by kernel_rfl) (by kernel_rfl) (by kernel_rfl) (fun w hk => r_fieldAddr Fld113x1 rfl) (whk_ok 7 (Keep.refl _ _) rfl want_none (by kernel_rfl) (by kernel_rfl) (by kernel_rfl) (fun w hk => have h := h.loseC 5 rfl hk; r_ldB h 8 rfl One3 rfl rfl) (whk_ok 11 (Keep.refl _ _) rfl want_none (by kernel_rfl) (by kernel_rfl) (by kernel_rfl) (fun w hk => r_fieldAddr Fld113x2 rfl) (whk_ok 12 (Keep.refl _ _) rfl want_none (by kernel_rfl) (by kernel_rfl) (by kernel_rfl) (fun w hk => have h := h.loseC 5 rfl hk; r_ldB h 8 rfl One111 rfl rfl) ?_))))))))))
   obtain ⟨ws28, ws28e⟩ : ∃ x, x = w := ⟨_, rfl⟩
   have hg29 : Keep (ob v7) ws28 w := ws28e ▸ Keep.refl (ob v7) w
   refine whk_at ws28e.symm (whk_eff 3 (by kernel_rfl) rfl want_none ?_)
   obtain ⟨yq27x3_1, eq27x3_2, hs⟩ := o_bind hs
   refine w_call fnOk125 rfl rfl (strconv_Itoa_c _ _ h.lt (hT.go h.keep) x11.params _ eq27x3_2) ?_
   rintro _ w ⟨kq27x3_3, rfl⟩
   refine ⟨_, rfl, ?_⟩
   replace h := h.grow kq27x3_3
   replace hg29 := hg29.grow kq27x3_3
   refine wl_nil (whk_back hg29 ?_)
   obtain ⟨aq27x4_1, hs⟩ := o_grd hs
   refine whk_ok 4 hg29 rfl want_none (by kernel_rfl) (by kernel_rfl) (by kernel_rfl) (fun w hk => r_adds rfl rfl aq27x4_1) ?_
   obtain ⟨aq27x5_1, hs⟩ := o_grd hs
   refine whk_ok 5 hg29 rfl want_none (by kernel_rfl) (by kernel_rfl) (by kernel_rfl) (fun w hk => r_adds rfl rfl aq27x5_1) (whk_eff 8 (by kernel_rfl) rfl want_none ?_)
   obtain ⟨yq27x8_1, eq27x8_2, hs⟩ := o_bind hs
   refine w_call fnOk125 rfl rfl (strconv_Itoa_c _ _ h.lt (hT.go h.keep) x11.locals _ eq27x8_2) ?_
   rintro _ w ⟨kq27x8_3, rfl⟩
   refine ⟨_, rfl, ?_⟩
   replace h := h.grow kq27x8_3
   replace hg29 := hg29.grow kq27x8_3
   refine wl_nil (whk_back hg29 ?_)
   obtain ⟨aq27x9_1, hs⟩ := o_grd hs
   refine whk_ok 9 hg29 rfl want_none (by kernel_rfl) (by kernel_rfl) (by kernel_rfl) (fun w hk => r_adds rfl rfl aq27x9_1) ?_
   obtain ⟨aq27x10_1, hs⟩ := o_grd hs
   refine whk_ok 10 hg29 rfl want_none (by kernel_rfl) (by kernel_rfl) (by kernel_rfl) (fun w hk => r_adds rfl rfl aq27x10_1) (whk_eff 13 (by kernel_rfl) rfl want_none ?_)
   obtain ⟨yq27x13_1, eq27x13_2, hs⟩ := o_bind hs
   refine w_call fnOk130 rfl rfl (wandererref_blockText_c N _ _ h.lt (hT.go h.keep) u21 x11.body (h.rdS 7 rfl) _ eq27x13_2) ?_
   rintro _ w ⟨kq27x13_3, rfl⟩
   refine ⟨_, rfl, ?_⟩
   replace h := h.grow kq27x13_3
   replace hg29 := hg29.grow kq27x13_3
   refine wl_nil (whk_back hg29 ?_)
   obtain ⟨aq27x14_1, hs⟩ := o_grd hs
   refine whk_ok 14 hg29 rfl want_none (by kernel_rfl) (by kernel_rfl) (by kernel_rfl) (fun w hk => r_adds rfl rfl aq27x14_1) (whk_eff 15 (by kernel_rfl) rfl want_none (w_bsG (R := rStr) (vs := [(strV ((((([102, 117, 110, 32] ++ yq27x3_1) ++ [32]) ++ yq27x8_1) ++ [32]) ++ yq27x13_1))]) (xs := [((((([102, 117, 110, 32] ++ yq27x3_1) ++ [32]) ++ yq27x8_1) ++ [32]) ++ yq27x13_1)]) h 189 ElemOf153 rfl rfl rfl ⟨rfl, trivial⟩ rfl fun w uq27x15_1 h uq27x15_1k uq27x15_1f => ?_))
   have uq27x15_1q : ∀ b, ob uq27x15_1 b → ws28.heap.size ≤ b := fun b hb => Nat.le_trans hg29.size (uq27x15_1f b hb)
   replace hg29 := hg29.grow uq27x15_1k
   refine wl_nil (whk_back hg29 (whk_eff 16 (by kernel_rfl) rfl want_none ?_))
   obtain ⟨aq27x16_1, hs⟩ := o_grd hs
   have uq27x16_2z := hg29.size
   refine w_appGN (R := rStr) (m := [((((([102, 117, 110, 32] ++ yq27x3_1) ++ [32]) ++ yq27x8_1) ++ [32]) ++ yq27x13_1)]) h 5 rfl (h.ownS 189 rfl) ElemOf153 rfl rfl rfl aq27x16_1.1 aq27x16_1.2 fun w uq27x16_2 h uq27x16_2k uq27x16_2n => ?_
   have uq27x16_2q : ∀ b, ob uq27x16_2 b → b < ws28.heap.size → ob v7 b := fun b hb hl => uq27x16_2n b hb (Nat.lt_of_lt_of_le hl (hg29).size)
   replace hg29 := hg29.same uq27x16_2k
   refine wl_nil (whk_back hg29 (whk_ok 17 hg29 rfl want_none (by kernel_rfl) (by kernel_rfl) (by kernel_rfl) (fun w hk => r_assign (v := uq27x16_2) rfl) (whk_done (by kernel_rfl) (inBlock_normal (then_normal (wc_region (wl_ok (r_add rfl rfl e15r) (wl_ok (r_move (v := (.int .i64 ((i10 + 1)))) rfl) (wl_nil (then_loop ?_))))))))))
   subst hnx13
   exact lend ⟨k9 + 1, i10 + 1, uq27x16_2, (x8 ++ [((((([102, 117, 110, 32] ++ yq27x3_1) ++ [32]) ++ yq27x8_1) ++ [32]) ++ yq27x13_1)])⟩ ⟨h.cn _, by omega, hs⟩ (by have := of_decide_eq_true e14; dsimp only; omega)
  ·
   rw [drop_ge (hik ▸ e14), each_nil] at hs
   refine wc_exit (then_exit (then_exit (inBlock_eq (then_normal (wc_seq (wc_region (wl_ok (r_move (v := v7) rfl) ?_)))))))
   obtain ⟨y30, e31, hs⟩ := o_bind hs
   refine w_call fnOk131 rfl rfl (strings_Join_c _ _ h.lt v7 x8 (h.ownS 5 rfl) [32] _ e31) ?_
   rintro _ w ⟨k32, rfl⟩
   refine ⟨_, rfl, ?_⟩
   replace h := h.grow k32
   refine wl_ok (r_assign (v := (strV y30)) rfl) (wl_nil (then_normal (wc_ret (fin1 (v := (strV y30)) Tryz.results113 rfl ?_))))
   obtain rfl := Option.some.inj hs
   exact ⟨h.grown, rfl⟩
def stringslite_HasPrefix (a : Str) (b : Str) : Option Bool :=
  bif decide (((b.length : Int) : Int) ≤ (a.length : Int)) then (subs? a 0 (b.length : Int)).bind fun x2 => some (decide ((x2 : Str) = b)) else some false
theorem stringslite_HasPrefix_c (w0 : World) (M : BS) (hM : ∀ b, M b → b < w0.heap.size) (a : Str) (b : Str) (r : Bool) (hs : stringslite_HasPrefix a b = some r) :
    Calls Tryz.prog 141 #[(strV a), (strV b)] w0 (fun e w' => Grow w0 w' ∧ e = .returned (.bool r)) := by
 refine calls_start (args := [(strV a), (strV b)]) Tryz.func141 rfl Tryz.ntmps141 (Nat.le_of_ble_eq_true rfl) ?_
 have h := SH.init hM
 refine wc_seq (wc_region (wl_ok (r_assign (v := (.bool (false))) rfl) (wl_nil (then_normal (wc_seq (wc_region (wl_ok (r_move (v := (strV a)) rfl) (wl_ok (r_lenS Tryz.underlying9 rfl) (wl_ok (r_move (v := (strV b)) rfl) (wl_ok (r_lenS Tryz.underlying9 rfl) (wl_ok (r_geq rfl rfl) (wl_ok (r_move (v := (.bool (decide (((b.length : Int) : Int) ≤ (a.length : Int))))) rfl) (c_split (b := decide (((b.length : Int) : Int) ≤ (a.length : Int))) hs (fun c1 hs => ?_) (fun c1 hs => ?_))))))))))))))
 ·
  refine wl_on rfl (congrArg Value.bool c1) (wl_ok (r_move (v := (strV a)) rfl) (wl_on rfl (congrArg Value.bool c1) (wl_ok (r_move (v := (strV b)) rfl) (wl_on rfl (congrArg Value.bool c1) (wl_ok (r_lenS Tryz.underlying9 rfl) (wl_on rfl (congrArg Value.bool c1) ?_))))))
  obtain ⟨x2, e3, hs⟩ := o_bind hs
  obtain ⟨e4a, e4b, e4c, e4⟩ := o_subs e3
  refine wl_ok (r_slsE e4 Tryz.underlying9 rfl (.inl ⟨rfl, rfl⟩) (.inr (congrArg some rfl)) e4a e4b e4c) (wl_on rfl (congrArg Value.bool c1) (wl_ok (r_move (v := (strV b)) rfl) (wl_on rfl (congrArg Value.bool c1) (wl_ok (r_eqls rfl rfl) (wl_ok (r_pick (b := true) (v := (.bool (decide ((x2 : Str) = b)))) (congrArg Value.bool c1) rfl) (wl_ok (r_assign (v := (.bool (decide ((x2 : Str) = b)))) rfl) (wl_nil (then_normal (wc_ret (fin1 (v := (.bool (decide ((x2 : Str) = b)))) Tryz.results141 rfl ?_))))))))))
  obtain rfl := Option.some.inj hs
  exact ⟨h.grown, rfl⟩
 ·
  refine wl_off (b' := false) rfl (congrArg Value.bool c1) rfl (wl_off (b' := false) rfl (congrArg Value.bool c1) rfl (wl_off (b' := false) rfl (congrArg Value.bool c1) rfl (wl_off (b' := false) rfl (congrArg Value.bool c1) rfl (wl_off (b' := false) rfl (congrArg Value.bool c1) rfl (wl_off (b' := false) rfl (congrArg Value.bool c1) rfl (wl_ok (r_pick (b := false) (v := (.bool (false))) (congrArg Value.bool c1) rfl) (wl_ok (r_assign (v := (.bool (false))) rfl) (wl_nil (then_normal (wc_ret (fin1 (v := (.bool (false))) Tryz.results141 rfl ?_)))))))))))
  obtain rfl := Option.some.inj hs
  exact ⟨h.grown, rfl⟩
def stringslite_TrimPrefix (a : Str) (b : Str) : Option Str :=
  (stringslite_HasPrefix a b).bind fun y1 => bif y1 then (subs? a (b.length : Int) (a.length : Int)).bind fun x5 => some x5 else some a
theorem stringslite_TrimPrefix_c (w0 : World) (M : BS) (hM : ∀ b, M b → b < w0.heap.size) (a : Str) (b : Str) (r : Str) (hs : stringslite_TrimPrefix a b = some r) :
    Calls Tryz.prog 124 #[(strV a), (strV b)] w0 (fun e w' => Grow w0 w' ∧ e = .returned (strV r)) := by
 refine calls_start (args := [(strV a), (strV b)]) Tryz.func124 rfl Tryz.ntmps124 (Nat.le_of_ble_eq_true rfl) ?_
 have h := SH.init hM
 refine wc_seq (wc_region (wl_ok (r_assign (v := (strV [])) rfl) (wl_nil (then_normal (wc_seq (wc_seq (wc_region (wl_ok (r_move (v := (strV a)) rfl) (wl_ok (r_move (v := (strV b)) rfl) ?_)))))))))
 obtain ⟨y1, e2, hs⟩ := o_bind hs
 refine w_call fnOk141 rfl rfl (stringslite_HasPrefix_c _ _ h.lt a b _ e2) ?_
 rintro _ w ⟨k3, rfl⟩
 refine ⟨_, rfl, ?_⟩
 replace h := h.grow k3
 refine wl_nil (then_normal (wc_ifb hs rfl (fun c4 hs => ?_) (fun c4 hs => ?_)))
 ·
  refine wc_seq (wc_region (wl_ok (r_move (v := (strV a)) rfl) (wl_ok (r_move (v := (strV b)) rfl) (wl_ok (r_lenS Tryz.underlying9 rfl) ?_))))
  obtain ⟨x5, e6, hs⟩ := o_bind hs
  obtain ⟨e7a, e7b, e7c, e7⟩ := o_subs e6
  refine wl_ok (r_slsE e7 Tryz.underlying9 rfl (.inr (congrArg some rfl)) (.inl ⟨rfl, rfl⟩) e7a e7b e7c) (wl_ok (r_assign (v := (strV x5)) rfl) (wl_nil (then_normal (wc_ret (then_ret (fin1 (v := (strV x5)) Tryz.results124 rfl ?_))))))
  obtain rfl := Option.some.inj hs
  exact ⟨h.grown, rfl⟩
 ·
  refine wc_skip (then_normal (wc_seq (wc_region (wl_ok (r_move (v := (strV a)) rfl) (wl_ok (r_assign (v := (strV a)) rfl) (wl_nil (then_normal (wc_ret (fin1 (v := (strV a)) Tryz.results124 rfl ?_)))))))))
  obtain rfl := Option.some.inj hs
  exact ⟨h.grown, rfl⟩
def strings_TrimPrefix (a : Str) (b : Str) : Option Str :=
  (stringslite_TrimPrefix a b).bind fun y1 => some y1
theorem strings_TrimPrefix_c (w0 : World) (M : BS) (hM : ∀ b, M b → b < w0.heap.size) (a : Str) (b : Str) (r : Str) (hs : strings_TrimPrefix a b = some r) :
    Calls Tryz.prog 105 #[(strV a), (strV b)] w0 (fun e w' => Grow w0 w' ∧ e = .returned (strV r)) := by
 refine calls_start (args := [(strV a), (strV b)]) Tryz.func105 rfl Tryz.ntmps105 (Nat.le_of_ble_eq_true rfl) ?_
 have h := SH.init hM
 refine wc_seq (wc_region (wl_ok (r_assign (v := (strV [])) rfl) (wl_nil (then_normal (wc_seq (wc_region (wl_ok (r_move (v := (strV a)) rfl) (wl_ok (r_move (v := (strV b)) rfl) ?_))))))))
 obtain ⟨y1, e2, hs⟩ := o_bind hs
 refine w_call fnOk124 rfl rfl (stringslite_TrimPrefix_c _ _ h.lt a b _ e2) ?_
 rintro _ w ⟨k3, rfl⟩
 refine ⟨_, rfl, ?_⟩
 replace h := h.grow k3
 refine wl_ok (r_assign (v := (strV y1)) rfl) (wl_nil (then_normal (wc_ret (fin1 (v := (strV y1)) Tryz.results105 rfl ?_))))
 obtain rfl := Option.some.inj hs
 exact ⟨h.grown, rfl⟩
def slices_Index_string_b3 (a : List Str) (b : Str) (i2 : Int) (s : Unit) (nx5 : Unit → Option Int) : Option Int :=
  (idx a i2).bind fun x8 => bif decide ((b : Str) = x8) then some i2 else nx5 ()
def slices_Index_string_k4 (s : Unit) : Option Int :=
  some (-1)
def slices_Index_string (a : List Str) (b : Str) : Option Int :=
  upto (slices_Index_string_b3 a b) slices_Index_string_k4 0 ((a.length : Int)).toNat ()
theorem slices_Index_string_c (w0 : World) (M : BS) (hM : ∀ b, M b → b < w0.heap.size) (va : Value) (a : List Str) (ha : Rd2 rStr w0 BE M va a) (b : Str) (r : Int) (hs : slices_Index_string a b = some r) :
    Calls Tryz.prog 110 #[va, (strV b)] w0 (fun e w' => Grow w0 w' ∧ e = .returned (.int .i64 r)) := by
 refine calls_start (args := [va, (strV b)]) Tryz.func110 rfl Tryz.ntmps110 (Nat.le_of_ble_eq_true rfl) ?_
 have h := SH.init hM
 replace h := h.argSr 1 ha none_own
 have hl_a := ha.len_le
 refine wc_seq (wc_region (wl_ok (r_assign (v := (.int .i64 (0))) rfl) (wl_nil (then_normal (wc_seq (wc_seq (wc_region (wl_ok (r_move (v := va) rfl) (wl_ok (r_len SliceOf153 rfl (h.srS 1 rfl)) (wl_ok (r_move (v := (.int .i64 (0))) rfl) (wl_nil (then_normal (wc_block ?_)))))))))))))
 have hli2 := (h.srS 1 rfl).len_le
 refine wc_lp (σ := Nat × Int) (inl [4, 5, 8, 9, 10, 11, 12, 13, 14, 15, 16, 17, 18]) (fun ⟨k1, i2⟩ => [(8, (.int .i64 (i2)))]) (fun ⟨k1, i2⟩ w => SH w0 M BE w (hset [(1, .sr rStr va a)]) ∧ i2 = (k1 : Int) ∧ upto (slices_Index_string_b3 a b) slices_Index_string_k4 i2 (((a.length : Int)).toNat - k1) () = some r) (fun ⟨k1, i2⟩ => ((a.length : Int)).toNat - k1) ⟨0, 0⟩ ⟨rfl, trivial⟩ ?_ ?_
 ·
  exact ⟨h.cn _, rfl, hs⟩
 ·
  rintro ⟨k1, i2⟩ w junk ⟨h, hik, hs⟩
  refine wc_seq (wc_region ?_)
  refine wl_ok (r_lss rfl rfl) (wl_nil (then_normal ?_))
  refine wc_seq (wc_if rfl (fun e6 => ?_) (fun e6 => ?_))
  ·
   refine wc_skip (then_normal ?_)
   rw [upto_lt (by have := of_decide_eq_true e6; omega)] at hs
   generalize hnx5 : upto (slices_Index_string_b3 a b) slices_Index_string_k4 (i2 + 1) (((a.length : Int)).toNat - (k1 + 1)) = nx5 at hs
   have e7r : I64 (i2 + 1) := (by have := of_decide_eq_true e6; have := hli2; exact I64.mk (by omega) (by omega))
   refine wc_seq (wc_block (wc_seq (wc_region (wl_ok (r_move (v := (.int .i64 (i2))) rfl) (wl_ok (r_assign (v := (.int .i64 (i2))) rfl) (wl_nil (then_normal (wc_seq (wc_region (wl_ok (r_move (v := (strV b)) rfl) (wl_ok (r_move (v := va) rfl) (wl_ok (r_move (v := (.int .i64 (i2))) rfl) ?_))))))))))))
   obtain ⟨x8, e9, hs⟩ := o_bind hs
   obtain ⟨b11, o12, cs13, h, r14, i10⟩ := h.ixS 1 2 rfl SliceOf153 rfl (o_idx e9).1 (o_idx e9).2
   obtain rfl := r14
   refine wl_ok (i10 _ _ _ _ _ _ _ _ _ rfl rfl) (wl_ok (r_ldP (k := 0) h 2 rfl One9 rfl rfl) (wl_ok (r_eqls rfl rfl) (wl_nil (then_normal (wc_ifb hs rfl (fun c15 hs => ?_) (fun c15 hs => ?_))))))
   ·
    refine wc_seq (wc_region (wl_ok (r_move (v := (.int .i64 (i2))) rfl) (wl_ok (r_assign (v := (.int .i64 (i2))) rfl) (wl_nil (then_normal (wc_ret (inBlock_ret (then_ret (then_ret (inBlock_ret (then_ret (fin1 (v := (.int .i64 (i2))) Tryz.results110 rfl ?_))))))))))))
    obtain rfl := Option.some.inj hs
    exact ⟨h.grown, rfl⟩
   ·
    refine wc_skip (inBlock_normal (then_normal (wc_region (wl_ok (r_add rfl rfl e7r) (wl_ok (r_move (v := (.int .i64 ((i2 + 1)))) rfl) (wl_nil (then_loop ?_)))))))
    subst hnx5
    exact lend ⟨k1 + 1, i2 + 1⟩ ⟨h.cn _, by omega, hs⟩ (by have := of_decide_eq_true e6; dsimp only; omega)
  ·
   rw [upto_ge (by have := of_decide_eq_false e6; omega)] at hs
   refine wc_exit (then_exit (then_exit (inBlock_eq (then_normal (wc_seq (wc_region (wl_ok (r_assign (v := (.int .i64 (-1))) rfl) (wl_nil (then_normal (wc_ret (fin1 (v := (.int .i64 (-1))) Tryz.results110 rfl ?_)))))))))))
   obtain rfl := Option.some.inj hs
   exact ⟨h.grown, rfl⟩
def srdExpr_j225 (x58 : Int) (nx65 : (Int × Int × Int) → Option (List Tok × RdSt)) (y69 : Int) (y70 : Int) : Option (List Tok × RdSt) :=
  grd (I64 (x58 + 1)) (nx65 ((x58 + 1), y69, y70))
def srdExpr_b226 (x29 : Str) (x17 : List Tok) (F : List Fun) (y31 : Int) (x18 : Int) (nx25 : (List Tok × Int × Bool × Int) → Option (List Tok × RdSt)) (y30 : Bool) (s : Int × Int × Int) (nx65 : Int × Int × Int → Option (List Tok × RdSt)) : Option (List Tok × RdSt) :=
  match s with | (x58, y59, y60) => bif decide ((x58 : Int) ≤ 5) then (wandererref_TokText (⟨3, x58⟩ : Tok)).bind fun y72 => bif decide ((y72 : Str) = x29) then srdExpr_j225 x58 nx65 3 x58 else srdExpr_j225 x58 nx65 y59 y60 else grd (Room 16 x17 [(⟨y59, y60⟩ : Tok)]) (bif (decide (((wandererref_CheckTok (⟨y59, y60⟩ : Tok) F 6) : Int) ≠ 0) || decide ((24 : Int) < ((x17 ++ [(⟨y59, y60⟩ : Tok)]).length : Int))) then some ((x17 ++ [(⟨y59, y60⟩ : Tok)]), (⟨y31, false⟩ : RdSt)) else (wandererref_asks (⟨y59, y60⟩ : Tok) F).bind fun y81 => grd (I64 (x18 + y81)) (grd (I64 ((x18 + y81) - 1)) (nx25 ((x17 ++ [(⟨y59, y60⟩ : Tok)]), ((x18 + y81) - 1), y30, y31))))
def srdExpr_j227 (pe45 : (Int × Str)) (y89 : Int × Bool) (y41 : Int) (y42 : Int) (x94 : Bool) : Option (Int × Int) :=
  bif x94 then some (pe45.1, y89.1) else some (y41, y42)
def srdExpr_b228 (x29 : Str) (pe45 : (Int × Str)) (s : Int × Int) : Option (Int × Int) :=
  match s with | (y41, y42) => (strings_TrimPrefix x29 pe45.2).bind fun y86 => (atoiS y86).bind fun y89 => bif (!y89.2) then (wandererref_TokText (⟨pe45.1, y89.1⟩ : Tok)).bind fun y97 => srdExpr_j227 pe45 y89 y41 y42 (decide ((y97 : Str) = x29)) else srdExpr_j227 pe45 y89 y41 y42 false
def srdExpr_k229 (N : Nat) (x29 : Str) (x17 : List Tok) (F : List Fun) (y31 : Int) (x18 : Int) (nx25 : (List Tok × Int × Bool × Int) → Option (List Tok × RdSt)) (y30 : Bool) (s : Int × Int) : Option (List Tok × RdSt) :=
  match s with | (y41, y42) => again (srdExpr_b226 x29 x17 F y31 x18 nx25 y30) N (1, y41, y42)
def srdExpr_j211 (N : Nat) (x17 : List Tok) (F : List Fun) (x18 : Int) (nx25 : (List Tok × Int × Bool × Int) → Option (List Tok × RdSt)) (x29 : Str) (y30 : Bool) (y31 : Int) : Option (List Tok × RdSt) :=
  (foldAny (srdExpr_b228 x29) ([(2, [118]), (4, [46]), (5, [110, 101, 119]), (6, [102]), (1, [])] : List (Int × Str)) (0, 0)).bind fun fin44 => (srdExpr_k229 N x29 x17 F y31 x18 nx25 y30) fin44
def srdExpr_b230 (N : Nat) (W : List Str) (F : List Fun) (s : List Tok × Int × Bool × Int) (nx25 : List Tok × Int × Bool × Int → Option (List Tok × RdSt)) : Option (List Tok × RdSt) :=
  match s with | (x17, x18, y19, y20) => bif (decide ((0 : Int) < x18) && y19) then bif decide (((W.length : Int) : Int) ≤ y20) then srdExpr_j211 N x17 F x18 nx25 [] false y20 else grd (I64 (y20 + 1)) (grd (I64 ((y20 + 1) - 1)) ((idx W ((y20 + 1) - 1)).bind fun x103 => srdExpr_j211 N x17 F x18 nx25 x103 y19 (y20 + 1))) else some (x17, (⟨y20, y19⟩ : RdSt))
def srdExpr (N : Nat) (sx : RdSt) (W : List Str) (F : List Fun) : Option (List Tok × RdSt) :=
  again (srdExpr_b230 N W F) N ([], 1, sx.ok, sx.at_)
theorem srdExpr_c (N : Nat) (w0 : World) (M : BS) (hM : ∀ b, M b → b < w0.heap.size) (hT : Tabs Tryz.prog 4 w0) (ba bo bw bwd bf : Nat) (sx : RdSt) (hC : Chunk.holds w0 M (Chunk.own' (.two (.blk ba [(.int .i64 (sx.at_))]) (.blk bo [(.bool (sx.ok))]) : Chunk)) (.two (.blk ba [(.int .i64 (sx.at_))]) (.blk bo [(.bool (sx.ok))]) : Chunk)) (hap : ∀ b, Chunk.own' (.two (.blk ba [(.int .i64 (sx.at_))]) (.blk bo [(.bool (sx.ok))]) : Chunk) b → ¬ M b) (vW : Value) (W : List Str) (hvW : RdSl rStr w0 (fun b => M b ∨ Chunk.own' (.two (.blk ba [(.int .i64 (sx.at_))]) (.blk bo [(.bool (sx.ok))]) : Chunk) b) vW W) (vF : Value) (F : List Fun) (hvF : Rd2 rFun w0 (Chunk.own' (.two (.blk ba [(.int .i64 (sx.at_))]) (.blk bo [(.bool (sx.ok))]) : Chunk)) (fun b => M b ∨ Chunk.own' (.two (.blk ba [(.int .i64 (sx.at_))]) (.blk bo [(.bool (sx.ok))]) : Chunk) b) vF F) (hbw : ∃ E, w0.heap[bw]? = some (.cells #[vW] E (0, 0))) (nbw : ¬ Chunk.own' (.two (.blk ba [(.int .i64 (sx.at_))]) (.blk bo [(.bool (sx.ok))]) : Chunk) bw) (hbwd : ∃ E, w0.heap[bwd]? = some (.cells #[(.func (.func 103) #[] #[(.pointer (some ⟨ba, 0, none⟩)), (.pointer (some ⟨bw, 0, none⟩)), (.pointer (some ⟨bo, 0, none⟩))])] E (0, 0))) (nbwd : ¬ Chunk.own' (.two (.blk ba [(.int .i64 (sx.at_))]) (.blk bo [(.bool (sx.ok))]) : Chunk) bwd) (hbf : ∃ E, w0.heap[bf]? = some (.cells #[vF] E (0, 0))) (nbf : ¬ Chunk.own' (.two (.blk ba [(.int .i64 (sx.at_))]) (.blk bo [(.bool (sx.ok))]) : Chunk) bf) (hG : ∀ b, Chunk.own' (.two (.blk ba [(.int .i64 (sx.at_))]) (.blk bo [(.bool (sx.ok))]) : Chunk) b → Tryz.prog.globals.size ≤ b) (r : List Tok × RdSt) (hs : srdExpr N sx W F = some r) :
    Calls Tryz.prog 104 #[(.pointer (some ⟨bo, 0, none⟩)), (.pointer (some ⟨bwd, 0, none⟩)), (.pointer (some ⟨bf, 0, none⟩))] w0 (fun e w' => Keep (Chunk.own' (.two (.blk ba [(.int .i64 (sx.at_))]) (.blk bo [(.bool (sx.ok))]) : Chunk)) w0 w' ∧ ∃ u0, e = .returned (u0) ∧ Chunk.holds w' M (Chunk.own' (.two (.blk ba [.int .i64 r.2.at_]) (.blk bo [.bool r.2.ok]) : Chunk)) (.two (.blk ba [.int .i64 r.2.at_]) (.blk bo [.bool r.2.ok]) : Chunk) ∧ (∀ b, Chunk.own' (.two (.blk ba [.int .i64 r.2.at_]) (.blk bo [.bool r.2.ok]) : Chunk) b → b < w0.heap.size → Chunk.own' (.two (.blk ba [(.int .i64 (sx.at_))]) (.blk bo [(.bool (sx.ok))]) : Chunk) b) ∧ RdSl rTok w' (fun b => M b ∨ Chunk.own' (.two (.blk ba [.int .i64 r.2.at_]) (.blk bo [.bool r.2.ok]) : Chunk) b) u0 r.1) := by
 refine calls_start (args := [(.pointer (some ⟨bo, 0, none⟩)), (.pointer (some ⟨bwd, 0, none⟩)), (.pointer (some ⟨bf, 0, none⟩))]) Tryz.func104 rfl Tryz.ntmps104 (Nat.le_of_ble_eq_true rfl) ?_
 have h := SH.init1 hM hC hap
 replace h := h.argRdC 3 hvW own1
 replace h := h.argSrC 4 hvF (own1_rd own1)
 replace h := h.argPtC 5 (cs := [vW]) hbw nbw (own1_sr (own1_rd own1))
 replace h := h.argPtC 6 (cs := [(.func (.func 103) #[] #[(.pointer (some ⟨ba, 0, none⟩)), (.pointer (some ⟨bw, 0, none⟩)), (.pointer (some ⟨bo, 0, none⟩))])]) hbwd nbwd (own1_pt (own1_sr (own1_rd own1)))
 replace h := h.argPtC 7 (cs := [vF]) hbf nbf (own1_pt (own1_pt (own1_sr (own1_rd own1))))
 have nbwK := nbw
 have nbwdK := nbwd
 have nbfK := nbf
 generalize hK0 : (.two (.blk ba [(.int .i64 (sx.at_))]) (.blk bo [(.bool (sx.ok))]) : Chunk).own' = K0 at h nbwK nbwdK nbfK hG
 replace h := h.unpair 1 2 (by decide) rfl rfl
 refine wc_seq (wc_region (wl_ok (r_assign (v := (.slice none 0 0)) rfl) (wl_nil (then_normal (wc_seq (wc_region (wl_ok (r_assign (v := (.slice none 0 0)) rfl) (wl_nil (then_normal (wc_seq (wc_seq (wc_region (wl_ok (r_assign (v := (.int .i64 (1))) rfl) (wl_nil (then_normal (wc_block ?_))))))))))))))))
 replace h := h.nilO (R := rTok) (E := 160) 11
 refine wc_lp (σ := Nat × Value × List Tok × Int × Bool × Int) (inl [4, 5, 6, 7, 8, 9, 10, 11, 12, 13, 14, 15, 16, 17, 18, 19, 20, 21, 22, 23, 24, 25, 26, 27, 28, 29, 30, 31, 32, 33, 34, 35, 36, 37, 38, 39, 40, 41, 42, 43, 44, 45, 46, 47, 48, 49, 50, 51, 52, 53, 54, 55, 56, 57, 58, 59, 60, 61, 62, 63, 64, 65, 66, 67, 68, 69, 70, 71, 72, 73, 74, 75, 76, 77, 78, 79]) (fun ⟨m24, v16, x17, x18, y19, y20⟩ => [(4, v16), (5, (.int .i64 (x18)))]) (fun ⟨m24, v16, x17, x18, y19, y20⟩ w => SH w0 M K0 w (hset [(1, .blk ba [(.int .i64 (y20))]), (2, .blk bo [(.bool (y19))]), (3, .rd rStr vW W), (4, .sr rFun vF F), (5, .pt bw 0 [vW]), (6, .pt bwd 0 [(.func (.func 103) #[] #[(.pointer (some ⟨ba, 0, none⟩)), (.pointer (some ⟨bw, 0, none⟩)), (.pointer (some ⟨bo, 0, none⟩))])]), (7, .pt bf 0 [vF]), (11, .own rTok 160 v16 x17)]) ∧ again (srdExpr_b230 N W F) m24 (x17, x18, y19, y20) = some r) (fun ⟨m24, v16, x17, x18, y19, y20⟩ => m24) ⟨N, (.slice none 0 0), [], 1, sx.ok, sx.at_⟩ ⟨rfl, rfl, trivial⟩ ?_ ?_
 ·
  exact ⟨h.cn _, hs⟩
 ·
  rintro ⟨m24, v16, x17, x18, y19, y20⟩ w junk ⟨h, hs⟩
  obtain ⟨m241, m24e, m24h⟩ := again_pos hs
  subst m24e
  replace hs := m24h
  generalize hnx25 : again (srdExpr_b230 N W F) m241 = nx25 at hs
  refine wc_seq (wc_seq (wc_region (wl_ok (r_move (v := (.int .i64 (x18))) rfl) (wl_ok (r_gtr rfl rfl) (wl_ok (r_move (v := (.bool (decide ((0 : Int) < x18)))) rfl) (wl_gd0 rfl rfl (fun q => r_ldB h 2 rfl One4 rfl rfl) (wl_ok (r_pand rfl rfl evc) (wl_nil (then_normal (wc_ifb hs rfl (fun c28 hs => ?_) (fun c28 hs => ?_)))))))))))
  ·
   refine wc_skip (then_normal (wc_seq (wc_block (wc_join (σ := Str × Bool × Int) (inl [6, 20, 21]) (fun ⟨x29, y30, y31⟩ => [(6, (strV x29))]) (fun ⟨x29, y30, y31⟩ w => SH w0 M K0 w (hset [(1, .blk ba [(.int .i64 (y31))]), (2, .blk bo [(.bool (y30))]), (3, .rd rStr vW W), (4, .sr rFun vF F), (5, .pt bw 0 [vW]), (6, .pt bwd 0 [(.func (.func 103) #[] #[(.pointer (some ⟨ba, 0, none⟩)), (.pointer (some ⟨bw, 0, none⟩)), (.pointer (some ⟨bo, 0, none⟩))])]), (7, .pt bf 0 [vF]), (11, .own rTok 160 v16 x17)]) ∧ srdExpr_j211 N x17 F x18 nx25 x29 y30 y31 = some r) ?_ ?_))))
   ·
    rintro ⟨x29, y30, y31⟩ w junk ⟨h, hs⟩
    refine wc_seq (wc_region (wl_ok (r_build (pv := []) (out := [(.int .i64 (0)), (.int .i64 (0))]) Struct160 rfl rfl) (w_allocN h 12 Many160 fun w b32 h => w_stN (vs := [(.int .i64 (0)), (.int .i64 (0))]) h 12 [(.int .i64 (0)), (.int .i64 (0))] rfl Many160 rfl rfl rfl rfl rfl (ones_cons rfl (ones_cons rfl ones_nil)) fun w h => wl_nil (then_normal (wc_seq (wc_seq (wc_region (w_makeMap h 13 fun w b33 h => w_insert (ents' := [(2, (strV [118]))]) h 13 rfl MapOf131 rfl rfl rfl rfl fun w h => w_insert (ents' := [(2, (strV [118])), (4, (strV [46]))]) h 13 rfl MapOf131 rfl rfl rfl rfl fun w h => w_insert (ents' := [(2, (strV [118])), (4, (strV [46])), (5, (strV [110, 101, 119]))]) h 13 rfl MapOf131 rfl rfl rfl rfl fun w h => w_insert (ents' := [(2, (strV [118])), (4, (strV [46])), (5, (strV [110, 101, 119])), (6, (strV [102]))]) h 13 rfl MapOf131 rfl rfl rfl rfl fun w h => w_insert (ents' := [(2, (strV [118])), (4, (strV [46])), (5, (strV [110, 101, 119])), (6, (strV [102])), (1, (strV []))]) h 13 rfl MapOf131 rfl rfl rfl rfl fun w h => wl_ok (r_move (v := (.map (some b33))) rfl) (w_range (f := strV) ([(2, [118]), (4, [46]), (5, [110, 101, 119]), (6, [102]), (1, [])] : List (Int × Str)) h 13 rfl MapOf131 rfl rfl fun w b34 h => wl_nil (then_normal (wc_block ?_)))))))))))
    obtain ⟨fin44, hfin44, hs⟩ := o_bind hs
    replace hfin44 := o_fold hfin44
    refine wc_lp (σ := List (Int × Str) × Int × Int) (inl [8, 9, 10, 11, 26, 27, 28, 29, 30, 31, 32, 33, 34, 35, 36, 37, 38, 39, 40, 41, 42, 43, 44, 45, 46, 47, 48, 49, 50]) (fun ⟨lf43, y41, y42⟩ => []) (fun ⟨lf43, y41, y42⟩ w => SH w0 M K0 w (hset [(1, .blk ba [(.int .i64 (y31))]), (2, .blk bo [(.bool (y30))]), (3, .rd rStr vW W), (4, .sr rFun vF F), (5, .pt bw 0 [vW]), (6, .pt bwd 0 [(.func (.func 103) #[] #[(.pointer (some ⟨ba, 0, none⟩)), (.pointer (some ⟨bw, 0, none⟩)), (.pointer (some ⟨bo, 0, none⟩))])]), (7, .pt bf 0 [vF]), (11, .own rTok 160 v16 x17), (12, .blk b32 [(.int .i64 (y41)), (.int .i64 (y42))]), (13, .pce (rngS strV b33 b34 none lf43))]) ∧ FoldsTo (srdExpr_b228 x29) lf43 (y41, y42) fin44) (fun ⟨lf43, y41, y42⟩ => lf43.length) ⟨([(2, [118]), (4, [46]), (5, [110, 101, 119]), (6, [102]), (1, [])] : List (Int × Str)), 0, 0⟩ trivial ?_ ?_
    ·
     exact ⟨h.cn _, hfin44⟩
    ·
     rintro ⟨lf43, y41, y42⟩ w junk ⟨h, hf⟩
     refine wc_seq (wc_region ?_)
     refine w_next h 13 rfl rfl (fun e48 => ?_) (fun pe45 lr46 w e48 h => ?_)
     ·
      obtain rfl := FoldsTo.nil (e48 ▸ hf)
      refine wl_ok (r_extract rfl rfl) (wl_nil (then_normal ?_))
      refine wc_seq (wc_iff rfl (wc_exit (then_exit (then_exit (inBlock_eq (then_normal (wc_seq (wc_seq (wc_region (wl_ok (r_assign (v := (.int .i64 (1))) rfl) (wl_nil (then_normal (wc_block (wc_lp (σ := Nat × Int × Int × Int) (inl [12, 51, 52, 53, 54, 55, 56, 57, 58, 59, 60, 61]) (fun ⟨m64, x58, y59, y60⟩ => [(12, (.int .i64 (x58)))]) (fun ⟨m64, x58, y59, y60⟩ w => SH w0 M K0 w (hset [(1, .blk ba [(.int .i64 (y31))]), (2, .blk bo [(.bool (y30))]), (3, .rd rStr vW W), (4, .sr rFun vF F), (5, .pt bw 0 [vW]), (6, .pt bwd 0 [(.func (.func 103) #[] #[(.pointer (some ⟨ba, 0, none⟩)), (.pointer (some ⟨bw, 0, none⟩)), (.pointer (some ⟨bo, 0, none⟩))])]), (7, .pt bf 0 [vF]), (11, .own rTok 160 v16 x17), (12, .blk b32 [(.int .i64 (y59)), (.int .i64 (y60))])]) ∧ again (srdExpr_b226 x29 x17 F y31 x18 nx25 y30) m64 (x58, y59, y60) = some r) (fun ⟨m64, x58, y59, y60⟩ => m64) ⟨N, 1, y41, y42⟩ ⟨rfl, trivial⟩ ?_ ?_))))))))))))))
      ·
       exact ⟨h.cn _, hs⟩
      ·
       rintro ⟨m64, x58, y59, y60⟩ w junk ⟨h, hs⟩
       obtain ⟨m641, m64e, m64h⟩ := again_pos hs
       subst m64e
       replace hs := m64h
       generalize hnx65 : again (srdExpr_b226 x29 x17 F y31 x18 nx25 y30) m641 = nx65 at hs
       refine wc_seq (wc_seq (wc_region (wl_ok (r_move (v := (.int .i64 (x58))) rfl) (wl_ok (r_leq rfl rfl) (wl_nil (then_normal (wc_ifb hs rfl (fun c68 hs => ?_) (fun c68 hs => ?_))))))))
       ·
        refine wc_skip (then_normal (wc_join (σ := Int × Int) (inl [55, 56, 57, 58, 59, 60, 61]) (fun ⟨y69, y70⟩ => []) (fun ⟨y69, y70⟩ w => SH w0 M K0 w (hset [(1, .blk ba [(.int .i64 (y31))]), (2, .blk bo [(.bool (y30))]), (3, .rd rStr vW W), (4, .sr rFun vF F), (5, .pt bw 0 [vW]), (6, .pt bwd 0 [(.func (.func 103) #[] #[(.pointer (some ⟨ba, 0, none⟩)), (.pointer (some ⟨bw, 0, none⟩)), (.pointer (some ⟨bo, 0, none⟩))])]), (7, .pt bf 0 [vF]), (11, .own rTok 160 v16 x17), (12, .blk b32 [(.int .i64 (y69)), (.int .i64 (y70))])]) ∧ srdExpr_j225 x58 nx65 y69 y70 = some r) ?_ ?_))
        ·
         rintro ⟨y69, y70⟩ w junk ⟨h, hs⟩
         refine wc_region (wl_ok (r_move (v := (.int .i64 (x58))) rfl) ?_)
         obtain ⟨a71, hs⟩ := o_grd hs
         refine wl_ok (r_add rfl rfl a71) (wl_ok (r_assign (v := (.int .i64 ((x58 + 1)))) rfl) (wl_nil (then_loop ?_)))
         subst hnx65
         exact lend ⟨m641, (x58 + 1), y69, y70⟩ ⟨h.cn _, hs⟩
        ·
         refine wc_block (wc_seq (wc_region (wl_ok (r_move (v := (.int .i64 (x58))) rfl) (wl_ok (r_build (pv := [(0, (.int .i64 (3))), (1, (.int .i64 (x58)))]) (out := [(.int .i64 (3)), (.int .i64 (x58))]) Struct160 rfl ⟨0, 1, [(.int .i64 (3))], rfl, rfl, rfl, Nat.le_of_ble_eq_true rfl, ⟨1, 1, [(.int .i64 (x58))], rfl, rfl, rfl, Nat.le_of_ble_eq_true rfl, rfl⟩⟩) ?_))))
         obtain ⟨y72, e73, hs⟩ := o_bind hs
         refine w_call fnOk106 rfl rfl (wandererref_TokText_c _ _ h.lt (hT.goK h.keep hG) (⟨3, x58⟩ : Tok) _ e73) ?_
         rintro _ w ⟨k74, rfl⟩
         refine ⟨_, rfl, ?_⟩
         replace h := h.grow k74
         refine wl_ok (r_move (v := (strV x29)) rfl) (wl_ok (r_eqls rfl rfl) (wl_nil (then_normal (wc_ifb hs rfl (fun c75 hs => ?_) (fun c75 hs => ?_)))))
         ·
          refine wc_region (wl_ok (r_move (v := (.int .i64 (x58))) rfl) (wl_ok (r_build (pv := [(0, (.int .i64 (3))), (1, (.int .i64 (x58)))]) (out := [(.int .i64 (3)), (.int .i64 (x58))]) Struct160 rfl ⟨0, 1, [(.int .i64 (3))], rfl, rfl, rfl, Nat.le_of_ble_eq_true rfl, ⟨1, 1, [(.int .i64 (x58))], rfl, rfl, rfl, Nat.le_of_ble_eq_true rfl, rfl⟩⟩) (w_stN (vs := [(.int .i64 (3)), (.int .i64 (x58))]) h 12 [(.int .i64 (3)), (.int .i64 (x58))] rfl Many160 rfl rfl rfl rfl rfl (ones_cons rfl (ones_cons rfl ones_nil)) fun w h => wl_nil (inBlock_normal (then_loop ?_)))))
          exact jend (3, x58) ⟨h.cn _, hs⟩
         ·
          refine wc_skip (inBlock_normal (then_loop ?_))
          exact jend (y59, y60) ⟨h.cn _, hs⟩
       ·
        refine wc_exit (then_exit (then_exit (inBlock_eq (then_normal (wc_seq (wc_seq (wc_region (wl_ok (r_move (v := v16) rfl) (wl_ok (r_ldBN (vs := [(.int .i64 (y59)), (.int .i64 (y60))]) h 12 rfl Many160 rfl rfl rfl) (w_bs (R := rTok) (vs := [(.agg #[(.int .i64 (y59)), (.int .i64 (y60))])]) (xs := [(⟨y59, y60⟩ : Tok)]) h 14 ElemOf145 rfl rfl rfl ⟨rfl, trivial⟩ rfl fun w u76 h => ?_))))))))))
        obtain ⟨a77, hs⟩ := o_grd hs
        refine w_app (R := rTok) (m := [(⟨y59, y60⟩ : Tok)]) h 11 rfl (h.ownS 14 rfl) ElemOf145 rfl rfl rfl a77.1 a77.2 fun w u78 h => wl_ok (r_assign (v := u78) rfl) (wl_nil (then_normal (wc_seq (wc_region (wl_ok (r_ldBN (vs := [(.int .i64 (y59)), (.int .i64 (y60))]) h 12 rfl Many160 rfl rfl rfl) (wl_ok (r_ldP (k := 0) h 7 rfl One67 rfl rfl) (w_call fnOk107 rfl rfl (wandererref_CheckTok_c _ _ h.lt (⟨y59, y60⟩ : Tok) vF F (h.srS 4 rfl) 6 _ rfl) ?_)))))))
        rintro _ w ⟨k79, rfl⟩
        refine ⟨_, rfl, ?_⟩
        replace h := h.grow k79
        refine wl_ok (r_neq rfl rfl) (wl_ok (r_move (v := (.bool (decide (((wandererref_CheckTok (⟨y59, y60⟩ : Tok) F 6) : Int) ≠ 0)))) rfl) (wl_gd0 rfl rfl (fun q => r_move (v := u78) rfl) (wl_gd0 rfl rfl (fun q => r_len SliceOf145 (gvt q) (h.ownS 11 rfl)) (wl_gd0 rfl rfl (fun q => r_gtr (gvt q) rfl) (wl_ok (r_por rfl rfl evc) (wl_nil (then_normal (wc_ifb hs rfl (fun c80 hs => ?_) (fun c80 hs => ?_)))))))))
        ·
         refine wc_seq (wc_region (w_st1 h 2 [(.bool (false))] rfl One4 rfl rfl rfl rfl rfl fun w h => wl_nil (then_normal (wc_exit (then_exit (inBlock_ne (by decide) (then_exit (then_exit (inBlock_eq (then_normal (wc_seq (wc_region (wl_ok (r_move (v := u78) rfl) (wl_ok (r_assign (v := u78) rfl) (wl_nil (then_normal (wc_ret (fin1 (v := u78) Tryz.results104 rfl ?_))))))))))))))))))
         replace h := h.freeze 11 rfl
         replace h := h.pair 1 2 (by decide)
         obtain rfl := Option.some.inj hs
         subst hK0
         obtain ⟨o1, o2, o3⟩ := h.outS 1 (C := (.two (.blk ba [(.int .i64 (y31))]) (.blk bo [(.bool (false))]) : Chunk)) rfl ⟨trivial, trivial⟩
         exact ⟨o2, u78, rfl, o1, o3, h.outRdC 1 11 rfl rfl⟩
        ·
         refine wc_skip (then_normal (wc_region (wl_ok (r_move (v := (.int .i64 (x18))) rfl) (wl_ok (r_ldBN (vs := [(.int .i64 (y59)), (.int .i64 (y60))]) h 12 rfl Many160 rfl rfl rfl) (wl_ok (r_ldP (k := 0) h 7 rfl One67 rfl rfl) ?_)))))
         obtain ⟨y81, e82, hs⟩ := o_bind hs
         refine w_call fnOk108 rfl rfl (wandererref_asks_c _ _ h.lt (⟨y59, y60⟩ : Tok) vF F (h.srS 4 rfl) _ e82) ?_
         rintro _ w ⟨k83, rfl⟩
         refine ⟨_, rfl, ?_⟩
         replace h := h.grow k83
         obtain ⟨a84, hs⟩ := o_grd hs
         refine wl_ok (r_add rfl rfl a84) (wl_ok (r_assign (v := (.int .i64 ((x18 + y81)))) rfl) (wl_nil (inBlock_normal (then_normal (wc_region (wl_ok (r_move (v := (.int .i64 ((x18 + y81)))) rfl) ?_))))))
         obtain ⟨a85, hs⟩ := o_grd hs
         refine wl_ok (r_sub rfl rfl a85) (wl_ok (r_assign (v := (.int .i64 (((x18 + y81) - 1)))) rfl) (wl_nil (then_loop ?_)))
         subst hnx25
         exact lend ⟨m241, u78, (x17 ++ [(⟨y59, y60⟩ : Tok)]), ((x18 + y81) - 1), y30, y31⟩ ⟨h.cn _, hs⟩
     ·
      obtain ⟨sr47, hs1, hf1⟩ := hf.cons e48
      replace hs := hs1
      refine wl_ok (r_extract rfl rfl) (wl_nil (then_normal ?_))
      refine wc_seq (wc_ift rfl (wc_skip (then_normal ?_)))
      refine wc_block (wc_seq (wc_region (wl_ok (r_entry (f := strV) h 13 rfl rfl) (wl_ok (r_extract rfl rfl) (wl_ok (r_extract rfl rfl) (wl_ok (r_assign (v := (.int .i64 (pe45.1))) rfl) (wl_ok (r_assign (v := (strV pe45.2)) rfl) (wl_nil (then_normal (wc_seq (wc_region (wl_ok (r_move (v := (strV x29)) rfl) (wl_ok (r_move (v := (strV pe45.2)) rfl) ?_)))))))))))))
      obtain ⟨y86, e87, hs⟩ := o_bind hs
      refine w_call fnOk105 rfl rfl (strings_TrimPrefix_c _ _ h.lt x29 pe45.2 _ e87) ?_
      rintro _ w ⟨k88, rfl⟩
      refine ⟨_, rfl, ?_⟩
      replace h := h.grow k88
      obtain ⟨y89, e90, hs⟩ := o_bind hs
      refine w_call fnOk102 rfl rfl (strconv_Atoi_c _ _ h.lt (hT.goK h.keep hG) y86 _ e90) ?_
      rintro _ w ⟨k93, u91, rfl, g92⟩
      refine ⟨_, rfl, ?_⟩
      replace h := h.grow k93
      refine wl_ok (r_move (v := (.tuple #[(.int .i64 (y89.1)), u91])) rfl) (wl_ok (r_extract rfl rfl) (wl_ok (r_extract rfl rfl) (wl_ok (r_assign (v := (.int .i64 (y89.1))) rfl) (wl_ok (r_assign (v := u91) rfl) (wl_nil (then_normal (wc_join (σ := Bool) (inl [38, 39, 40, 41, 42, 43, 44, 45, 46, 47]) (fun x94 => [(47, (.bool (x94)))]) (fun x94 w => SH w0 M K0 w (hset [(1, .blk ba [(.int .i64 (y31))]), (2, .blk bo [(.bool (y30))]), (3, .rd rStr vW W), (4, .sr rFun vF F), (5, .pt bw 0 [vW]), (6, .pt bwd 0 [(.func (.func 103) #[] #[(.pointer (some ⟨ba, 0, none⟩)), (.pointer (some ⟨bw, 0, none⟩)), (.pointer (some ⟨bo, 0, none⟩))])]), (7, .pt bf 0 [vF]), (11, .own rTok 160 v16 x17), (12, .blk b32 [(.int .i64 (y41)), (.int .i64 (y42))]), (13, .pce (rngS strV b33 b34 (some pe45) lr46))]) ∧ srdExpr_j227 pe45 y89 y41 y42 x94 = some sr47) ?_ ?_)))))))
      ·
       rintro x94 w junk ⟨h, hs⟩
       refine wc_ifb hs rfl (fun c95 hs => ?_) (fun c95 hs => ?_)
       ·
        refine wc_region (wl_ok (r_move (v := (.int .i64 (pe45.1))) rfl) (wl_ok (r_move (v := (.int .i64 (y89.1))) rfl) (wl_ok (r_build (pv := [(0, (.int .i64 (pe45.1))), (1, (.int .i64 (y89.1)))]) (out := [(.int .i64 (pe45.1)), (.int .i64 (y89.1))]) Struct160 rfl ⟨0, 1, [(.int .i64 (pe45.1))], rfl, rfl, rfl, Nat.le_of_ble_eq_true rfl, ⟨1, 1, [(.int .i64 (y89.1))], rfl, rfl, rfl, Nat.le_of_ble_eq_true rfl, rfl⟩⟩) (w_stN (vs := [(.int .i64 (pe45.1)), (.int .i64 (y89.1))]) h 12 [(.int .i64 (pe45.1)), (.int .i64 (y89.1))] rfl Many160 rfl rfl rfl rfl rfl (ones_cons rfl (ones_cons rfl ones_nil)) fun w h => wl_nil (inBlock_normal (then_loop ?_))))))
        replace h := h.rngForget 13 rfl
        obtain rfl := Option.some.inj hs
        exact lend ⟨lr46, pe45.1, y89.1⟩ ⟨h.cn _, hf1⟩ (by have := e48.length_eq; simp only [List.length_cons] at this; dsimp only; omega)
       ·
        refine wc_skip (inBlock_normal (then_loop ?_))
        replace h := h.rngForget 13 rfl
        obtain rfl := Option.some.inj hs
        exact lend ⟨lr46, y41, y42⟩ ⟨h.cn _, hf1⟩ (by have := e48.length_eq; simp only [List.length_cons] at this; dsimp only; omega)
      ·
       refine wc_region (wl_ok (r_move (v := u91) rfl) (wl_ok (r_eqlnilI IfaceT156 rfl g92 rfl) (wl_ok (r_move (v := (.bool ((!y89.2)))) rfl) (c_split (b := (!y89.2)) hs (fun c96 hs => ?_) (fun c96 hs => ?_)))))
       ·
        refine wl_on rfl (congrArg Value.bool c96) (wl_ok (r_move (v := (.int .i64 (pe45.1))) rfl) (wl_on rfl (congrArg Value.bool c96) (wl_ok (r_move (v := (.int .i64 (y89.1))) rfl) (wl_on rfl (congrArg Value.bool c96) (wl_ok (r_build (pv := [(0, (.int .i64 (pe45.1))), (1, (.int .i64 (y89.1)))]) (out := [(.int .i64 (pe45.1)), (.int .i64 (y89.1))]) Struct160 rfl ⟨0, 1, [(.int .i64 (pe45.1))], rfl, rfl, rfl, Nat.le_of_ble_eq_true rfl, ⟨1, 1, [(.int .i64 (y89.1))], rfl, rfl, rfl, Nat.le_of_ble_eq_true rfl, rfl⟩⟩) (wl_on rfl (congrArg Value.bool c96) ?_))))))
        obtain ⟨y97, e98, hs⟩ := o_bind hs
        refine w_call fnOk106 rfl rfl (wandererref_TokText_c _ _ h.lt (hT.goK h.keep hG) (⟨pe45.1, y89.1⟩ : Tok) _ e98) ?_
        rintro _ w ⟨k99, rfl⟩
        refine ⟨_, rfl, ?_⟩
        replace h := h.grow k99
        refine wl_on rfl (congrArg Value.bool c96) (wl_ok (r_move (v := (strV x29)) rfl) (wl_on rfl (congrArg Value.bool c96) (wl_ok (r_eqls rfl rfl) (wl_ok (r_pick (b := true) (v := (.bool (decide ((y97 : Str) = x29)))) (congrArg Value.bool c96) rfl) (wl_nil (then_loop ?_))))))
        exact jend (decide ((y97 : Str) = x29)) ⟨h.cn _, hs⟩
       ·
        refine wl_off (b' := false) rfl (congrArg Value.bool c96) rfl (wl_off (b' := false) rfl (congrArg Value.bool c96) rfl (wl_off (b' := false) rfl (congrArg Value.bool c96) rfl (wl_off (b' := false) rfl (congrArg Value.bool c96) rfl (wl_off (b' := false) rfl (congrArg Value.bool c96) rfl (wl_off (b' := false) rfl (congrArg Value.bool c96) rfl (wl_ok (r_pick (b := false) (v := (.bool (false))) (congrArg Value.bool c96) rfl) (wl_nil (then_loop ?_))))))))
        exact jend false ⟨h.cn _, hs⟩
   ·
    refine wc_region (wl_ok (r_ldP (k := 0) h 6 rfl One159 rfl rfl) (w_callIn (args := [(.pointer (some ⟨ba, 0, none⟩)), (.pointer (some ⟨bw, 0, none⟩)), (.pointer (some ⟨bo, 0, none⟩))]) fnOk103 rfl rfl (calls_start (args := [(.pointer (some ⟨ba, 0, none⟩)), (.pointer (some ⟨bw, 0, none⟩)), (.pointer (some ⟨bo, 0, none⟩))]) Tryz.func103 rfl Tryz.ntmps103 (Nat.le_of_ble_eq_true rfl) (wc_seq (wc_region (wl_ok (r_assign (v := (strV [])) rfl) (wl_nil (then_normal (wc_seq (wc_seq (wc_region (wl_ok (r_ldB h 1 rfl One3 rfl rfl) (wl_ok (r_ldP (k := 0) h 5 rfl One153 rfl rfl) (wl_ok (r_len SliceOf153 rfl (h.rdS 3 rfl)) (wl_ok (r_geq rfl rfl) (wl_nil (then_normal (wc_ifb hs rfl (fun c100 hs => ?_) (fun c100 hs => ?_)))))))))))))))))))
    ·
     refine wc_seq (wc_region (w_st1 h 2 [(.bool (false))] rfl One4 rfl rfl rfl rfl rfl fun w h => wl_nil (then_normal (wc_seq (wc_region (wl_ok (r_assign (v := (strV [])) rfl) (wl_nil (then_normal (wc_ret (then_ret (fin1 (v := (strV [])) Tryz.results103 rfl (⟨_, rfl, ?_⟩))))))))))))
     refine wl_ok (r_assign (v := (strV [])) rfl) (wl_nil (then_loop ?_))
     exact jend ([], false, y20) ⟨h.cn _, hs⟩
    ·
     refine wc_skip (then_normal (wc_seq (wc_region (wl_ok (r_ldB h 1 rfl One3 rfl rfl) ?_))))
     obtain ⟨a101, hs⟩ := o_grd hs
     refine wl_ok (r_add rfl rfl a101) (w_st1 h 1 [(.int .i64 ((y20 + 1)))] rfl One3 rfl rfl rfl rfl rfl fun w h => wl_nil (then_normal (wc_seq (wc_region (wl_ok (r_ldP (k := 0) h 5 rfl One153 rfl rfl) (wl_ok (r_ldB h 1 rfl One3 rfl rfl) ?_))))))
     obtain ⟨a102, hs⟩ := o_grd hs
     refine wl_ok (r_sub rfl rfl a102) ?_
     obtain ⟨x103, e104, hs⟩ := o_bind hs
     obtain ⟨b106, o107, cs108, h, r109, i105⟩ := h.ixR 3 15 rfl SliceOf153 rfl (o_idx e104).1 (o_idx e104).2
     obtain rfl := r109
     refine wl_ok (i105 _ _ _ _ _ _ _ _ _ rfl rfl) (wl_ok (r_ldP (k := 0) h 15 rfl One9 rfl rfl) (wl_ok (r_assign (v := (strV x103)) rfl) (wl_nil (then_normal (wc_ret (fin1 (v := (strV x103)) Tryz.results103 rfl (⟨_, rfl, ?_⟩)))))))
     refine wl_ok (r_assign (v := (strV x103)) rfl) (wl_nil (then_loop ?_))
     exact jend (x103, y19, (y20 + 1)) ⟨h.cn _, hs⟩
  ·
   refine wc_exit (then_exit (then_exit (inBlock_eq (then_normal (wc_seq (wc_region (wl_ok (r_move (v := v16) rfl) (wl_ok (r_assign (v := v16) rfl) (wl_nil (then_normal (wc_ret (fin1 (v := v16) Tryz.results104 rfl ?_))))))))))))
   replace h := h.freeze 11 rfl
   replace h := h.pair 1 2 (by decide)
   obtain rfl := Option.some.inj hs
   subst hK0
   obtain ⟨o1, o2, o3⟩ := h.outS 1 (C := (.two (.blk ba [(.int .i64 (y20))]) (.blk bo [(.bool (y19))]) : Chunk)) rfl ⟨trivial, trivial⟩
   exact ⟨o2, v16, rfl, o1, o3, h.outRdC 1 11 rfl rfl⟩
def srdBlock_j39 (x16 : List GStmt) (y36 : Int) (y44 : Int) (y48 : List Tok) (y52 : List Tok) (y56 : List GStmt) (nx23 : (List GStmt × Int × Bool) → Option (List GStmt × RdSt)) (y57 : Int) (y58 : Bool) (y60 : List GStmt) : Option (List GStmt × RdSt) :=
  grd (Room 112 x16 [(⟨(y36 + 1), y44, y48, y52, y56, y60⟩ : GStmt)]) (nx23 ((x16 ++ [(⟨(y36 + 1), y44, y48, y52, y56, y60⟩ : GStmt)]), y57, y58))
def srdBlock_j38 (F0 : RdSt → List Str → List Fun → Int → Option (List GStmt × RdSt)) (y36 : Int) (a : Int) (W : List Str) (F : List Fun) (x16 : List GStmt) (y44 : Int) (y48 : List Tok) (y52 : List Tok) (nx23 : (List GStmt × Int × Bool) → Option (List GStmt × RdSt)) (y53 : Int) (y54 : Bool) (y56 : List GStmt) : Option (List GStmt × RdSt) :=
  bif decide (((y36 + 1) : Int) = 6) then grd (I64 (a + 1)) ((F0 (⟨y53, y54⟩ : RdSt) W F (a + 1)).bind fun y67 => srdBlock_j39 x16 y36 y44 y48 y52 y56 nx23 y67.2.at_ y67.2.ok y67.1) else srdBlock_j39 x16 y36 y44 y48 y52 y56 nx23 y53 y54 []
def srdBlock_j37 (F0 : RdSt → List Str → List Fun → Int → Option (List GStmt × RdSt)) (y36 : Int) (a : Int) (W : List Str) (F : List Fun) (x16 : List GStmt) (y44 : Int) (y48 : List Tok) (nx23 : (List GStmt × Int × Bool) → Option (List GStmt × RdSt)) (y49 : Int) (y50 : Bool) (y52 : List Tok) : Option (List GStmt × RdSt) :=
  bif (decide (((y36 + 1) : Int) = 6) || decide (((y36 + 1) : Int) = 7)) then grd (I64 (a + 1)) ((F0 (⟨y49, y50⟩ : RdSt) W F (a + 1)).bind fun y77 => srdBlock_j38 F0 y36 a W F x16 y44 y48 y52 nx23 y77.2.at_ y77.2.ok y77.1) else srdBlock_j38 F0 y36 a W F x16 y44 y48 y52 nx23 y49 y50 []
def srdBlock_j36 (N : Nat) (F0 : RdSt → List Str → List Fun → Int → Option (List GStmt × RdSt)) (y36 : Int) (W : List Str) (F : List Fun) (a : Int) (x16 : List GStmt) (y44 : Int) (nx23 : (List GStmt × Int × Bool) → Option (List GStmt × RdSt)) (y45 : Int) (y46 : Bool) (y48 : List Tok) : Option (List GStmt × RdSt) :=
  bif decide (((y36 + 1) : Int) = 2) then (srdExpr N (⟨y45, y46⟩ : RdSt) W F).bind fun y86 => srdBlock_j37 F0 y36 a W F x16 y44 y48 nx23 y86.2.at_ y86.2.ok y86.1 else srdBlock_j37 F0 y36 a W F x16 y44 y48 nx23 y45 y46 []
def srdBlock_j35 (N : Nat) (F0 : RdSt → List Str → List Fun → Int → Option (List GStmt × RdSt)) (y36 : Int) (W : List Str) (F : List Fun) (a : Int) (x16 : List GStmt) (nx23 : (List GStmt × Int × Bool) → Option (List GStmt × RdSt)) (y42 : Int) (y43 : Bool) (y44 : Int) : Option (List GStmt × RdSt) :=
  bif decide (((y36 + 1) : Int) ≠ 4) then (srdExpr N (⟨y42, y43⟩ : RdSt) W F).bind fun y95 => srdBlock_j36 N F0 y36 W F a x16 y44 nx23 y95.2.at_ y95.2.ok y95.1 else srdBlock_j36 N F0 y36 W F a x16 y44 nx23 y42 y43 []
def srdBlock_j34 (N : Nat) (F0 : RdSt → List Str → List Fun → Int → Option (List GStmt × RdSt)) (x16 : List GStmt) (W : List Str) (F : List Fun) (a : Int) (nx23 : (List GStmt × Int × Bool) → Option (List GStmt × RdSt)) (x27 : Str) (y28 : Int) (y29 : Bool) : Option (List GStmt × RdSt) :=
  bif decide ((x27 : Str) = [125]) then some (x16, (⟨y28, y29⟩ : RdSt)) else (fieldsS [115, 101, 116, 32, 112, 117, 116, 32, 115, 97, 121, 32, 112, 97, 117, 115, 101, 32, 103, 111, 32, 105, 102, 32, 119, 104, 105, 108, 101, 32, 114, 101, 116, 117, 114, 110]).bind fun y31 => (slices_Index_string y31 x27).bind fun y36 => grd (I64 (y36 + 1)) (bif (!(y29 && decide ((0 : Int) < (y36 + 1)))) then some ([], (⟨y28, (y29 && decide ((0 : Int) < (y36 + 1)))⟩ : RdSt)) else bif decide (((y36 + 1) : Int) ≤ 2) then bif decide (((W.length : Int) : Int) ≤ y28) then (atoiS []).bind fun y104 => srdBlock_j35 N F0 y36 W F a x16 nx23 y28 false y104.1 else grd (I64 (y28 + 1)) (grd (I64 ((y28 + 1) - 1)) ((idx W ((y28 + 1) - 1)).bind fun x111 => (atoiS x111).bind fun y118 => srdBlock_j35 N F0 y36 W F a x16 nx23 (y28 + 1) (y29 && decide ((0 : Int) < (y36 + 1))) y118.1)) else srdBlock_j35 N F0 y36 W F a x16 nx23 y28 (y29 && decide ((0 : Int) < (y36 + 1))) 0)
def srdBlock_b40 (N : Nat) (F0 : RdSt → List Str → List Fun → Int → Option (List GStmt × RdSt)) (W : List Str) (F : List Fun) (a : Int) (s : List GStmt × Int × Bool) (nx23 : List GStmt × Int × Bool → Option (List GStmt × RdSt)) : Option (List GStmt × RdSt) :=
  match s with | (x16, y17, y18) => bif y18 then bif decide (((W.length : Int) : Int) ≤ y17) then srdBlock_j34 N F0 x16 W F a nx23 [] y17 false else grd (I64 (y17 + 1)) (grd (I64 ((y17 + 1) - 1)) ((idx W ((y17 + 1) - 1)).bind fun x126 => srdBlock_j34 N F0 x16 W F a nx23 x126 (y17 + 1) y18)) else some ([], (⟨y17, y18⟩ : RdSt))
def srdBlock_j2 (N : Nat) (F0 : RdSt → List Str → List Fun → Int → Option (List GStmt × RdSt)) (W : List Str) (F : List Fun) (a : Int) (y1 : Int) (y2 : Bool) : Option (List GStmt × RdSt) :=
  again (srdBlock_b40 N F0 W F a) N ([], y1, y2)
def srdBlock_j41 (N : Nat) (F0 : RdSt → List Str → List Fun → Int → Option (List GStmt × RdSt)) (W : List Str) (F : List Fun) (a : Int) (x133 : Bool) (y134 : Int) (y135 : Bool) : Option (List GStmt × RdSt) :=
  bif x133 then srdBlock_j2 N F0 W F a y134 false else srdBlock_j2 N F0 W F a y134 y135
def srdBlock_r (N : Nat) (F0 : RdSt → List Str → List Fun → Int → Option (List GStmt × RdSt)) (sx : RdSt) (W : List Str) (F : List Fun) (a : Int) : Option (List GStmt × RdSt) :=
  bif decide (((W.length : Int) : Int) ≤ sx.at_) then srdBlock_j41 N F0 W F a true sx.at_ false else grd (I64 (sx.at_ + 1)) (grd (I64 ((sx.at_ + 1) - 1)) ((idx W ((sx.at_ + 1) - 1)).bind fun x140 => srdBlock_j41 N F0 W F a (decide ((x140 : Str) ≠ [123]) || decide ((6 : Int) < a)) (sx.at_ + 1) sx.ok))
def srdBlock : Nat → RdSt → List Str → List Fun → Int → Option (List GStmt × RdSt)
  | 0 => fun _ _ _ _ => none
  | N + 1 => srdBlock_r N (srdBlock N)
theorem srdBlock_c : ∀ (N : Nat) (w0 : World) (M : BS) (hM : ∀ b, M b → b < w0.heap.size) (hT : Tabs Tryz.prog 4 w0) (ba bo bw bwd bf be bb : Nat) (sx : RdSt) (hC : Chunk.holds w0 M (Chunk.own' (.two (.blk ba [(.int .i64 (sx.at_))]) (.blk bo [(.bool (sx.ok))]) : Chunk)) (.two (.blk ba [(.int .i64 (sx.at_))]) (.blk bo [(.bool (sx.ok))]) : Chunk)) (hap : ∀ b, Chunk.own' (.two (.blk ba [(.int .i64 (sx.at_))]) (.blk bo [(.bool (sx.ok))]) : Chunk) b → ¬ M b) (vW : Value) (W : List Str) (hvW : RdSl rStr w0 (fun b => M b ∨ Chunk.own' (.two (.blk ba [(.int .i64 (sx.at_))]) (.blk bo [(.bool (sx.ok))]) : Chunk) b) vW W) (vF : Value) (F : List Fun) (hvF : Rd2 rFun w0 (Chunk.own' (.two (.blk ba [(.int .i64 (sx.at_))]) (.blk bo [(.bool (sx.ok))]) : Chunk)) (fun b => M b ∨ Chunk.own' (.two (.blk ba [(.int .i64 (sx.at_))]) (.blk bo [(.bool (sx.ok))]) : Chunk) b) vF F) (hbw : ∃ E, w0.heap[bw]? = some (.cells #[vW] E (0, 0))) (nbw : ¬ Chunk.own' (.two (.blk ba [(.int .i64 (sx.at_))]) (.blk bo [(.bool (sx.ok))]) : Chunk) bw) (hbwd : ∃ E, w0.heap[bwd]? = some (.cells #[(.func (.func 103) #[] #[(.pointer (some ⟨ba, 0, none⟩)), (.pointer (some ⟨bw, 0, none⟩)), (.pointer (some ⟨bo, 0, none⟩))])] E (0, 0))) (nbwd : ¬ Chunk.own' (.two (.blk ba [(.int .i64 (sx.at_))]) (.blk bo [(.bool (sx.ok))]) : Chunk) bwd) (hbf : ∃ E, w0.heap[bf]? = some (.cells #[vF] E (0, 0))) (nbf : ¬ Chunk.own' (.two (.blk ba [(.int .i64 (sx.at_))]) (.blk bo [(.bool (sx.ok))]) : Chunk) bf) (hbe : ∃ E, w0.heap[be]? = some (.cells #[(.func (.func 104) #[] #[(.pointer (some ⟨bo, 0, none⟩)), (.pointer (some ⟨bwd, 0, none⟩)), (.pointer (some ⟨bf, 0, none⟩))])] E (0, 0))) (nbe : ¬ Chunk.own' (.two (.blk ba [(.int .i64 (sx.at_))]) (.blk bo [(.bool (sx.ok))]) : Chunk) be) (hbb : ∃ E, w0.heap[bb]? = some (.cells #[(.func (.func 109) #[] #[(.pointer (some ⟨bwd, 0, none⟩)), (.pointer (some ⟨bo, 0, none⟩)), (.pointer (some ⟨be, 0, none⟩)), (.pointer (some ⟨bb, 0, none⟩))])] E (0, 0))) (nbb : ¬ Chunk.own' (.two (.blk ba [(.int .i64 (sx.at_))]) (.blk bo [(.bool (sx.ok))]) : Chunk) bb) (a : Int) (hG : ∀ b, Chunk.own' (.two (.blk ba [(.int .i64 (sx.at_))]) (.blk bo [(.bool (sx.ok))]) : Chunk) b → Tryz.prog.globals.size ≤ b) (r : List GStmt × RdSt) (hs : srdBlock N sx W F a = some r),
    Calls Tryz.prog 109 #[(.int .i64 (a)), (.pointer (some ⟨bwd, 0, none⟩)), (.pointer (some ⟨bo, 0, none⟩)), (.pointer (some ⟨be, 0, none⟩)), (.pointer (some ⟨bb, 0, none⟩))] w0 (fun e w' => Keep (Chunk.own' (.two (.blk ba [(.int .i64 (sx.at_))]) (.blk bo [(.bool (sx.ok))]) : Chunk)) w0 w' ∧ ∃ u0, e = .returned (u0) ∧ Chunk.holds w' M (Chunk.own' (.two (.blk ba [.int .i64 r.2.at_]) (.blk bo [.bool r.2.ok]) : Chunk)) (.two (.blk ba [.int .i64 r.2.at_]) (.blk bo [.bool r.2.ok]) : Chunk) ∧ (∀ b, Chunk.own' (.two (.blk ba [.int .i64 r.2.at_]) (.blk bo [.bool r.2.ok]) : Chunk) b → b < w0.heap.size → Chunk.own' (.two (.blk ba [(.int .i64 (sx.at_))]) (.blk bo [(.bool (sx.ok))]) : Chunk) b) ∧ RdSl rStmt w' (fun b => M b ∨ Chunk.own' (.two (.blk ba [.int .i64 r.2.at_]) (.blk bo [.bool r.2.ok]) : Chunk) b) u0 r.1) := by
  intro N
  induction N with
  | zero => intro w0 M hM hT ba bo bw bwd bf be bb sx hC hap vW W hvW vF F hvF hbw nbw hbwd nbwd hbf nbf hbe nbe hbb nbb a hG r hs; cases hs
  | succ N ih =>
  intro w0 M hM hT ba bo bw bwd bf be bb sx hC hap vW W hvW vF F hvF hbw nbw hbwd nbwd hbf nbf hbe nbe hbb nbb a hG r hs
  replace hs : srdBlock_r N (srdBlock N) sx W F a = some r := hs
  generalize srdBlock N = F0 at hs ih
  refine calls_start (args := [(.int .i64 (a)), (.pointer (some ⟨bwd, 0, none⟩)), (.pointer (some ⟨bo, 0, none⟩)), (.pointer (some ⟨be, 0, none⟩)), (.pointer (some ⟨bb, 0, none⟩))]) Tryz.func109 rfl Tryz.ntmps109 (Nat.le_of_ble_eq_true rfl) ?_
  have h := SH.init1 hM hC hap
  replace h := h.argRdC 3 hvW own1
  replace h := h.argSrC 4 hvF (own1_rd own1)
  replace h := h.argPtC 5 (cs := [vW]) hbw nbw (own1_sr (own1_rd own1))
  replace h := h.argPtC 6 (cs := [(.func (.func 103) #[] #[(.pointer (some ⟨ba, 0, none⟩)), (.pointer (some ⟨bw, 0, none⟩)), (.pointer (some ⟨bo, 0, none⟩))])]) hbwd nbwd (own1_pt (own1_sr (own1_rd own1)))
  replace h := h.argPtC 7 (cs := [vF]) hbf nbf (own1_pt (own1_pt (own1_sr (own1_rd own1))))
  replace h := h.argPtC 8 (cs := [(.func (.func 104) #[] #[(.pointer (some ⟨bo, 0, none⟩)), (.pointer (some ⟨bwd, 0, none⟩)), (.pointer (some ⟨bf, 0, none⟩))])]) hbe nbe (own1_pt (own1_pt (own1_pt (own1_sr (own1_rd own1)))))
  replace h := h.argPtC 9 (cs := [(.func (.func 109) #[] #[(.pointer (some ⟨bwd, 0, none⟩)), (.pointer (some ⟨bo, 0, none⟩)), (.pointer (some ⟨be, 0, none⟩)), (.pointer (some ⟨bb, 0, none⟩))])]) hbb nbb (own1_pt (own1_pt (own1_pt (own1_pt (own1_sr (own1_rd own1))))))
  have nbwK := nbw
  have nbwdK := nbwd
  have nbfK := nbf
  have nbeK := nbe
  have nbbK := nbb
  generalize hK0 : (.two (.blk ba [(.int .i64 (sx.at_))]) (.blk bo [(.bool (sx.ok))]) : Chunk).own' = K0 at h nbwK nbwdK nbfK nbeK nbbK hG
  replace h := h.unpair 1 2 (by decide) rfl rfl
  refine wc_seq (wc_region (wl_ok (r_assign (v := (.slice none 0 0)) rfl) (wl_nil (then_normal (wc_join (σ := Int × Bool) (inl [10, 11, 12, 13, 14, 15, 16]) (fun ⟨y1, y2⟩ => []) (fun ⟨y1, y2⟩ w => SH w0 M K0 w (hset [(1, .blk ba [(.int .i64 (y1))]), (2, .blk bo [(.bool (y2))]), (3, .rd rStr vW W), (4, .sr rFun vF F), (5, .pt bw 0 [vW]), (6, .pt bwd 0 [(.func (.func 103) #[] #[(.pointer (some ⟨ba, 0, none⟩)), (.pointer (some ⟨bw, 0, none⟩)), (.pointer (some ⟨bo, 0, none⟩))])]), (7, .pt bf 0 [vF]), (8, .pt be 0 [(.func (.func 104) #[] #[(.pointer (some ⟨bo, 0, none⟩)), (.pointer (some ⟨bwd, 0, none⟩)), (.pointer (some ⟨bf, 0, none⟩))])]), (9, .pt bb 0 [(.func (.func 109) #[] #[(.pointer (some ⟨bwd, 0, none⟩)), (.pointer (some ⟨bo, 0, none⟩)), (.pointer (some ⟨be, 0, none⟩)), (.pointer (some ⟨bb, 0, none⟩))])])]) ∧ srdBlock_j2 N F0 W F a y1 y2 = some r) ?_ ?_)))))
  ·
   rintro ⟨y1, y2⟩ w junk ⟨h, hs⟩
   refine wc_seq (wc_region (wl_ok (r_assign (v := (.slice none 0 0)) rfl) (wl_nil (then_normal (wc_seq (wc_block ?_))))))
   replace h := h.nilO (R := rStmt) (E := 147) 13
   refine wc_lp (σ := Nat × Value × List GStmt × Int × Bool) (inl [6, 7, 8, 9, 17, 18, 19, 20, 21, 22, 23, 24, 25, 26, 27, 28, 29, 30, 31, 32, 33, 34, 35, 36, 37, 38, 39, 40, 41, 42, 43, 44, 45, 46, 47, 48, 49, 50, 51, 52, 53, 54, 55, 56, 57, 58, 59, 60, 61, 62, 63, 64, 65, 66, 67, 68, 69, 70, 71, 72, 73, 74, 75, 76, 77, 78, 79, 80, 81, 82]) (fun ⟨m22, v15, x16, y17, y18⟩ => [(7, v15)]) (fun ⟨m22, v15, x16, y17, y18⟩ w => SH w0 M K0 w (hset [(1, .blk ba [(.int .i64 (y17))]), (2, .blk bo [(.bool (y18))]), (3, .rd rStr vW W), (4, .sr rFun vF F), (5, .pt bw 0 [vW]), (6, .pt bwd 0 [(.func (.func 103) #[] #[(.pointer (some ⟨ba, 0, none⟩)), (.pointer (some ⟨bw, 0, none⟩)), (.pointer (some ⟨bo, 0, none⟩))])]), (7, .pt bf 0 [vF]), (8, .pt be 0 [(.func (.func 104) #[] #[(.pointer (some ⟨bo, 0, none⟩)), (.pointer (some ⟨bwd, 0, none⟩)), (.pointer (some ⟨bf, 0, none⟩))])]), (9, .pt bb 0 [(.func (.func 109) #[] #[(.pointer (some ⟨bwd, 0, none⟩)), (.pointer (some ⟨bo, 0, none⟩)), (.pointer (some ⟨be, 0, none⟩)), (.pointer (some ⟨bb, 0, none⟩))])]), (13, .own rStmt 147 v15 x16)]) ∧ again (srdBlock_b40 N F0 W F a) m22 (x16, y17, y18) = some r) (fun ⟨m22, v15, x16, y17, y18⟩ => m22) ⟨N, (.slice none 0 0), [], y1, y2⟩ ⟨rfl, trivial⟩ ?_ ?_
   ·
    exact ⟨h.cn _, hs⟩
   ·
    rintro ⟨m22, v15, x16, y17, y18⟩ w junk ⟨h, hs⟩
    obtain ⟨m221, m22e, m22h⟩ := again_pos hs
    subst m22e
    replace hs := m22h
    generalize hnx23 : again (srdBlock_b40 N F0 W F a) m221 = nx23 at hs
    refine wc_seq (wc_seq (wc_region (wl_ok (r_ldB h 2 rfl One4 rfl rfl) (wl_nil (then_normal (wc_ifb hs rfl (fun c26 hs => ?_) (fun c26 hs => ?_)))))))
    ·
     refine wc_skip (then_normal (wc_block (wc_join (σ := Str × Int × Bool) (inl [8, 18, 19]) (fun ⟨x27, y28, y29⟩ => [(8, (strV x27))]) (fun ⟨x27, y28, y29⟩ w => SH w0 M K0 w (hset [(1, .blk ba [(.int .i64 (y28))]), (2, .blk bo [(.bool (y29))]), (3, .rd rStr vW W), (4, .sr rFun vF F), (5, .pt bw 0 [vW]), (6, .pt bwd 0 [(.func (.func 103) #[] #[(.pointer (some ⟨ba, 0, none⟩)), (.pointer (some ⟨bw, 0, none⟩)), (.pointer (some ⟨bo, 0, none⟩))])]), (7, .pt bf 0 [vF]), (8, .pt be 0 [(.func (.func 104) #[] #[(.pointer (some ⟨bo, 0, none⟩)), (.pointer (some ⟨bwd, 0, none⟩)), (.pointer (some ⟨bf, 0, none⟩))])]), (9, .pt bb 0 [(.func (.func 109) #[] #[(.pointer (some ⟨bwd, 0, none⟩)), (.pointer (some ⟨bo, 0, none⟩)), (.pointer (some ⟨be, 0, none⟩)), (.pointer (some ⟨bb, 0, none⟩))])]), (13, .own rStmt 147 v15 x16)]) ∧ srdBlock_j34 N F0 x16 W F a nx23 x27 y28 y29 = some r) ?_ ?_)))
     ·
      rintro ⟨x27, y28, y29⟩ w junk ⟨h, hs⟩
      refine wc_seq (wc_seq (wc_region (wl_ok (r_move (v := (strV x27)) rfl) (wl_ok (r_eqls rfl rfl) (wl_nil (then_normal (wc_ifb hs rfl (fun c30 hs => ?_) (fun c30 hs => ?_))))))))
      ·
       refine wc_seq (wc_region (wl_ok (r_move (v := v15) rfl) (wl_ok (r_assign (v := v15) rfl) (wl_nil (then_normal (wc_ret (then_ret (inBlock_ret (then_ret (inBlock_ret (then_ret (fin1 (v := v15) Tryz.results109 rfl ?_))))))))))))
       replace h := h.freeze 13 rfl
       replace h := h.pair 1 2 (by decide)
       obtain rfl := Option.some.inj hs
       subst hK0
       obtain ⟨o1, o2, o3⟩ := h.outS 1 (C := (.two (.blk ba [(.int .i64 (y28))]) (.blk bo [(.bool (y29))]) : Chunk)) rfl ⟨trivial, trivial⟩
       exact ⟨o2, v15, rfl, o1, o3, h.outRdC 1 13 rfl rfl⟩
      ·
       refine wc_skip (then_normal (wc_seq (wc_region ?_)))
       obtain ⟨y31, e32, hs⟩ := o_bind hs
       refine w_call fnOk111 rfl rfl (strings_Fields_c _ _ h.lt (hT.goK h.keep hG) [115, 101, 116, 32, 112, 117, 116, 32, 115, 97, 121, 32, 112, 97, 117, 115, 101, 32, 103, 111, 32, 105, 102, 32, 119, 104, 105, 108, 101, 32, 114, 101, 116, 117, 114, 110] _ e32) ?_
       rintro _ w ⟨k35, u33, rfl, g34⟩
       refine ⟨_, rfl, ?_⟩
       replace h := h.gotRd 14 k35 g34
       refine wl_ok (r_move (v := (strV x27)) rfl) ?_
       obtain ⟨y36, e37, hs⟩ := o_bind hs
       refine w_call fnOk110 rfl rfl (slices_Index_string_c _ _ h.lt u33 y31 (h.rdS 14 rfl) x27 _ e37) ?_
       rintro _ w ⟨k38, rfl⟩
       refine ⟨_, rfl, ?_⟩
       replace h := h.grow k38
       obtain ⟨a39, hs⟩ := o_grd hs
       refine wl_ok (r_add rfl rfl a39) (wl_ok (r_build (pv := [(0, (.int .i64 ((y36 + 1))))]) (out := [(.int .i64 ((y36 + 1))), (.int .i64 (0)), (.slice none 0 0), (.slice none 0 0), (.slice none 0 0), (.slice none 0 0)]) Struct147 rfl ⟨0, 1, [(.int .i64 ((y36 + 1)))], rfl, rfl, rfl, Nat.le_of_ble_eq_true rfl, rfl⟩) (w_allocN h 15 Many147 fun w b40 h => w_stN (vs := [(.int .i64 ((y36 + 1))), (.int .i64 (0)), (.slice none 0 0), (.slice none 0 0), (.slice none 0 0), (.slice none 0 0)]) h 15 [(.int .i64 ((y36 + 1))), (.int .i64 (0)), (.slice none 0 0), (.slice none 0 0), (.slice none 0 0), (.slice none 0 0)] rfl Many147 rfl rfl rfl rfl rfl (ones_cons rfl (ones_cons rfl (ones_cons rfl (ones_cons rfl (ones_cons rfl (ones_cons rfl ones_nil)))))) fun w h => wl_nil (then_normal (wc_seq (wc_seq (wc_region (wl_ok (r_ldB h 2 rfl One4 rfl rfl) (wl_ok (r_move (v := (.bool (y29))) rfl) (wl_gd0 rfl rfl (fun q => r_fieldAddr Fld147x0 rfl) (wl_gd0 rfl rfl (fun q => r_ldB h 15 rfl One3 (gvt q) rfl) (wl_gd0 rfl rfl (fun q => r_gtr (gvt q) rfl) (wl_ok (r_pand rfl rfl evc) (w_st1 h 2 [(.bool ((y29 && decide ((0 : Int) < (y36 + 1)))))] rfl One4 rfl rfl rfl rfl rfl fun w h => wl_nil (then_normal (wc_seq (wc_region (wl_ok (r_ldB h 2 rfl One4 rfl rfl) (wl_ok (r_notb rfl) (wl_nil (then_normal ?_))))))))))))))))))))
       refine wc_ifb hs rfl (fun c41 hs => ?_) (fun c41 hs => ?_)
       ·
        refine wc_exit (then_exit (inBlock_ne (by decide) (then_exit (inBlock_eq (then_normal (wc_seq (wc_region (wl_ok (r_assign (v := (.slice none 0 0)) rfl) (wl_nil (then_normal (wc_ret (fin1 (v := (.slice none 0 0)) Tryz.results109 rfl ?_))))))))))))
        replace h := h.pair 1 2 (by decide)
        obtain rfl := Option.some.inj hs
        subst hK0
        obtain ⟨o1, o2, o3⟩ := h.outS 1 (C := (.two (.blk ba [(.int .i64 (y28))]) (.blk bo [(.bool ((y29 && decide ((0 : Int) < (y36 + 1)))))]) : Chunk)) rfl ⟨trivial, trivial⟩
        exact ⟨o2, .slice none 0 0, rfl, o1, o3, Rd2.nil⟩
       ·
        refine wc_skip (then_normal (wc_join (σ := Int × Bool × Int) (inl [36, 37, 38, 39, 40, 41, 42, 43, 44, 45]) (fun ⟨y42, y43, y44⟩ => []) (fun ⟨y42, y43, y44⟩ w => SH w0 M K0 w (hset [(1, .blk ba [(.int .i64 (y42))]), (2, .blk bo [(.bool (y43))]), (3, .rd rStr vW W), (4, .sr rFun vF F), (5, .pt bw 0 [vW]), (6, .pt bwd 0 [(.func (.func 103) #[] #[(.pointer (some ⟨ba, 0, none⟩)), (.pointer (some ⟨bw, 0, none⟩)), (.pointer (some ⟨bo, 0, none⟩))])]), (7, .pt bf 0 [vF]), (8, .pt be 0 [(.func (.func 104) #[] #[(.pointer (some ⟨bo, 0, none⟩)), (.pointer (some ⟨bwd, 0, none⟩)), (.pointer (some ⟨bf, 0, none⟩))])]), (9, .pt bb 0 [(.func (.func 109) #[] #[(.pointer (some ⟨bwd, 0, none⟩)), (.pointer (some ⟨bo, 0, none⟩)), (.pointer (some ⟨be, 0, none⟩)), (.pointer (some ⟨bb, 0, none⟩))])]), (13, .own rStmt 147 v15 x16), (15, .blk b40 [(.int .i64 ((y36 + 1))), (.int .i64 (y44)), (.slice none 0 0), (.slice none 0 0), (.slice none 0 0), (.slice none 0 0)])]) ∧ srdBlock_j35 N F0 y36 W F a x16 nx23 y42 y43 y44 = some r) ?_ ?_))
        ·
         rintro ⟨y42, y43, y44⟩ w junk ⟨h, hs⟩
         refine wc_join (σ := Int × Bool × Value × List Tok) (inl [46, 47, 48, 49, 50, 51]) (fun ⟨y45, y46, v47, y48⟩ => []) (fun ⟨y45, y46, v47, y48⟩ w => SH w0 M K0 w (hset [(1, .blk ba [(.int .i64 (y45))]), (2, .blk bo [(.bool (y46))]), (3, .rd rStr vW W), (4, .sr rFun vF F), (5, .pt bw 0 [vW]), (6, .pt bwd 0 [(.func (.func 103) #[] #[(.pointer (some ⟨ba, 0, none⟩)), (.pointer (some ⟨bw, 0, none⟩)), (.pointer (some ⟨bo, 0, none⟩))])]), (7, .pt bf 0 [vF]), (8, .pt be 0 [(.func (.func 104) #[] #[(.pointer (some ⟨bo, 0, none⟩)), (.pointer (some ⟨bwd, 0, none⟩)), (.pointer (some ⟨bf, 0, none⟩))])]), (9, .pt bb 0 [(.func (.func 109) #[] #[(.pointer (some ⟨bwd, 0, none⟩)), (.pointer (some ⟨bo, 0, none⟩)), (.pointer (some ⟨be, 0, none⟩)), (.pointer (some ⟨bb, 0, none⟩))])]), (13, .own rStmt 147 v15 x16), (15, .blk b40 [(.int .i64 ((y36 + 1))), (.int .i64 (y44)), v47, (.slice none 0 0), (.slice none 0 0), (.slice none 0 0)]), (16, .rd rTok v47 y48)]) ∧ srdBlock_j36 N F0 y36 W F a x16 y44 nx23 y45 y46 y48 = some r) ?_ ?_
         ·
          rintro ⟨y45, y46, v47, y48⟩ w junk ⟨h, hs⟩
          refine wc_join (σ := Int × Bool × Value × List Tok) (inl [52, 53, 54, 55, 56, 57]) (fun ⟨y49, y50, v51, y52⟩ => []) (fun ⟨y49, y50, v51, y52⟩ w => SH w0 M K0 w (hset [(1, .blk ba [(.int .i64 (y49))]), (2, .blk bo [(.bool (y50))]), (3, .rd rStr vW W), (4, .sr rFun vF F), (5, .pt bw 0 [vW]), (6, .pt bwd 0 [(.func (.func 103) #[] #[(.pointer (some ⟨ba, 0, none⟩)), (.pointer (some ⟨bw, 0, none⟩)), (.pointer (some ⟨bo, 0, none⟩))])]), (7, .pt bf 0 [vF]), (8, .pt be 0 [(.func (.func 104) #[] #[(.pointer (some ⟨bo, 0, none⟩)), (.pointer (some ⟨bwd, 0, none⟩)), (.pointer (some ⟨bf, 0, none⟩))])]), (9, .pt bb 0 [(.func (.func 109) #[] #[(.pointer (some ⟨bwd, 0, none⟩)), (.pointer (some ⟨bo, 0, none⟩)), (.pointer (some ⟨be, 0, none⟩)), (.pointer (some ⟨bb, 0, none⟩))])]), (13, .own rStmt 147 v15 x16), (15, .blk b40 [(.int .i64 ((y36 + 1))), (.int .i64 (y44)), v47, v51, (.slice none 0 0), (.slice none 0 0)]), (16, .rd rTok v47 y48), (17, .rd rTok v51 y52)]) ∧ srdBlock_j37 F0 y36 a W F x16 y44 y48 nx23 y49 y50 y52 = some r) ?_ ?_
          ·
           rintro ⟨y49, y50, v51, y52⟩ w junk ⟨h, hs⟩
           refine wc_join (σ := Int × Bool × Value × List GStmt) (inl [58, 59, 60, 61, 62, 63, 64, 65, 66, 67, 68, 69, 70]) (fun ⟨y53, y54, v55, y56⟩ => []) (fun ⟨y53, y54, v55, y56⟩ w => SH w0 M K0 w (hset [(1, .blk ba [(.int .i64 (y53))]), (2, .blk bo [(.bool (y54))]), (3, .rd rStr vW W), (4, .sr rFun vF F), (5, .pt bw 0 [vW]), (6, .pt bwd 0 [(.func (.func 103) #[] #[(.pointer (some ⟨ba, 0, none⟩)), (.pointer (some ⟨bw, 0, none⟩)), (.pointer (some ⟨bo, 0, none⟩))])]), (7, .pt bf 0 [vF]), (8, .pt be 0 [(.func (.func 104) #[] #[(.pointer (some ⟨bo, 0, none⟩)), (.pointer (some ⟨bwd, 0, none⟩)), (.pointer (some ⟨bf, 0, none⟩))])]), (9, .pt bb 0 [(.func (.func 109) #[] #[(.pointer (some ⟨bwd, 0, none⟩)), (.pointer (some ⟨bo, 0, none⟩)), (.pointer (some ⟨be, 0, none⟩)), (.pointer (some ⟨bb, 0, none⟩))])]), (13, .own rStmt 147 v15 x16), (15, .blk b40 [(.int .i64 ((y36 + 1))), (.int .i64 (y44)), v47, v51, v55, (.slice none 0 0)]), (16, .rd rTok v47 y48), (17, .rd rTok v51 y52), (18, .rd rStmt v55 y56)]) ∧ srdBlock_j38 F0 y36 a W F x16 y44 y48 y52 nx23 y53 y54 y56 = some r) ?_ ?_
           ·
            rintro ⟨y53, y54, v55, y56⟩ w junk ⟨h, hs⟩
            refine wc_join (σ := Int × Bool × Value × List GStmt) (inl [71, 72, 73, 74, 75, 76, 77, 78]) (fun ⟨y57, y58, v59, y60⟩ => []) (fun ⟨y57, y58, v59, y60⟩ w => SH w0 M K0 w (hset [(1, .blk ba [(.int .i64 (y57))]), (2, .blk bo [(.bool (y58))]), (3, .rd rStr vW W), (4, .sr rFun vF F), (5, .pt bw 0 [vW]), (6, .pt bwd 0 [(.func (.func 103) #[] #[(.pointer (some ⟨ba, 0, none⟩)), (.pointer (some ⟨bw, 0, none⟩)), (.pointer (some ⟨bo, 0, none⟩))])]), (7, .pt bf 0 [vF]), (8, .pt be 0 [(.func (.func 104) #[] #[(.pointer (some ⟨bo, 0, none⟩)), (.pointer (some ⟨bwd, 0, none⟩)), (.pointer (some ⟨bf, 0, none⟩))])]), (9, .pt bb 0 [(.func (.func 109) #[] #[(.pointer (some ⟨bwd, 0, none⟩)), (.pointer (some ⟨bo, 0, none⟩)), (.pointer (some ⟨be, 0, none⟩)), (.pointer (some ⟨bb, 0, none⟩))])]), (13, .own rStmt 147 v15 x16), (15, .blk b40 [(.int .i64 ((y36 + 1))), (.int .i64 (y44)), v47, v51, v55, v59]), (16, .rd rTok v47 y48), (17, .rd rTok v51 y52), (18, .rd rStmt v55 y56), (19, .rd rStmt v59 y60)]) ∧ srdBlock_j39 x16 y36 y44 y48 y52 y56 nx23 y57 y58 y60 = some r) ?_ ?_
            ·
             rintro ⟨y57, y58, v59, y60⟩ w junk ⟨h, hs⟩
             refine wc_region (wl_ok (r_move (v := v15) rfl) (wl_ok (r_ldBN (vs := [(.int .i64 ((y36 + 1))), (.int .i64 (y44)), v47, v51, v55, v59]) h 15 rfl Many147 rfl rfl rfl) (w_bs (R := rStmt) (vs := [(.agg #[(.int .i64 ((y36 + 1))), (.int .i64 (y44)), v47, v51, v55, v59])]) (xs := [(⟨(y36 + 1), y44, y48, y52, y56, y60⟩ : GStmt)]) h 20 ElemOf111 rfl rfl rfl ⟨(rStmt_mk ⟨_, _, _, _, rfl, (h.rdAt 16 rfl), (h.rdAt 17 rfl), (h.rdAt 18 rfl), (h.rdAt 19 rfl)⟩), trivial⟩ rfl fun w u61 h => ?_)))
             obtain ⟨a62, hs⟩ := o_grd hs
             refine w_app (R := rStmt) (m := [(⟨(y36 + 1), y44, y48, y52, y56, y60⟩ : GStmt)]) h 13 rfl (h.ownS 20 rfl) ElemOf111 rfl rfl rfl a62.1 a62.2 fun w u63 h => wl_ok (r_assign (v := u63) rfl) (wl_nil (inBlock_normal (then_loop ?_)))
             subst hnx23
             exact lend ⟨m221, u63, (x16 ++ [(⟨(y36 + 1), y44, y48, y52, y56, y60⟩ : GStmt)]), y57, y58⟩ ⟨h.cn _, hs⟩
            ·
             refine wc_seq (wc_region (wl_ok (r_fieldAddr Fld147x0 rfl) (wl_ok (r_ldB h 15 rfl One3 rfl rfl) (wl_ok (r_eql rfl rfl) (wl_nil (then_normal (wc_ifb hs rfl (fun c64 hs => ?_) (fun c64 hs => ?_))))))))
             ·
              refine wc_region (wl_ok (r_ldP (k := 0) h 9 rfl One166 rfl rfl) (wl_ok (r_move (v := (.int .i64 (a))) rfl) ?_))
              obtain ⟨a65, hs⟩ := o_grd hs
              refine wl_ok (r_add rfl rfl a65) ?_
              replace h := h.pair 1 2 (by decide)
              obtain ⟨l66a, l66b, l66c⟩ := h.lendS 1 (C := (.two (.blk ba [(.int .i64 (y53))]) (.blk bo [(.bool (y54))]) : Chunk)) rfl ⟨trivial, trivial⟩
              obtain ⟨y67, e68, hs⟩ := o_bind hs
              refine w_call fnOk109 rfl rfl (ih _ _ l66c (hT.goK h.keep hG) ba bo bw bwd bf be bb (⟨y53, y54⟩ : RdSt) l66a l66b vW W (h.rdC 1 3 rfl rfl) vF F (h.srSr 1 4 rfl rfl) (by obtain ⟨E, hE⟩ := hbw; exact ⟨E, h.keep.blk hE nbwK⟩) nbw (by obtain ⟨E, hE⟩ := hbwd; exact ⟨E, h.keep.blk hE nbwdK⟩) nbwd (by obtain ⟨E, hE⟩ := hbf; exact ⟨E, h.keep.blk hE nbfK⟩) nbf (by obtain ⟨E, hE⟩ := hbe; exact ⟨E, h.keep.blk hE nbeK⟩) nbe (by obtain ⟨E, hE⟩ := hbb; exact ⟨E, h.keep.blk hE nbbK⟩) nbb (a + 1) (h.aboveG hT hG 1 (C := (.two (.blk ba [(.int .i64 (y53))]) (.blk bo [(.bool (y54))]) : Chunk)) rfl) _ e68) ?_
              rintro _ w ⟨k71, u69, rfl, h72, h73, g70⟩
              refine ⟨_, rfl, ?_⟩
              replace h := h.back 1 (C := (.two (.blk ba [(.int .i64 (y53))]) (.blk bo [(.bool (y54))]) : Chunk)) (C' := (.two (.blk ba [(.int .i64 (y67.2.at_))]) (.blk bo [(.bool (y67.2.ok))]) : Chunk)) rfl ⟨trivial, trivial⟩ h72 k71 h73
              replace h := h.knowRd 21 (backRd g70)
              replace h := h.unpair 1 2 (by decide) rfl rfl
              refine wl_ok (r_fieldAddr Fld147x5 rfl) (w_st1 h 15 [(.int .i64 ((y36 + 1))), (.int .i64 (y44)), v47, v51, v55, u69] rfl One111 rfl rfl rfl rfl (h.rdAt 21 rfl).one fun w h => wl_nil (then_loop ?_))
              replace h := h.copyR 21 19 rfl
              exact jend (y67.2.at_, y67.2.ok, u69, y67.1) ⟨h.cn _, hs⟩
             ·
              refine wc_skip (then_loop ?_)
              replace h := h.knowRd 19 (Rd2.nil (R := rStmt))
              exact jend (y53, y54, (.slice none 0 0), []) ⟨h.cn _, hs⟩
           ·
            refine wc_seq (wc_region (wl_ok (r_fieldAddr Fld147x0 rfl) (wl_ok (r_ldB h 15 rfl One3 rfl rfl) (wl_ok (r_eql rfl rfl) (wl_ok (r_move (v := (.bool (decide (((y36 + 1) : Int) = 6)))) rfl) (wl_gd0 rfl rfl (fun q => r_fieldAddr Fld147x0 rfl) (wl_gd0 rfl rfl (fun q => r_ldB h 15 rfl One3 (gvt q) rfl) (wl_gd0 rfl rfl (fun q => r_eql (gvt q) rfl) (wl_ok (r_por rfl rfl evc) (wl_nil (then_normal (wc_ifb hs rfl (fun c74 hs => ?_) (fun c74 hs => ?_)))))))))))))
            ·
             refine wc_region (wl_ok (r_ldP (k := 0) h 9 rfl One166 rfl rfl) (wl_ok (r_move (v := (.int .i64 (a))) rfl) ?_))
             obtain ⟨a75, hs⟩ := o_grd hs
             refine wl_ok (r_add rfl rfl a75) ?_
             replace h := h.pair 1 2 (by decide)
             obtain ⟨l76a, l76b, l76c⟩ := h.lendS 1 (C := (.two (.blk ba [(.int .i64 (y49))]) (.blk bo [(.bool (y50))]) : Chunk)) rfl ⟨trivial, trivial⟩
             obtain ⟨y77, e78, hs⟩ := o_bind hs
             refine w_call fnOk109 rfl rfl (ih _ _ l76c (hT.goK h.keep hG) ba bo bw bwd bf be bb (⟨y49, y50⟩ : RdSt) l76a l76b vW W (h.rdC 1 3 rfl rfl) vF F (h.srSr 1 4 rfl rfl) (by obtain ⟨E, hE⟩ := hbw; exact ⟨E, h.keep.blk hE nbwK⟩) nbw (by obtain ⟨E, hE⟩ := hbwd; exact ⟨E, h.keep.blk hE nbwdK⟩) nbwd (by obtain ⟨E, hE⟩ := hbf; exact ⟨E, h.keep.blk hE nbfK⟩) nbf (by obtain ⟨E, hE⟩ := hbe; exact ⟨E, h.keep.blk hE nbeK⟩) nbe (by obtain ⟨E, hE⟩ := hbb; exact ⟨E, h.keep.blk hE nbbK⟩) nbb (a + 1) (h.aboveG hT hG 1 (C := (.two (.blk ba [(.int .i64 (y49))]) (.blk bo [(.bool (y50))]) : Chunk)) rfl) _ e78) ?_
             rintro _ w ⟨k81, u79, rfl, h82, h83, g80⟩
             refine ⟨_, rfl, ?_⟩
             replace h := h.back 1 (C := (.two (.blk ba [(.int .i64 (y49))]) (.blk bo [(.bool (y50))]) : Chunk)) (C' := (.two (.blk ba [(.int .i64 (y77.2.at_))]) (.blk bo [(.bool (y77.2.ok))]) : Chunk)) rfl ⟨trivial, trivial⟩ h82 k81 h83
             replace h := h.knowRd 22 (backRd g80)
             replace h := h.unpair 1 2 (by decide) rfl rfl
             refine wl_ok (r_fieldAddr Fld147x4 rfl) (w_st1 h 15 [(.int .i64 ((y36 + 1))), (.int .i64 (y44)), v47, v51, u79, (.slice none 0 0)] rfl One111 rfl rfl rfl rfl (h.rdAt 22 rfl).one fun w h => wl_nil (then_loop ?_))
             replace h := h.copyR 22 18 rfl
             exact jend (y77.2.at_, y77.2.ok, u79, y77.1) ⟨h.cn _, hs⟩
            ·
             refine wc_skip (then_loop ?_)
             replace h := h.knowRd 18 (Rd2.nil (R := rStmt))
             exact jend (y49, y50, (.slice none 0 0), []) ⟨h.cn _, hs⟩
          ·
           refine wc_seq (wc_region (wl_ok (r_fieldAddr Fld147x0 rfl) (wl_ok (r_ldB h 15 rfl One3 rfl rfl) (wl_ok (r_eql rfl rfl) (wl_nil (then_normal (wc_ifb hs rfl (fun c84 hs => ?_) (fun c84 hs => ?_))))))))
           ·
            refine wc_region (wl_ok (r_ldP (k := 0) h 8 rfl One165 rfl rfl) ?_)
            replace h := h.pair 1 2 (by decide)
            obtain ⟨l85a, l85b, l85c⟩ := h.lendS 1 (C := (.two (.blk ba [(.int .i64 (y45))]) (.blk bo [(.bool (y46))]) : Chunk)) rfl ⟨trivial, trivial⟩
            obtain ⟨y86, e87, hs⟩ := o_bind hs
            refine w_call fnOk104 rfl rfl (srdExpr_c N _ _ l85c (hT.goK h.keep hG) ba bo bw bwd bf (⟨y45, y46⟩ : RdSt) l85a l85b vW W (h.rdC 1 3 rfl rfl) vF F (h.srSr 1 4 rfl rfl) (by obtain ⟨E, hE⟩ := hbw; exact ⟨E, h.keep.blk hE nbwK⟩) nbw (by obtain ⟨E, hE⟩ := hbwd; exact ⟨E, h.keep.blk hE nbwdK⟩) nbwd (by obtain ⟨E, hE⟩ := hbf; exact ⟨E, h.keep.blk hE nbfK⟩) nbf (h.aboveG hT hG 1 (C := (.two (.blk ba [(.int .i64 (y45))]) (.blk bo [(.bool (y46))]) : Chunk)) rfl) _ e87) ?_
            rintro _ w ⟨k90, u88, rfl, h91, h92, g89⟩
            refine ⟨_, rfl, ?_⟩
            replace h := h.back 1 (C := (.two (.blk ba [(.int .i64 (y45))]) (.blk bo [(.bool (y46))]) : Chunk)) (C' := (.two (.blk ba [(.int .i64 (y86.2.at_))]) (.blk bo [(.bool (y86.2.ok))]) : Chunk)) rfl ⟨trivial, trivial⟩ h91 k90 h92
            replace h := h.knowRd 23 (backRd g89)
            replace h := h.unpair 1 2 (by decide) rfl rfl
            refine wl_ok (r_fieldAddr Fld147x3 rfl) (w_st1 h 15 [(.int .i64 ((y36 + 1))), (.int .i64 (y44)), v47, u88, (.slice none 0 0), (.slice none 0 0)] rfl One145 rfl rfl rfl rfl (h.rdAt 23 rfl).one fun w h => wl_nil (then_loop ?_))
            replace h := h.copyR 23 17 rfl
            exact jend (y86.2.at_, y86.2.ok, u88, y86.1) ⟨h.cn _, hs⟩
           ·
            refine wc_skip (then_loop ?_)
            replace h := h.knowRd 17 (Rd2.nil (R := rTok))
            exact jend (y45, y46, (.slice none 0 0), []) ⟨h.cn _, hs⟩
         ·
          refine wc_seq (wc_region (wl_ok (r_fieldAddr Fld147x0 rfl) (wl_ok (r_ldB h 15 rfl One3 rfl rfl) (wl_ok (r_neq rfl rfl) (wl_nil (then_normal (wc_ifb hs rfl (fun c93 hs => ?_) (fun c93 hs => ?_))))))))
          ·
           refine wc_region (wl_ok (r_ldP (k := 0) h 8 rfl One165 rfl rfl) ?_)
           replace h := h.pair 1 2 (by decide)
           obtain ⟨l94a, l94b, l94c⟩ := h.lendS 1 (C := (.two (.blk ba [(.int .i64 (y42))]) (.blk bo [(.bool (y43))]) : Chunk)) rfl ⟨trivial, trivial⟩
           obtain ⟨y95, e96, hs⟩ := o_bind hs
           refine w_call fnOk104 rfl rfl (srdExpr_c N _ _ l94c (hT.goK h.keep hG) ba bo bw bwd bf (⟨y42, y43⟩ : RdSt) l94a l94b vW W (h.rdC 1 3 rfl rfl) vF F (h.srSr 1 4 rfl rfl) (by obtain ⟨E, hE⟩ := hbw; exact ⟨E, h.keep.blk hE nbwK⟩) nbw (by obtain ⟨E, hE⟩ := hbwd; exact ⟨E, h.keep.blk hE nbwdK⟩) nbwd (by obtain ⟨E, hE⟩ := hbf; exact ⟨E, h.keep.blk hE nbfK⟩) nbf (h.aboveG hT hG 1 (C := (.two (.blk ba [(.int .i64 (y42))]) (.blk bo [(.bool (y43))]) : Chunk)) rfl) _ e96) ?_
           rintro _ w ⟨k99, u97, rfl, h100, h101, g98⟩
           refine ⟨_, rfl, ?_⟩
           replace h := h.back 1 (C := (.two (.blk ba [(.int .i64 (y42))]) (.blk bo [(.bool (y43))]) : Chunk)) (C' := (.two (.blk ba [(.int .i64 (y95.2.at_))]) (.blk bo [(.bool (y95.2.ok))]) : Chunk)) rfl ⟨trivial, trivial⟩ h100 k99 h101
           replace h := h.knowRd 24 (backRd g98)
           replace h := h.unpair 1 2 (by decide) rfl rfl
           refine wl_ok (r_fieldAddr Fld147x2 rfl) (w_st1 h 15 [(.int .i64 ((y36 + 1))), (.int .i64 (y44)), u97, (.slice none 0 0), (.slice none 0 0), (.slice none 0 0)] rfl One145 rfl rfl rfl rfl (h.rdAt 24 rfl).one fun w h => wl_nil (then_loop ?_))
           replace h := h.copyR 24 16 rfl
           exact jend (y95.2.at_, y95.2.ok, u97, y95.1) ⟨h.cn _, hs⟩
          ·
           refine wc_skip (then_loop ?_)
           replace h := h.knowRd 16 (Rd2.nil (R := rTok))
           exact jend (y42, y43, (.slice none 0 0), []) ⟨h.cn _, hs⟩
        ·
         refine wc_seq (wc_region (wl_ok (r_fieldAddr Fld147x0 rfl) (wl_ok (r_ldB h 15 rfl One3 rfl rfl) (wl_ok (r_leq rfl rfl) (wl_nil (then_normal (wc_ifb hs rfl (fun c102 hs => ?_) (fun c102 hs => ?_))))))))
         ·
          refine wc_region (wl_ok (r_ldP (k := 0) h 6 rfl One159 rfl rfl) (w_callIn (args := [(.pointer (some ⟨ba, 0, none⟩)), (.pointer (some ⟨bw, 0, none⟩)), (.pointer (some ⟨bo, 0, none⟩))]) fnOk103 rfl rfl (calls_start (args := [(.pointer (some ⟨ba, 0, none⟩)), (.pointer (some ⟨bw, 0, none⟩)), (.pointer (some ⟨bo, 0, none⟩))]) Tryz.func103 rfl Tryz.ntmps103 (Nat.le_of_ble_eq_true rfl) (wc_seq (wc_region (wl_ok (r_assign (v := (strV [])) rfl) (wl_nil (then_normal (wc_seq (wc_seq (wc_region (wl_ok (r_ldB h 1 rfl One3 rfl rfl) (wl_ok (r_ldP (k := 0) h 5 rfl One153 rfl rfl) (wl_ok (r_len SliceOf153 rfl (h.rdS 3 rfl)) (wl_ok (r_geq rfl rfl) (wl_nil (then_normal (wc_ifb hs rfl (fun c103 hs => ?_) (fun c103 hs => ?_)))))))))))))))))))
          ·
           refine wc_seq (wc_region (w_st1 h 2 [(.bool (false))] rfl One4 rfl rfl rfl rfl rfl fun w h => wl_nil (then_normal (wc_seq (wc_region (wl_ok (r_assign (v := (strV [])) rfl) (wl_nil (then_normal (wc_ret (then_ret (fin1 (v := (strV [])) Tryz.results103 rfl (⟨_, rfl, ?_⟩))))))))))))
           obtain ⟨y104, e105, hs⟩ := o_bind hs
           refine w_call fnOk102 rfl rfl (strconv_Atoi_c _ _ h.lt (hT.goK h.keep hG) [] _ e105) ?_
           rintro _ w ⟨k108, u106, rfl, g107⟩
           refine ⟨_, rfl, ?_⟩
           replace h := h.grow k108
           refine wl_ok (r_move (v := (.tuple #[(.int .i64 (y104.1)), u106])) rfl) (wl_ok (r_extract rfl rfl) (wl_ok (r_extract rfl rfl) (wl_ok (r_fieldAddr Fld147x1 rfl) (w_st1 h 15 [(.int .i64 ((y36 + 1))), (.int .i64 (y104.1)), (.slice none 0 0), (.slice none 0 0), (.slice none 0 0), (.slice none 0 0)] rfl One3 rfl rfl rfl rfl rfl fun w h => wl_nil (then_loop ?_)))))
           exact jend (y28, false, y104.1) ⟨h.cn _, hs⟩
          ·
           refine wc_skip (then_normal (wc_seq (wc_region (wl_ok (r_ldB h 1 rfl One3 rfl rfl) ?_))))
           obtain ⟨a109, hs⟩ := o_grd hs
           refine wl_ok (r_add rfl rfl a109) (w_st1 h 1 [(.int .i64 ((y28 + 1)))] rfl One3 rfl rfl rfl rfl rfl fun w h => wl_nil (then_normal (wc_seq (wc_region (wl_ok (r_ldP (k := 0) h 5 rfl One153 rfl rfl) (wl_ok (r_ldB h 1 rfl One3 rfl rfl) ?_))))))
           obtain ⟨a110, hs⟩ := o_grd hs
           refine wl_ok (r_sub rfl rfl a110) ?_
           obtain ⟨x111, e112, hs⟩ := o_bind hs
           obtain ⟨b114, o115, cs116, h, r117, i113⟩ := h.ixR 3 25 rfl SliceOf153 rfl (o_idx e112).1 (o_idx e112).2
           obtain rfl := r117
           refine wl_ok (i113 _ _ _ _ _ _ _ _ _ rfl rfl) (wl_ok (r_ldP (k := 0) h 25 rfl One9 rfl rfl) (wl_ok (r_assign (v := (strV x111)) rfl) (wl_nil (then_normal (wc_ret (fin1 (v := (strV x111)) Tryz.results103 rfl (⟨_, rfl, ?_⟩)))))))
           obtain ⟨y118, e119, hs⟩ := o_bind hs
           refine w_call fnOk102 rfl rfl (strconv_Atoi_c _ _ h.lt (hT.goK h.keep hG) x111 _ e119) ?_
           rintro _ w ⟨k122, u120, rfl, g121⟩
           refine ⟨_, rfl, ?_⟩
           replace h := h.grow k122
           refine wl_ok (r_move (v := (.tuple #[(.int .i64 (y118.1)), u120])) rfl) (wl_ok (r_extract rfl rfl) (wl_ok (r_extract rfl rfl) (wl_ok (r_fieldAddr Fld147x1 rfl) (w_st1 h 15 [(.int .i64 ((y36 + 1))), (.int .i64 (y118.1)), (.slice none 0 0), (.slice none 0 0), (.slice none 0 0), (.slice none 0 0)] rfl One3 rfl rfl rfl rfl rfl fun w h => wl_nil (then_loop ?_)))))
           exact jend ((y28 + 1), (y29 && decide ((0 : Int) < (y36 + 1))), y118.1) ⟨h.cn _, hs⟩
         ·
          refine wc_skip (then_loop ?_)
          exact jend (y28, (y29 && decide ((0 : Int) < (y36 + 1))), 0) ⟨h.cn _, hs⟩
     ·
      refine wc_region (wl_ok (r_ldP (k := 0) h 6 rfl One159 rfl rfl) (w_callIn (args := [(.pointer (some ⟨ba, 0, none⟩)), (.pointer (some ⟨bw, 0, none⟩)), (.pointer (some ⟨bo, 0, none⟩))]) fnOk103 rfl rfl (calls_start (args := [(.pointer (some ⟨ba, 0, none⟩)), (.pointer (some ⟨bw, 0, none⟩)), (.pointer (some ⟨bo, 0, none⟩))]) Tryz.func103 rfl Tryz.ntmps103 (Nat.le_of_ble_eq_true rfl) (wc_seq (wc_region (wl_ok (r_assign (v := (strV [])) rfl) (wl_nil (then_normal (wc_seq (wc_seq (wc_region (wl_ok (r_ldB h 1 rfl One3 rfl rfl) (wl_ok (r_ldP (k := 0) h 5 rfl One153 rfl rfl) (wl_ok (r_len SliceOf153 rfl (h.rdS 3 rfl)) (wl_ok (r_geq rfl rfl) (wl_nil (then_normal (wc_ifb hs rfl (fun c123 hs => ?_) (fun c123 hs => ?_)))))))))))))))))))
      ·
       refine wc_seq (wc_region (w_st1 h 2 [(.bool (false))] rfl One4 rfl rfl rfl rfl rfl fun w h => wl_nil (then_normal (wc_seq (wc_region (wl_ok (r_assign (v := (strV [])) rfl) (wl_nil (then_normal (wc_ret (then_ret (fin1 (v := (strV [])) Tryz.results103 rfl (⟨_, rfl, ?_⟩))))))))))))
       refine wl_ok (r_assign (v := (strV [])) rfl) (wl_nil (then_loop ?_))
       exact jend ([], y17, false) ⟨h.cn _, hs⟩
      ·
       refine wc_skip (then_normal (wc_seq (wc_region (wl_ok (r_ldB h 1 rfl One3 rfl rfl) ?_))))
       obtain ⟨a124, hs⟩ := o_grd hs
       refine wl_ok (r_add rfl rfl a124) (w_st1 h 1 [(.int .i64 ((y17 + 1)))] rfl One3 rfl rfl rfl rfl rfl fun w h => wl_nil (then_normal (wc_seq (wc_region (wl_ok (r_ldP (k := 0) h 5 rfl One153 rfl rfl) (wl_ok (r_ldB h 1 rfl One3 rfl rfl) ?_))))))
       obtain ⟨a125, hs⟩ := o_grd hs
       refine wl_ok (r_sub rfl rfl a125) ?_
       obtain ⟨x126, e127, hs⟩ := o_bind hs
       obtain ⟨b129, o130, cs131, h, r132, i128⟩ := h.ixR 3 26 rfl SliceOf153 rfl (o_idx e127).1 (o_idx e127).2
       obtain rfl := r132
       refine wl_ok (i128 _ _ _ _ _ _ _ _ _ rfl rfl) (wl_ok (r_ldP (k := 0) h 26 rfl One9 rfl rfl) (wl_ok (r_assign (v := (strV x126)) rfl) (wl_nil (then_normal (wc_ret (fin1 (v := (strV x126)) Tryz.results103 rfl (⟨_, rfl, ?_⟩)))))))
       refine wl_ok (r_assign (v := (strV x126)) rfl) (wl_nil (then_loop ?_))
       exact jend (x126, (y17 + 1), y18) ⟨h.cn _, hs⟩
    ·
     refine wc_exit (then_exit (then_exit (inBlock_eq (then_normal (wc_seq (wc_region (wl_ok (r_assign (v := (.slice none 0 0)) rfl) (wl_nil (then_normal (wc_ret (fin1 (v := (.slice none 0 0)) Tryz.results109 rfl ?_)))))))))))
     replace h := h.pair 1 2 (by decide)
     obtain rfl := Option.some.inj hs
     subst hK0
     obtain ⟨o1, o2, o3⟩ := h.outS 1 (C := (.two (.blk ba [(.int .i64 (y17))]) (.blk bo [(.bool (y18))]) : Chunk)) rfl ⟨trivial, trivial⟩
     exact ⟨o2, .slice none 0 0, rfl, o1, o3, Rd2.nil⟩
  ·
   refine wc_join (σ := Bool × Int × Bool) (inl [10, 11, 12, 13, 14, 15, 16]) (fun ⟨x133, y134, y135⟩ => [(16, (.bool (x133)))]) (fun ⟨x133, y134, y135⟩ w => SH w0 M K0 w (hset [(1, .blk ba [(.int .i64 (y134))]), (2, .blk bo [(.bool (y135))]), (3, .rd rStr vW W), (4, .sr rFun vF F), (5, .pt bw 0 [vW]), (6, .pt bwd 0 [(.func (.func 103) #[] #[(.pointer (some ⟨ba, 0, none⟩)), (.pointer (some ⟨bw, 0, none⟩)), (.pointer (some ⟨bo, 0, none⟩))])]), (7, .pt bf 0 [vF]), (8, .pt be 0 [(.func (.func 104) #[] #[(.pointer (some ⟨bo, 0, none⟩)), (.pointer (some ⟨bwd, 0, none⟩)), (.pointer (some ⟨bf, 0, none⟩))])]), (9, .pt bb 0 [(.func (.func 109) #[] #[(.pointer (some ⟨bwd, 0, none⟩)), (.pointer (some ⟨bo, 0, none⟩)), (.pointer (some ⟨be, 0, none⟩)), (.pointer (some ⟨bb, 0, none⟩))])])]) ∧ srdBlock_j41 N F0 W F a x133 y134 y135 = some r) ?_ ?_
   ·
    rintro ⟨x133, y134, y135⟩ w junk ⟨h, hs⟩
    refine wc_ifb hs rfl (fun c136 hs => ?_) (fun c136 hs => ?_)
    ·
     refine wc_region (w_st1 h 2 [(.bool (false))] rfl One4 rfl rfl rfl rfl rfl fun w h => wl_nil (then_loop ?_))
     exact jend (y134, false) ⟨h.cn _, hs⟩
    ·
     refine wc_skip (then_loop ?_)
     exact jend (y134, y135) ⟨h.cn _, hs⟩
   ·
    refine wc_region (wl_ok (r_ldP (k := 0) h 6 rfl One159 rfl rfl) (w_callIn (args := [(.pointer (some ⟨ba, 0, none⟩)), (.pointer (some ⟨bw, 0, none⟩)), (.pointer (some ⟨bo, 0, none⟩))]) fnOk103 rfl rfl (calls_start (args := [(.pointer (some ⟨ba, 0, none⟩)), (.pointer (some ⟨bw, 0, none⟩)), (.pointer (some ⟨bo, 0, none⟩))]) Tryz.func103 rfl Tryz.ntmps103 (Nat.le_of_ble_eq_true rfl) (wc_seq (wc_region (wl_ok (r_assign (v := (strV [])) rfl) (wl_nil (then_normal (wc_seq (wc_seq (wc_region (wl_ok (r_ldB h 1 rfl One3 rfl rfl) (wl_ok (r_ldP (k := 0) h 5 rfl One153 rfl rfl) (wl_ok (r_len SliceOf153 rfl (h.rdS 3 rfl)) (wl_ok (r_geq rfl rfl) (wl_nil (then_normal (wc_ifb hs rfl (fun c137 hs => ?_) (fun c137 hs => ?_)))))))))))))))))))
    ·
     refine wc_seq (wc_region (w_st1 h 2 [(.bool (false))] rfl One4 rfl rfl rfl rfl rfl fun w h => wl_nil (then_normal (wc_seq (wc_region (wl_ok (r_assign (v := (strV [])) rfl) (wl_nil (then_normal (wc_ret (then_ret (fin1 (v := (strV [])) Tryz.results103 rfl (⟨_, rfl, ?_⟩))))))))))))
     refine wl_ok (r_neqs rfl rfl) (wl_ok (r_move (v := (.bool (true))) rfl) (wl_off (b' := true) rfl rfl rfl (wl_off (b' := true) rfl rfl rfl (wl_ok (r_pick (b := true) (v := (.bool (true))) rfl rfl) (wl_nil (then_loop ?_))))))
     exact jend (true, sx.at_, false) ⟨h.cn _, hs⟩
    ·
     refine wc_skip (then_normal (wc_seq (wc_region (wl_ok (r_ldB h 1 rfl One3 rfl rfl) ?_))))
     obtain ⟨a138, hs⟩ := o_grd hs
     refine wl_ok (r_add rfl rfl a138) (w_st1 h 1 [(.int .i64 ((sx.at_ + 1)))] rfl One3 rfl rfl rfl rfl rfl fun w h => wl_nil (then_normal (wc_seq (wc_region (wl_ok (r_ldP (k := 0) h 5 rfl One153 rfl rfl) (wl_ok (r_ldB h 1 rfl One3 rfl rfl) ?_))))))
     obtain ⟨a139, hs⟩ := o_grd hs
     refine wl_ok (r_sub rfl rfl a139) ?_
     obtain ⟨x140, e141, hs⟩ := o_bind hs
     obtain ⟨b143, o144, cs145, h, r146, i142⟩ := h.ixR 3 27 rfl SliceOf153 rfl (o_idx e141).1 (o_idx e141).2
     obtain rfl := r146
     refine wl_ok (i142 _ _ _ _ _ _ _ _ _ rfl rfl) (wl_ok (r_ldP (k := 0) h 27 rfl One9 rfl rfl) (wl_ok (r_assign (v := (strV x140)) rfl) (wl_nil (then_normal (wc_ret (fin1 (v := (strV x140)) Tryz.results103 rfl (⟨_, rfl, ?_⟩)))))))
     refine wl_ok (r_neqs rfl rfl) (wl_ok (r_move (v := (.bool (decide ((x140 : Str) ≠ [123])))) rfl) (wl_gd0 rfl rfl (fun q => r_move (v := (.int .i64 (a))) rfl) (wl_gd0 rfl rfl (fun q => r_gtr (gvt q) rfl) (wl_ok (r_por rfl rfl evc) (wl_nil (then_loop ?_))))))
     exact jend ((decide ((x140 : Str) ≠ [123]) || decide ((6 : Int) < a)), (sx.at_ + 1), sx.ok) ⟨h.cn _, hs⟩
def wandererref_SourceRead_j19 (nx20 : List Fun → Option (List Fun × Int)) (y24 : List Fun) : Option (List Fun × Int) :=
  nx20 y24
def wandererref_SourceRead_j20 (y1 : List Str) (i17 : Int) (y15 : List Fun) (nx20 : List Fun → Option (List Fun × Int)) (x30 : Bool) : Option (List Fun × Int) :=
  bif x30 then (idx y1 (i17 + 1)).bind fun x32 => (atoiS x32).bind fun y39 => grd (I64 (i17 + 2)) ((idx y1 (i17 + 2)).bind fun x45 => (atoiS x45).bind fun y52 => grd (Room 40 y15 [(⟨y39.1, y52.1, []⟩ : Fun)]) (wandererref_SourceRead_j19 nx20 (y15 ++ [(⟨y39.1, y52.1, []⟩ : Fun)]))) else wandererref_SourceRead_j19 nx20 y15
def wandererref_SourceRead_j83 (N : Nat) (y1 : List Str) (y97 : List Fun) (i101 : Int) (nx104 : (List Fun × Int × Bool) → Option (List Fun × Int)) (y111 : Int) (y112 : Bool) : Option (List Fun × Int) :=
  (srdBlock N (⟨y111, y112⟩ : RdSt) y1 y97 1).bind fun yq122x3_2 => (idx y97 i101).bind fun xq122x4_1 => nx104 ((y97.set (i101).toNat { xq122x4_1 with body := yq122x3_2.1 }), yq122x3_2.2.at_, yq122x3_2.2.ok)
def wandererref_SourceRead_j82 (N : Nat) (y1 : List Str) (y97 : List Fun) (i101 : Int) (nx104 : (List Fun × Int × Bool) → Option (List Fun × Int)) (y109 : Int) (y110 : Bool) : Option (List Fun × Int) :=
  bif decide (((y1.length : Int) : Int) ≤ y109) then wandererref_SourceRead_j83 N y1 y97 i101 nx104 y109 false else grd (I64 (y109 + 1)) (grd (I64 ((y109 + 1) - 1)) ((idx y1 ((y109 + 1) - 1)).bind fun x128 => wandererref_SourceRead_j83 N y1 y97 i101 nx104 (y109 + 1) y110))
def wandererref_SourceRead_j81 (N : Nat) (y1 : List Str) (y97 : List Fun) (i101 : Int) (nx104 : (List Fun × Int × Bool) → Option (List Fun × Int)) (y107 : Int) (y108 : Bool) : Option (List Fun × Int) :=
  bif decide (((y1.length : Int) : Int) ≤ y107) then wandererref_SourceRead_j82 N y1 y97 i101 nx104 y107 false else grd (I64 (y107 + 1)) (grd (I64 ((y107 + 1) - 1)) ((idx y1 ((y107 + 1) - 1)).bind fun x138 => wandererref_SourceRead_j82 N y1 y97 i101 nx104 (y107 + 1) y108))
def wandererref_SourceRead_j84 (N : Nat) (y1 : List Str) (y97 : List Fun) (i101 : Int) (nx104 : (List Fun × Int × Bool) → Option (List Fun × Int)) (x145 : Bool) (y146 : Int) (y147 : Bool) : Option (List Fun × Int) :=
  bif x145 then wandererref_SourceRead_j81 N y1 y97 i101 nx104 y146 false else wandererref_SourceRead_j81 N y1 y97 i101 nx104 y146 y147
def wandererref_SourceRead_j86 (y97 : List Fun) (x159 : Bool) : Option (List Fun × Int) :=
  bif x159 then some ([], 1) else some (y97, 0)
def wandererref_SourceRead_b87 (N : Nat) (y1 : List Str) (i101 : Int) (s : List Fun × Int × Bool) (nx104 : List Fun × Int × Bool → Option (List Fun × Int)) : Option (List Fun × Int) :=
  match s with | (y97, y98, y99) => bif decide (((y1.length : Int) : Int) ≤ y98) then wandererref_SourceRead_j84 N y1 y97 i101 nx104 true y98 false else grd (I64 (y98 + 1)) (grd (I64 ((y98 + 1) - 1)) ((idx y1 ((y98 + 1) - 1)).bind fun x152 => wandererref_SourceRead_j84 N y1 y97 i101 nx104 (decide ((x152 : Str) ≠ [102, 117, 110])) (y98 + 1) y99))
def wandererref_SourceRead_k88 (N : Nat) (y1 : List Str) (a : Str) (s : List Fun × Int × Bool) : Option (List Fun × Int) :=
  match s with | (y97, y98, y99) => bif ((!y99) || decide ((y98 : Int) < (y1.length : Int))) then wandererref_SourceRead_j86 y97 true else (wandererref_CheckSource N y97).bind fun y162 => bif decide ((y162 : Int) ≠ 0) then wandererref_SourceRead_j86 y97 true else (wandererref_SourceText N y97).bind fun y166 => wandererref_SourceRead_j86 y97 (decide ((y166 : Str) ≠ a))
def wandererref_SourceRead_b89 (y15 : List Fun) (i64 : Int) (s : Unit) (nx67 : Unit → Option (List Fun × Int)) : Option (List Fun × Int) :=
  (idx y15 i64).bind fun x70 => bif (!(wandererref_in x70.params 0 3)) then some ([], 1) else nx67 ()
def wandererref_SourceRead_k90 (N : Nat) (y1 : List Str) (a : Str) (y15 : List Fun) (s : Unit) : Option (List Fun × Int) :=
  upto (wandererref_SourceRead_b87 N y1) (wandererref_SourceRead_k88 N y1 a) 0 ((y15.length : Int)).toNat (y15, 0, true)
def wandererref_SourceRead_b91 (y1 : List Str) (i17 : Int) (x18 : Str) (y15 : List Fun) (nx20 : List Fun → Option (List Fun × Int)) : Option (List Fun × Int) :=
  bif decide ((x18 : Str) = [102, 117, 110]) then grd (I64 (i17 + 2)) (wandererref_SourceRead_j20 y1 i17 y15 nx20 (decide (((i17 + 2) : Int) < (y1.length : Int)))) else wandererref_SourceRead_j20 y1 i17 y15 nx20 false
def wandererref_SourceRead_k92 (N : Nat) (y1 : List Str) (a : Str) (y15 : List Fun) : Option (List Fun × Int) :=
  bif (decide (((y15.length : Int) : Int) = 0) || decide ((4 : Int) < (y15.length : Int))) then some ([], 1) else upto (wandererref_SourceRead_b89 y15) (wandererref_SourceRead_k90 N y1 a y15) 0 ((y15.length : Int)).toNat ()
def wandererref_SourceRead (N : Nat) (a : Str) : Option (List Fun × Int) :=
  (splitS a [32]).bind fun y1 => eachI (wandererref_SourceRead_b91 y1) (wandererref_SourceRead_k92 N y1 a) 0 y1 []
end
end Go.Proofs.YtfclkapelkhlpaaGreatDoor
