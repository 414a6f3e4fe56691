/-
  Functions of the program, each as plain Lean, and that the code does just that.
-/
import Derived.Test.YtckocfgmnlhcmaaGreatDoorProg
import Derived.Test.YtckocfgmnlhcmaaGreatDoorLiftD
import Derived.Test.YtckocfgmnlhcmaaGreatDoorCodStrs
import Derived.Test.YtckocfgmnlhcmaaGreatDoorCodShelf
set_option linter.unusedSimpArgs false
set_option linter.unusedVariables false
set_option maxRecDepth 10000
namespace Go.Proofs.YtckocfgmnlhcmaaGreatDoor
open Go Go.Proofs Go.LX
theorem Arr2124 : Arr2 Tryz.prog 124 41 := ⟨Tryz.underlying124, ⟨(.slice none 0 0), (.slice none 0 0), by kernel_rfl⟩, by kernel_rfl, ⟨_, Tryz.underlying41⟩⟩
theorem ArrS129 : ArrS Tryz.prog 129 9 6 := ⟨Tryz.underlying129, by kernel_rfl, by kernel_rfl, Tryz.underlying9⟩
theorem ElemOf107 : ElemOf Tryz.prog 107 41 1 24 := ⟨Tryz.underlying107, elem_of (z := (.slice none 0 0)) (by kernel_rfl) rfl⟩
theorem ElemOf22 : ElemOf Tryz.prog 22 43 3 40 := ⟨Tryz.underlying22, elem_of (z := (.agg #[(.int .i64 (0)), (.int .i64 (0)), (.slice none 0 0)])) (by kernel_rfl) rfl⟩
theorem ElemOf33 : ElemOf Tryz.prog 33 40 3 40 := ⟨Tryz.underlying33, elem_of (z := (.agg #[(.int .i64 (0)), (.int .i64 (0)), (.slice none 0 0)])) (by kernel_rfl) rfl⟩
theorem ElemOf38 : ElemOf Tryz.prog 38 90 5 56 := ⟨Tryz.underlying38, elem_of (z := (.agg #[(.int .i64 (0)), (.int .i64 (0)), (.int .i64 (0)), (.int .i64 (0)), (.slice none 0 0)])) (by kernel_rfl) rfl⟩
theorem ElemOf41 : ElemOf Tryz.prog 41 65 6 112 := ⟨Tryz.underlying41, elem_of (z := (.agg #[(.int .i64 (0)), (.int .i64 (0)), (.slice none 0 0), (.slice none 0 0), (.slice none 0 0), (.slice none 0 0)])) (by kernel_rfl) rfl⟩
theorem ElemOf51 : ElemOf Tryz.prog 51 3 1 8 := ⟨Tryz.underlying51, elem_of (z := (.int .i64 (0))) (by kernel_rfl) rfl⟩
theorem ElemOf63 : ElemOf Tryz.prog 63 71 2 16 := ⟨Tryz.underlying63, elem_of (z := (.agg #[(.int .i64 (0)), (.int .i64 (0))])) (by kernel_rfl) rfl⟩
theorem Fld40x0 : FieldAt Tryz.prog 40 0 0 := ⟨_, _, 0, Tryz.underlying40, rfl, rfl, by kernel_rfl⟩
theorem Fld40x1 : FieldAt Tryz.prog 40 1 1 := ⟨_, _, 0, Tryz.underlying40, rfl, rfl, by kernel_rfl⟩
theorem Fld40x2 : FieldAt Tryz.prog 40 2 2 := ⟨_, _, 0, Tryz.underlying40, rfl, rfl, by kernel_rfl⟩
theorem Fld43x0 : FieldAt Tryz.prog 43 0 0 := ⟨_, _, 0, Tryz.underlying43, rfl, rfl, by kernel_rfl⟩
theorem Fld43x1 : FieldAt Tryz.prog 43 1 1 := ⟨_, _, 0, Tryz.underlying43, rfl, rfl, by kernel_rfl⟩
theorem Fld43x2 : FieldAt Tryz.prog 43 2 2 := ⟨_, _, 0, Tryz.underlying43, rfl, rfl, by kernel_rfl⟩
theorem Fld54x0 : FieldAt Tryz.prog 54 0 0 := ⟨_, _, 0, Tryz.underlying54, rfl, rfl, by kernel_rfl⟩
theorem Fld54x1 : FieldAt Tryz.prog 54 1 1 := ⟨_, _, 0, Tryz.underlying54, rfl, rfl, by kernel_rfl⟩
theorem Fld54x2 : FieldAt Tryz.prog 54 2 2 := ⟨_, _, 0, Tryz.underlying54, rfl, rfl, by kernel_rfl⟩
theorem Fld65x0 : FieldAt Tryz.prog 65 0 0 := ⟨_, _, 0, Tryz.underlying65, rfl, rfl, by kernel_rfl⟩
theorem Fld65x1 : FieldAt Tryz.prog 65 1 1 := ⟨_, _, 0, Tryz.underlying65, rfl, rfl, by kernel_rfl⟩
theorem Fld65x2 : FieldAt Tryz.prog 65 2 2 := ⟨_, _, 0, Tryz.underlying65, rfl, rfl, by kernel_rfl⟩
theorem Fld65x3 : FieldAt Tryz.prog 65 3 3 := ⟨_, _, 0, Tryz.underlying65, rfl, rfl, by kernel_rfl⟩
theorem Fld65x4 : FieldAt Tryz.prog 65 4 4 := ⟨_, _, 0, Tryz.underlying65, rfl, rfl, by kernel_rfl⟩
theorem Fld65x5 : FieldAt Tryz.prog 65 5 5 := ⟨_, _, 0, Tryz.underlying65, rfl, rfl, by kernel_rfl⟩
theorem Fld71x0 : FieldAt Tryz.prog 71 0 0 := ⟨_, _, 0, Tryz.underlying71, rfl, rfl, by kernel_rfl⟩
theorem Fld71x1 : FieldAt Tryz.prog 71 1 1 := ⟨_, _, 0, Tryz.underlying71, rfl, rfl, by kernel_rfl⟩
theorem Fld85x0 : FieldAt Tryz.prog 85 0 0 := ⟨_, _, 0, Tryz.underlying85, rfl, rfl, by kernel_rfl⟩
theorem Fld85x1 : FieldAt Tryz.prog 85 1 1 := ⟨_, _, 0, Tryz.underlying85, rfl, rfl, by kernel_rfl⟩
theorem Fld85x2 : FieldAt Tryz.prog 85 2 2 := ⟨_, _, 0, Tryz.underlying85, rfl, rfl, by kernel_rfl⟩
theorem Fld90x0 : FieldAt Tryz.prog 90 0 0 := ⟨_, _, 0, Tryz.underlying90, rfl, rfl, by kernel_rfl⟩
theorem Fld90x1 : FieldAt Tryz.prog 90 1 1 := ⟨_, _, 0, Tryz.underlying90, rfl, rfl, by kernel_rfl⟩
theorem Fld90x2 : FieldAt Tryz.prog 90 2 2 := ⟨_, _, 0, Tryz.underlying90, rfl, rfl, by kernel_rfl⟩
theorem Fld90x3 : FieldAt Tryz.prog 90 3 3 := ⟨_, _, 0, Tryz.underlying90, rfl, rfl, by kernel_rfl⟩
theorem Fld90x4 : FieldAt Tryz.prog 90 4 4 := ⟨_, _, 0, Tryz.underlying90, rfl, rfl, by kernel_rfl⟩
theorem fnOk100 : FnOk Tryz.prog 100 := ⟨_, Tryz.func100, by kernel_rfl, rfl⟩
theorem fnOk102 : FnOk Tryz.prog 102 := ⟨_, Tryz.func102, by kernel_rfl, rfl⟩
theorem fnOk118 : FnOk Tryz.prog 118 := ⟨_, Tryz.func118, by kernel_rfl, rfl⟩
theorem fnOk119 : FnOk Tryz.prog 119 := ⟨_, Tryz.func119, by kernel_rfl, rfl⟩
theorem fnOk12 : FnOk Tryz.prog 12 := ⟨_, Tryz.func12, by kernel_rfl, rfl⟩
theorem fnOk120 : FnOk Tryz.prog 120 := ⟨_, Tryz.func120, by kernel_rfl, rfl⟩
theorem fnOk13 : FnOk Tryz.prog 13 := ⟨_, Tryz.func13, by kernel_rfl, rfl⟩
theorem fnOk133 : FnOk Tryz.prog 133 := ⟨_, Tryz.func133, by kernel_rfl, rfl⟩
theorem fnOk14 : FnOk Tryz.prog 14 := ⟨_, Tryz.func14, by kernel_rfl, rfl⟩
theorem fnOk15 : FnOk Tryz.prog 15 := ⟨_, Tryz.func15, by kernel_rfl, rfl⟩
theorem fnOk16 : FnOk Tryz.prog 16 := ⟨_, Tryz.func16, by kernel_rfl, rfl⟩
theorem fnOk17 : FnOk Tryz.prog 17 := ⟨_, Tryz.func17, by kernel_rfl, rfl⟩
theorem fnOk18 : FnOk Tryz.prog 18 := ⟨_, Tryz.func18, by kernel_rfl, rfl⟩
theorem fnOk19 : FnOk Tryz.prog 19 := ⟨_, Tryz.func19, by kernel_rfl, rfl⟩
theorem fnOk22 : FnOk Tryz.prog 22 := ⟨_, Tryz.func22, by kernel_rfl, rfl⟩
theorem fnOk23 : FnOk Tryz.prog 23 := ⟨_, Tryz.func23, by kernel_rfl, rfl⟩
theorem fnOk24 : FnOk Tryz.prog 24 := ⟨_, Tryz.func24, by kernel_rfl, rfl⟩
theorem fnOk25 : FnOk Tryz.prog 25 := ⟨_, Tryz.func25, by kernel_rfl, rfl⟩
theorem fnOk26 : FnOk Tryz.prog 26 := ⟨_, Tryz.func26, by kernel_rfl, rfl⟩
theorem fnOk27 : FnOk Tryz.prog 27 := ⟨_, Tryz.func27, by kernel_rfl, rfl⟩
theorem fnOk28 : FnOk Tryz.prog 28 := ⟨_, Tryz.func28, by kernel_rfl, rfl⟩
theorem fnOk29 : FnOk Tryz.prog 29 := ⟨_, Tryz.func29, by kernel_rfl, rfl⟩
theorem fnOk31 : FnOk Tryz.prog 31 := ⟨_, Tryz.func31, by kernel_rfl, rfl⟩
theorem fnOk36 : FnOk Tryz.prog 36 := ⟨_, Tryz.func36, by kernel_rfl, rfl⟩
theorem fnOk37 : FnOk Tryz.prog 37 := ⟨_, Tryz.func37, by kernel_rfl, rfl⟩
theorem fnOk39 : FnOk Tryz.prog 39 := ⟨_, Tryz.func39, by kernel_rfl, rfl⟩
theorem fnOk44 : FnOk Tryz.prog 44 := ⟨_, Tryz.func44, by kernel_rfl, rfl⟩
theorem fnOk45 : FnOk Tryz.prog 45 := ⟨_, Tryz.func45, by kernel_rfl, rfl⟩
theorem fnOk46 : FnOk Tryz.prog 46 := ⟨_, Tryz.func46, by kernel_rfl, rfl⟩
theorem fnOk47 : FnOk Tryz.prog 47 := ⟨_, Tryz.func47, by kernel_rfl, rfl⟩
theorem fnOk48 : FnOk Tryz.prog 48 := ⟨_, Tryz.func48, by kernel_rfl, rfl⟩
theorem fnOk49 : FnOk Tryz.prog 49 := ⟨_, Tryz.func49, by kernel_rfl, rfl⟩
theorem fnOk50 : FnOk Tryz.prog 50 := ⟨_, Tryz.func50, by kernel_rfl, rfl⟩
theorem fnOk51 : FnOk Tryz.prog 51 := ⟨_, Tryz.func51, by kernel_rfl, rfl⟩
theorem fnOk52 : FnOk Tryz.prog 52 := ⟨_, Tryz.func52, by kernel_rfl, rfl⟩
theorem fnOk53 : FnOk Tryz.prog 53 := ⟨_, Tryz.func53, by kernel_rfl, rfl⟩
theorem fnOk54 : FnOk Tryz.prog 54 := ⟨_, Tryz.func54, by kernel_rfl, rfl⟩
theorem fnOk55 : FnOk Tryz.prog 55 := ⟨_, Tryz.func55, by kernel_rfl, rfl⟩
theorem fnOk56 : FnOk Tryz.prog 56 := ⟨_, Tryz.func56, by kernel_rfl, rfl⟩
theorem fnOk57 : FnOk Tryz.prog 57 := ⟨_, Tryz.func57, by kernel_rfl, rfl⟩
theorem fnOk6 : FnOk Tryz.prog 6 := ⟨_, Tryz.func6, by kernel_rfl, rfl⟩
theorem fnOk64 : FnOk Tryz.prog 64 := ⟨_, Tryz.func64, by kernel_rfl, rfl⟩
theorem fnOk65 : FnOk Tryz.prog 65 := ⟨_, Tryz.func65, by kernel_rfl, rfl⟩
theorem fnOk66 : FnOk Tryz.prog 66 := ⟨_, Tryz.func66, by kernel_rfl, rfl⟩
theorem fnOk67 : FnOk Tryz.prog 67 := ⟨_, Tryz.func67, by kernel_rfl, rfl⟩
theorem fnOk68 : FnOk Tryz.prog 68 := ⟨_, Tryz.func68, by kernel_rfl, rfl⟩
theorem fnOk69 : FnOk Tryz.prog 69 := ⟨_, Tryz.func69, by kernel_rfl, rfl⟩
theorem fnOk7 : FnOk Tryz.prog 7 := ⟨_, Tryz.func7, by kernel_rfl, rfl⟩
theorem fnOk74 : FnOk Tryz.prog 74 := ⟨_, Tryz.func74, by kernel_rfl, rfl⟩
theorem fnOk78 : FnOk Tryz.prog 78 := ⟨_, Tryz.func78, by kernel_rfl, rfl⟩
theorem fnOk79 : FnOk Tryz.prog 79 := ⟨_, Tryz.func79, by kernel_rfl, rfl⟩
theorem fnOk80 : FnOk Tryz.prog 80 := ⟨_, Tryz.func80, by kernel_rfl, rfl⟩
theorem fnOk81 : FnOk Tryz.prog 81 := ⟨_, Tryz.func81, by kernel_rfl, rfl⟩
theorem fnOk82 : FnOk Tryz.prog 82 := ⟨_, Tryz.func82, by kernel_rfl, rfl⟩
theorem fnOk90 : FnOk Tryz.prog 90 := ⟨_, Tryz.func90, by kernel_rfl, rfl⟩
theorem fnOk91 : FnOk Tryz.prog 91 := ⟨_, Tryz.func91, by kernel_rfl, rfl⟩
theorem fnOk92 : FnOk Tryz.prog 92 := ⟨_, Tryz.func92, by kernel_rfl, rfl⟩
theorem fnOk93 : FnOk Tryz.prog 93 := ⟨_, Tryz.func93, by kernel_rfl, rfl⟩
theorem fnOk94 : FnOk Tryz.prog 94 := ⟨_, Tryz.func94, by kernel_rfl, rfl⟩
theorem IfaceT67 : IfaceT Tryz.prog 67 := ⟨by kernel_rfl⟩
theorem Many129 : Many Tryz.prog 129 [(strV []), (strV []), (strV []), (strV []), (strV []), (strV [])] := ⟨⟨_, Tryz.underlying129, trivial⟩, by kernel_rfl⟩
theorem Many40 : Many Tryz.prog 40 [(.int .i64 (0)), (.int .i64 (0)), (.slice none 0 0)] := ⟨⟨_, Tryz.underlying40, trivial⟩, by kernel_rfl⟩
theorem Many43 : Many Tryz.prog 43 [(.int .i64 (0)), (.int .i64 (0)), (.slice none 0 0)] := ⟨⟨_, Tryz.underlying43, trivial⟩, by kernel_rfl⟩
theorem Many65 : Many Tryz.prog 65 [(.int .i64 (0)), (.int .i64 (0)), (.slice none 0 0), (.slice none 0 0), (.slice none 0 0), (.slice none 0 0)] := ⟨⟨_, Tryz.underlying65, trivial⟩, by kernel_rfl⟩
theorem Many71 : Many Tryz.prog 71 [(.int .i64 (0)), (.int .i64 (0))] := ⟨⟨_, Tryz.underlying71, trivial⟩, by kernel_rfl⟩
theorem Many90 : Many Tryz.prog 90 [(.int .i64 (0)), (.int .i64 (0)), (.int .i64 (0)), (.int .i64 (0)), (.slice none 0 0)] := ⟨⟨_, Tryz.underlying90, trivial⟩, by kernel_rfl⟩
theorem MapOf72 : MapOf Tryz.prog 72 (strV []) := ⟨_, _, Tryz.underlying72, Tryz.underlying3, by kernel_rfl⟩
theorem One22 : One Tryz.prog 22 (.slice none 0 0) := ⟨⟨_, Tryz.underlying22, trivial⟩, by kernel_rfl, rfl⟩
theorem One3 : One Tryz.prog 3 (.int .i64 (0)) := ⟨⟨_, Tryz.underlying3, trivial⟩, by kernel_rfl, rfl⟩
theorem One38 : One Tryz.prog 38 (.slice none 0 0) := ⟨⟨_, Tryz.underlying38, trivial⟩, by kernel_rfl, rfl⟩
theorem One4 : One Tryz.prog 4 (.bool (false)) := ⟨⟨_, Tryz.underlying4, trivial⟩, by kernel_rfl, rfl⟩
theorem One41 : One Tryz.prog 41 (.slice none 0 0) := ⟨⟨_, Tryz.underlying41, trivial⟩, by kernel_rfl, rfl⟩
theorem One45 : One Tryz.prog 45 (.slice none 0 0) := ⟨⟨_, Tryz.underlying45, trivial⟩, by kernel_rfl, rfl⟩
theorem One51 : One Tryz.prog 51 (.slice none 0 0) := ⟨⟨_, Tryz.underlying51, trivial⟩, by kernel_rfl, rfl⟩
theorem One63 : One Tryz.prog 63 (.slice none 0 0) := ⟨⟨_, Tryz.underlying63, trivial⟩, by kernel_rfl, rfl⟩
theorem One9 : One Tryz.prog 9 (strV []) := ⟨⟨_, Tryz.underlying9, trivial⟩, by kernel_rfl, rfl⟩
theorem SliceOf107 : SliceOf Tryz.prog 107 41 1 := ⟨Tryz.underlying107, by kernel_rfl⟩
theorem SliceOf22 : SliceOf Tryz.prog 22 43 3 := ⟨Tryz.underlying22, by kernel_rfl⟩
theorem SliceOf33 : SliceOf Tryz.prog 33 40 3 := ⟨Tryz.underlying33, by kernel_rfl⟩
theorem SliceOf38 : SliceOf Tryz.prog 38 90 5 := ⟨Tryz.underlying38, by kernel_rfl⟩
theorem SliceOf41 : SliceOf Tryz.prog 41 65 6 := ⟨Tryz.underlying41, by kernel_rfl⟩
theorem SliceOf45 : SliceOf Tryz.prog 45 9 1 := ⟨Tryz.underlying45, by kernel_rfl⟩
theorem SliceOf51 : SliceOf Tryz.prog 51 3 1 := ⟨Tryz.underlying51, by kernel_rfl⟩
theorem SliceOf63 : SliceOf Tryz.prog 63 71 2 := ⟨Tryz.underlying63, by kernel_rfl⟩
theorem Struct40 : Struct Tryz.prog 40 [(.int .i64 (0)), (.int .i64 (0)), (.slice none 0 0)] [(0, 1), (1, 1), (2, 1)] := ⟨by kernel_rfl, _, Tryz.underlying40, by kernel_rfl⟩
theorem Struct54 : Struct Tryz.prog 54 [(.slice none 0 0), (.slice none 0 0), (.bool (false))] [(0, 1), (1, 1), (2, 1)] := ⟨by kernel_rfl, _, Tryz.underlying54, by kernel_rfl⟩
theorem Struct65 : Struct Tryz.prog 65 [(.int .i64 (0)), (.int .i64 (0)), (.slice none 0 0), (.slice none 0 0), (.slice none 0 0), (.slice none 0 0)] [(0, 1), (1, 1), (2, 1), (3, 1), (4, 1), (5, 1)] := ⟨by kernel_rfl, _, Tryz.underlying65, by kernel_rfl⟩
theorem Struct71 : Struct Tryz.prog 71 [(.int .i64 (0)), (.int .i64 (0))] [(0, 1), (1, 1)] := ⟨by kernel_rfl, _, Tryz.underlying71, by kernel_rfl⟩
theorem Struct85 : Struct Tryz.prog 85 [(.slice none 0 0), (.slice none 0 0), (.int .i64 (0))] [(0, 1), (1, 1), (2, 1)] := ⟨by kernel_rfl, _, Tryz.underlying85, by kernel_rfl⟩
theorem Struct90 : Struct Tryz.prog 90 [(.int .i64 (0)), (.int .i64 (0)), (.int .i64 (0)), (.int .i64 (0)), (.slice none 0 0)] [(0, 1), (1, 1), (2, 1), (3, 1), (4, 1)] := ⟨by kernel_rfl, _, Tryz.underlying90, by kernel_rfl⟩
theorem mixed : Tryz.prog.follows .mixedOrders = true := by kernel_rfl
def source_count_j26 (nx10 : Int → Option (Int × Bool)) (x30 : Int) : Option (Int × Bool) :=
  nx10 x30
def source_count_j25 (F0 : List GStmt → Int → Option (Int × Bool)) (x8 : GStmt) (b : Int) (nx10 : Int → Option (Int × Bool)) (x29 : Int) : Option (Int × Bool) :=
  bif decide (((x8.b.length : Int) : Int) = 0) then source_count_j26 nx10 x29 else grd (I64 (b + 1)) ((F0 x8.b (b + 1)).bind fun y33 => grd (I64 (x29 + y33.1)) (bif ((!y33.2) || decide ((30 : Int) < (x29 + y33.1))) then some (0, false) else source_count_j26 nx10 (x29 + y33.1)))
def source_count_b27 (F0 : List GStmt → Int → Option (Int × Bool)) (a : List GStmt) (b : Int) (x8 : GStmt) (x5 : Int) (nx10 : Int → Option (Int × Bool)) : Option (Int × Bool) :=
  grd (I64 (x5 + 1)) (bif decide ((30 : Int) < (x5 + 1)) then some (0, false) else bif decide (((x8.a.length : Int) : Int) = 0) then source_count_j25 F0 x8 b nx10 (x5 + 1) else grd (I64 (b + 1)) ((F0 x8.a (b + 1)).bind fun y40 => grd (I64 ((x5 + 1) + y40.1)) (bif ((!y40.2) || decide ((30 : Int) < ((x5 + 1) + y40.1))) then some (0, false) else source_count_j25 F0 x8 b nx10 ((x5 + 1) + y40.1))))
def source_count_k28 (x5 : Int) : Option (Int × Bool) :=
  some (x5, true)
def source_count_r (F0 : List GStmt → Int → Option (Int × Bool)) (a : List GStmt) (b : Int) : Option (Int × Bool) :=
  bif decide ((4 : Int) < b) then some (0, false) else each (source_count_b27 F0 a b) source_count_k28 a 0
def source_count : Nat → List GStmt → Int → Option (Int × Bool)
  | 0 => fun _ _ => none
  | N + 1 => source_count_r (source_count N)
theorem source_count_c : ∀ (N : Nat) (w0 : World) (M : BS) (hM : ∀ b, M b → b < w0.heap.size) (va : Value) (a : List GStmt) (ha : Rd2 rStmt w0 BE M va a) (b : Int) (r : Int × Bool) (hs : source_count N a b = some r),
    Calls Tryz.prog 56 #[va, (.int .i64 (b))] w0 (fun e w' => Grow w0 w' ∧ e = .returned (.tuple #[.int .i64 r.1, .bool r.2])) := by
  intro N
  induction N with
  | zero => intro w0 M hM va a ha b r hs; cases hs
  | succ N ih =>
  intro w0 M hM va a ha b r hs
  replace hs : source_count_r (source_count N) a b = some r := hs
  generalize source_count N = F0 at hs ih
  refine calls_start (args := [va, (.int .i64 (b))]) Tryz.func56 rfl Tryz.ntmps56 (Nat.le_of_ble_eq_true rfl) ?_
  have h := SH.init hM
  replace h := h.argSr 1 ha none_own
  have hl_a := ha.len_le
  refine wc_seq (wc_region (wl_ok (r_assign (v := (.int .i64 (0))) rfl) (wl_ok (r_assign (v := (.bool (false))) rfl) (wl_nil (then_normal (wc_seq (wc_seq (wc_region (wl_ok (r_move (v := (.int .i64 (b))) rfl) (wl_ok (r_gtr rfl rfl) (wl_nil (then_normal (wc_ifb hs rfl (fun c1 hs => ?_) (fun c1 hs => ?_))))))))))))))
  ·
   refine wc_seq (wc_region (wl_ok (r_assign (v := (.int .i64 (0))) rfl) (wl_ok (r_assign (v := (.bool (false))) rfl) (wl_nil (then_normal (wc_ret (then_ret (fin2 (v1 := (.int .i64 (0))) (v2 := (.bool (false))) Tryz.results56 rfl rfl ?_))))))))
   obtain rfl := Option.some.inj hs
   exact ⟨h.grown, rfl⟩
  ·
   refine wc_skip (then_normal (wc_seq (wc_region (wl_ok (r_assign (v := (.int .i64 (0))) rfl) (wl_nil (then_normal (wc_seq (wc_seq (wc_region (wl_ok (r_move (v := va) rfl) (wl_ok (r_len SliceOf41 rfl (h.srS 1 rfl)) (wl_ok (r_move (v := (.int .i64 (0))) rfl) (wl_nil (then_normal (wc_block (wc_lp (σ := Nat × Int × Int) (inl [4, 5, 6, 8, 10, 11, 12, 17, 18, 19, 20, 21, 22, 23, 24, 25, 26, 27, 28, 29, 30, 31, 32, 33, 34, 35, 36, 37, 38, 39, 40, 41, 42, 43, 44, 45, 46, 47, 48, 49, 50, 51, 52, 53]) (fun ⟨k6, i7, x5⟩ => [(6, (.int .i64 (x5))), (17, (.int .i64 (i7)))]) (fun ⟨k6, i7, x5⟩ w => SH w0 M BE w (hset [(1, .sr rStmt va a)]) ∧ i7 = (k6 : Int) ∧ each (source_count_b27 F0 a b) source_count_k28 (a.drop k6) x5 = some r) (fun ⟨k6, i7, x5⟩ => a.length - k6) ⟨0, 0, 0⟩ ⟨rfl, rfl, trivial⟩ ?_ ?_))))))))))))))))
   ·
    exact ⟨h.cn _, rfl, hs⟩
   ·
    rintro ⟨k6, i7, x5⟩ w junk ⟨h, hik, hs⟩
    refine wc_seq (wc_region ?_)
    refine wl_ok (r_lss rfl rfl) (wl_nil (then_normal ?_))
    refine wc_seq (wc_if rfl (fun e11 => ?_) (fun e11 => ?_))
    ·
     refine wc_skip (then_normal ?_)
     obtain ⟨x8, e12a, e12b⟩ := drop_lt (hik ▸ e11)
     rw [e12b, each_cons] at hs
     generalize hnx10 : each (source_count_b27 F0 a b) source_count_k28 (a.drop (k6 + 1)) = nx10 at hs
     have e12r := nat_rng ((h.srS 1 rfl)).len_le hik e11
     refine wc_seq (wc_block (wc_seq (wc_region ?_)))
     obtain ⟨b14, o15, cs16, h, r17, i13⟩ := h.ixS 1 2 rfl SliceOf41 rfl (nat_nn hik) (get_nat hik e12a)
     obtain ⟨u18, u20, u22, u24, rfl, g19, g21, g23, g25⟩ := rStmt_open r17
     replace h := h.knowRd 3 g19.up
     replace h := h.knowRd 4 g21.up.up
     replace h := h.knowRd 5 g23.up.up.up
     replace h := h.knowRd 6 g25.up.up.up.up
     refine wl_ok (i13 _ _ _ _ _ _ _ _ _ rfl rfl) (wl_ok (r_ldPN (k := 0) (vs := [(.int .i64 (x8.kind)), (.int .i64 (x8.n)), u18, u20, u22, u24]) h 2 rfl Many65 rfl rfl rfl (Nat.le_of_ble_eq_true rfl)) (w_allocN h 7 Many65 fun w b26 h => w_stN (vs := [(.int .i64 (x8.kind)), (.int .i64 (x8.n)), u18, u20, u22, u24]) h 7 [(.int .i64 (x8.kind)), (.int .i64 (x8.n)), u18, u20, u22, u24] rfl Many65 rfl rfl rfl rfl rfl (ones_cons rfl (ones_cons rfl (ones_cons (h.rdAt 3 rfl).one (ones_cons (h.rdAt 4 rfl).one (ones_cons (h.rdAt 5 rfl).one (ones_cons (h.rdAt 6 rfl).one ones_nil)))))) fun w h => wl_nil (then_normal (wc_seq (wc_seq (wc_region (wl_ok (r_move (v := (.int .i64 (x5))) rfl) ?_)))))))
     obtain ⟨a27, hs⟩ := o_grd hs
     refine wl_ok (r_add rfl rfl a27) (wl_ok (r_assign (v := (.int .i64 ((x5 + 1)))) rfl) (wl_nil (then_normal (wc_seq (wc_region (wl_ok (r_move (v := (.int .i64 ((x5 + 1)))) rfl) (wl_ok (r_gtr rfl rfl) (wl_nil (then_normal (wc_ifb hs rfl (fun c28 hs => ?_) (fun c28 hs => ?_)))))))))))
     ·
      refine wc_seq (wc_region (wl_ok (r_assign (v := (.int .i64 (0))) rfl) (wl_ok (r_assign (v := (.bool (false))) rfl) (wl_nil (then_normal (wc_ret (then_ret (inBlock_ret (then_ret (then_ret (inBlock_ret (then_ret (fin2 (v1 := (.int .i64 (0))) (v2 := (.bool (false))) Tryz.results56 rfl rfl ?_)))))))))))))
      obtain rfl := Option.some.inj hs
      exact ⟨h.grown, rfl⟩
     ·
      refine wc_skip (then_normal (wc_seq (wc_region (wl_ok (r_fieldAddr Fld65x4 rfl) (wl_ok (r_ldB h 7 rfl One41 rfl rfl) (wl_ok (r_fieldAddr Fld65x5 rfl) (wl_ok (r_ldB h 7 rfl One41 rfl rfl) (wl_ok (r_build2 Arr2124 rfl rfl (h.rdAt 5 rfl).one (h.rdAt 6 rfl).one) (wl_ok (r_move (v := (.int .i64 (0))) rfl) (wl_nil (then_normal (wc_block (wc_rounds 2 (wc_seq (wc_region (wl_ok (r_lss rfl rfl) (wl_nil (then_normal (wc_seq (wc_ift rfl (wc_skip (then_normal (wc_join (σ := Int) (inl [4, 5, 6, 10, 11, 12, 32, 33, 34, 35, 36, 37, 38, 39, 40, 41, 42, 43, 44, 45, 46, 47, 48, 49, 50, 51]) (fun x29 => [(6, (.int .i64 (x29)))]) (fun x29 w => SH w0 M BE w (hset [(1, .sr rStmt va a), (5, .rd rStmt u22 x8.a), (6, .rd rStmt u24 x8.b)]) ∧ source_count_j25 F0 x8 b nx10 x29 = some r) ?_ ?_)))))))))))))))))))))))
      ·
       rintro x29 w junk ⟨h, hs⟩
       refine wc_region (wl_ok (r_add rfl rfl (by decide)) (wl_ok (r_move (v := (.int .i64 (1))) rfl) (wl_nil (then_round (wc_seq (wc_region (wl_ok (r_lss rfl rfl) (wl_nil (then_normal (wc_seq (wc_ift rfl (wc_skip (then_normal (wc_join (σ := Int) (inl [4, 5, 6, 10, 11, 12, 32, 33, 34, 35, 36, 37, 38, 39, 40, 41, 42, 43, 44, 45, 46, 47, 48, 49, 50, 51]) (fun x30 => [(6, (.int .i64 (x30)))]) (fun x30 w => SH w0 M BE w (hset [(1, .sr rStmt va a), (5, .rd rStmt u22 x8.a), (6, .rd rStmt u24 x8.b)]) ∧ source_count_j26 nx10 x30 = some r) ?_ ?_))))))))))))))
       ·
        rintro x30 w junk ⟨h, hs⟩
        refine wc_region (wl_ok (r_add rfl rfl (by decide)) (wl_ok (r_move (v := (.int .i64 (2))) rfl) (wl_nil (then_round (wc_seq (wc_region (wl_ok (r_lss rfl rfl) (wl_nil (then_normal (wc_seq (wc_iff rfl (wc_exit (then_exit (then_exit (inBlock_eq (inBlock_normal (then_normal (wc_region (wl_ok (r_add rfl rfl e12r) (wl_ok (r_move (v := (.int .i64 ((i7 + 1)))) rfl) (wl_nil (then_loop ?_))))))))))))))))))))))
        subst hnx10
        exact lend ⟨k6 + 1, i7 + 1, x30⟩ ⟨h.cn _, by omega, hs⟩ (by have := of_decide_eq_true e11; dsimp only; omega)
       ·
        refine wc_block (wc_seq (wc_region (wl_ok (r_index2 (k := 1) Arr2124 rfl rfl rfl) (wl_ok (r_assign (v := u24) rfl) (wl_nil (then_normal (wc_seq (wc_seq (wc_region (wl_ok (r_move (v := u24) rfl) (wl_ok (r_len SliceOf41 rfl (h.rdS 6 rfl)) (wl_ok (r_eql rfl rfl) (wl_nil (then_normal (wc_ifb hs rfl (fun c31 hs => ?_) (fun c31 hs => ?_))))))))))))))))
        ·
         refine wc_exit (then_exit (inBlock_eq (then_loop ?_)))
         exact jend x29 ⟨h.cn _, hs⟩
        ·
         refine wc_skip (then_normal (wc_seq (wc_region (wl_ok (r_move (v := u24) rfl) (wl_ok (r_move (v := (.int .i64 (b))) rfl) ?_)))))
         obtain ⟨a32, hs⟩ := o_grd hs
         refine wl_ok (r_add rfl rfl a32) ?_
         obtain ⟨y33, e34, hs⟩ := o_bind hs
         refine w_call fnOk56 rfl rfl (ih _ _ h.lt u24 x8.b (h.rdS 6 rfl) (b + 1) _ e34) ?_
         rintro _ w ⟨k35, rfl⟩
         refine ⟨_, rfl, ?_⟩
         replace h := h.grow k35
         refine wl_ok (r_move (v := (.tuple #[(.int .i64 (y33.1)), (.bool (y33.2))])) rfl) (wl_ok (r_extract rfl rfl) (wl_ok (r_extract rfl rfl) (wl_ok (r_assign (v := (.int .i64 (y33.1))) rfl) (wl_ok (r_assign (v := (.bool (y33.2))) rfl) (wl_nil (then_normal (wc_seq (wc_region (wl_ok (r_move (v := (.int .i64 (x29))) rfl) (wl_ok (r_move (v := (.int .i64 (y33.1))) rfl) ?_))))))))))
         obtain ⟨a36, hs⟩ := o_grd hs
         refine wl_ok (r_add rfl rfl a36) (wl_ok (r_assign (v := (.int .i64 ((x29 + y33.1)))) rfl) (wl_nil (then_normal (wc_seq (wc_region (wl_ok (r_move (v := (.bool (y33.2))) rfl) (wl_ok (r_notb rfl) (wl_ok (r_move (v := (.bool ((!y33.2)))) rfl) (wl_gd0 rfl rfl (fun q => r_move (v := (.int .i64 ((x29 + y33.1)))) rfl) (wl_gd0 rfl rfl (fun q => r_gtr (gvt q) rfl) (wl_ok (r_por rfl rfl evc) (wl_nil (then_normal (wc_ifb hs rfl (fun c37 hs => ?_) (fun c37 hs => ?_)))))))))))))))
         ·
          refine wc_seq (wc_region (wl_ok (r_assign (v := (.int .i64 (0))) rfl) (wl_ok (r_assign (v := (.bool (false))) rfl) (wl_nil (then_normal (wc_ret (inBlock_ret (then_ret (then_ret (inBlock_ret (inBlock_ret (then_ret (then_ret (inBlock_ret (then_ret (fin2 (v1 := (.int .i64 (0))) (v2 := (.bool (false))) Tryz.results56 rfl rfl ?_))))))))))))))))
          obtain rfl := Option.some.inj hs
          exact ⟨h.grown, rfl⟩
         ·
          refine wc_skip (inBlock_normal (then_loop ?_))
          exact jend (x29 + y33.1) ⟨h.cn _, hs⟩
      ·
       refine wc_block (wc_seq (wc_region (wl_ok (r_index2 (k := 0) Arr2124 rfl rfl rfl) (wl_ok (r_assign (v := u22) rfl) (wl_nil (then_normal (wc_seq (wc_seq (wc_region (wl_ok (r_move (v := u22) rfl) (wl_ok (r_len SliceOf41 rfl (h.rdS 5 rfl)) (wl_ok (r_eql rfl rfl) (wl_nil (then_normal (wc_ifb hs rfl (fun c38 hs => ?_) (fun c38 hs => ?_))))))))))))))))
       ·
        refine wc_exit (then_exit (inBlock_eq (then_loop ?_)))
        exact jend (x5 + 1) ⟨h.cn _, hs⟩
       ·
        refine wc_skip (then_normal (wc_seq (wc_region (wl_ok (r_move (v := u22) rfl) (wl_ok (r_move (v := (.int .i64 (b))) rfl) ?_)))))
        obtain ⟨a39, hs⟩ := o_grd hs
        refine wl_ok (r_add rfl rfl a39) ?_
        obtain ⟨y40, e41, hs⟩ := o_bind hs
        refine w_call fnOk56 rfl rfl (ih _ _ h.lt u22 x8.a (h.rdS 5 rfl) (b + 1) _ e41) ?_
        rintro _ w ⟨k42, rfl⟩
        refine ⟨_, rfl, ?_⟩
        replace h := h.grow k42
        refine wl_ok (r_move (v := (.tuple #[(.int .i64 (y40.1)), (.bool (y40.2))])) rfl) (wl_ok (r_extract rfl rfl) (wl_ok (r_extract rfl rfl) (wl_ok (r_assign (v := (.int .i64 (y40.1))) rfl) (wl_ok (r_assign (v := (.bool (y40.2))) rfl) (wl_nil (then_normal (wc_seq (wc_region (wl_ok (r_move (v := (.int .i64 ((x5 + 1)))) rfl) (wl_ok (r_move (v := (.int .i64 (y40.1))) rfl) ?_))))))))))
        obtain ⟨a43, hs⟩ := o_grd hs
        refine wl_ok (r_add rfl rfl a43) (wl_ok (r_assign (v := (.int .i64 (((x5 + 1) + y40.1)))) rfl) (wl_nil (then_normal (wc_seq (wc_region (wl_ok (r_move (v := (.bool (y40.2))) rfl) (wl_ok (r_notb rfl) (wl_ok (r_move (v := (.bool ((!y40.2)))) rfl) (wl_gd0 rfl rfl (fun q => r_move (v := (.int .i64 (((x5 + 1) + y40.1)))) rfl) (wl_gd0 rfl rfl (fun q => r_gtr (gvt q) rfl) (wl_ok (r_por rfl rfl evc) (wl_nil (then_normal (wc_ifb hs rfl (fun c44 hs => ?_) (fun c44 hs => ?_)))))))))))))))
        ·
         refine wc_seq (wc_region (wl_ok (r_assign (v := (.int .i64 (0))) rfl) (wl_ok (r_assign (v := (.bool (false))) rfl) (wl_nil (then_normal (wc_ret (inBlock_ret (then_ret (then_ret (inBlock_ret (inBlock_ret (then_ret (then_ret (inBlock_ret (then_ret (fin2 (v1 := (.int .i64 (0))) (v2 := (.bool (false))) Tryz.results56 rfl rfl ?_))))))))))))))))
         obtain rfl := Option.some.inj hs
         exact ⟨h.grown, rfl⟩
        ·
         refine wc_skip (inBlock_normal (then_loop ?_))
         exact jend ((x5 + 1) + y40.1) ⟨h.cn _, hs⟩
    ·
     rw [drop_ge (hik ▸ e11), each_nil] at hs
     refine wc_exit (then_exit (then_exit (inBlock_eq (then_normal (wc_seq (wc_region (wl_ok (r_move (v := (.int .i64 (x5))) rfl) (wl_ok (r_assign (v := (.int .i64 (x5))) rfl) (wl_ok (r_assign (v := (.bool (true))) rfl) (wl_nil (then_normal (wc_ret (fin2 (v1 := (.int .i64 (x5))) (v2 := (.bool (true))) Tryz.results56 rfl rfl ?_)))))))))))))
     obtain rfl := Option.some.inj hs
     exact ⟨h.grown, rfl⟩
def source_tok_j1 (x2 : Bool) (x3 : Int) : Option (Int × Int) :=
  bif (!x2) then some (0, 3) else some (x3, 0)
def source_tok (a : Tok) (b : List Fun) (c : Int) : Option (Int × Int) :=
  bif decide ((a.kind : Int) = 1) then source_tok_j1 (decide ((-1000000000 : Int) ≤ a.n) && decide ((a.n : Int) ≤ 1000000000)) 0 else bif decide ((a.kind : Int) = 2) then source_tok_j1 (decide ((0 : Int) ≤ a.n) && decide ((a.n : Int) < c)) 0 else bif decide ((a.kind : Int) = 3) then source_tok_j1 (decide ((1 : Int) ≤ a.n) && decide ((a.n : Int) ≤ 5)) 2 else bif decide ((a.kind : Int) = 4) then source_tok_j1 (decide ((0 : Int) ≤ a.n) && decide ((a.n : Int) < 4)) 1 else bif decide ((a.kind : Int) = 5) then source_tok_j1 (decide ((1 : Int) ≤ a.n) && decide ((a.n : Int) ≤ 4)) 0 else bif decide ((a.kind : Int) = 6) then bif (decide ((a.n : Int) < 0) || decide (((b.length : Int) : Int) ≤ a.n)) then some (0, 5) else (idx b a.n).bind fun x12 => some (x12.params, 0) else some (0, 4)
theorem source_tok_c (w0 : World) (M : BS) (hM : ∀ b, M b → b < w0.heap.size) (a : Tok) (vb : Value) (b : List Fun) (hb : Rd2 rFun w0 BE M vb b) (c : Int) (r : Int × Int) (hs : source_tok a b c = some r) :
    Calls Tryz.prog 120 #[(.agg #[(.int .i64 (a.kind)), (.int .i64 (a.n))]), vb, (.int .i64 (c))] w0 (fun e w' => Grow w0 w' ∧ e = .returned (.tuple #[.int .i64 r.1, .int .i64 r.2])) := by
 refine calls_start (args := [(.agg #[(.int .i64 (a.kind)), (.int .i64 (a.n))]), vb, (.int .i64 (c))]) Tryz.func120 rfl Tryz.ntmps120 (Nat.le_of_ble_eq_true rfl) ?_
 have h := SH.init hM
 replace h := h.argSr 1 hb none_own
 have hl_b := hb.len_le
 refine wc_seq (wc_region (w_box (cs := [(.int .i64 (a.kind)), (.int .i64 (a.n))]) h 2 rfl rfl fun w b1 h => wl_ok (r_assign (v := (.int .i64 (0))) rfl) (wl_ok (r_assign (v := (.int .i64 (0))) rfl) (wl_nil (then_normal (wc_seq (wc_region (wl_ok (r_assign (v := (.bool (false))) rfl) (wl_ok (r_assign (v := (.int .i64 (0))) rfl) (wl_nil (then_normal (wc_join (σ := Bool × Int) (inl [6, 7, 8, 9, 10, 11, 12, 13, 14, 15, 16, 17, 18, 19, 20, 21, 22, 23, 24, 25, 26, 27, 28, 29, 30, 31, 32, 33, 34, 35, 36, 37, 38, 39, 40, 41, 42, 43, 44, 45, 46, 47, 48, 49, 50, 51, 52, 53, 54, 55, 56, 57, 58, 59, 60, 61, 62, 63, 64, 65, 66, 67, 68, 69, 70, 71, 72, 73, 74, 75, 76, 77, 78, 79, 80]) (fun ⟨x2, x3⟩ => [(8, (.bool (x2))), (9, (.int .i64 (x3)))]) (fun ⟨x2, x3⟩ w => SH w0 M BE w (hset []) ∧ source_tok_j1 x2 x3 = some r) ?_ ?_))))))))))))
 ·
  rintro ⟨x2, x3⟩ w junk ⟨h, hs⟩
  refine wc_seq (wc_seq (wc_region (wl_ok (r_move (v := (.bool (x2))) rfl) (wl_ok (r_notb rfl) (wl_nil (then_normal (wc_ifb hs rfl (fun c4 hs => ?_) (fun c4 hs => ?_))))))))
  ·
   refine wc_seq (wc_region (wl_ok (r_assign (v := (.int .i64 (0))) rfl) (wl_ok (r_assign (v := (.int .i64 (3))) rfl) (wl_nil (then_normal (wc_ret (then_ret (fin2 (v1 := (.int .i64 (0))) (v2 := (.int .i64 (3))) Tryz.results120 rfl rfl ?_))))))))
   obtain rfl := Option.some.inj hs
   exact ⟨h.grown, rfl⟩
  ·
   refine wc_skip (then_normal (wc_seq (wc_region (wl_ok (r_move (v := (.int .i64 (x3))) rfl) (wl_ok (r_assign (v := (.int .i64 (x3))) rfl) (wl_ok (r_assign (v := (.int .i64 (0))) rfl) (wl_nil (then_normal (wc_ret (fin2 (v1 := (.int .i64 (x3))) (v2 := (.int .i64 (0))) Tryz.results120 rfl rfl ?_))))))))))
   obtain rfl := Option.some.inj hs
   exact ⟨h.grown, rfl⟩
 ·
  refine wc_seq (wc_region (wl_ok (r_fieldAddr Fld71x0 rfl) (wl_ok (r_ldB h 2 rfl One3 rfl rfl) (wl_nil (then_normal (wc_block (wc_seq (wc_region (wl_ok (r_eql rfl rfl) (wl_ok (r_assign (v := (.bool (decide ((a.kind : Int) = 1)))) rfl) (wl_nil (then_normal (wc_ifb hs rfl (fun c5 hs => ?_) (fun c5 hs => ?_))))))))))))))
  ·
   refine wc_region (wl_ok (r_fieldAddr Fld71x1 rfl) (wl_ok (r_ldB h 2 rfl One3 rfl rfl) (wl_ok (r_geq rfl rfl) (wl_ok (r_move (v := (.bool (decide ((-1000000000 : Int) ≤ a.n)))) rfl) (wl_gd0 rfl rfl (fun q => r_fieldAddr Fld71x1 rfl) (wl_gd0 rfl rfl (fun q => r_ldB h 2 rfl One3 (gvt q) rfl) (wl_gd0 rfl rfl (fun q => r_leq (gvt q) rfl) (wl_ok (r_pand rfl rfl evc) (wl_ok (r_assign (v := (.bool ((decide ((-1000000000 : Int) ≤ a.n) && decide ((a.n : Int) ≤ 1000000000))))) rfl) (wl_nil (inBlock_normal (then_loop ?_))))))))))))
   exact jend ((decide ((-1000000000 : Int) ≤ a.n) && decide ((a.n : Int) ≤ 1000000000)), 0) ⟨h.cn _, hs⟩
  ·
   refine wc_seq (wc_region (wl_ok (r_eql rfl rfl) (wl_ok (r_assign (v := (.bool (decide ((a.kind : Int) = 2)))) rfl) (wl_nil (then_normal (wc_ifb hs rfl (fun c6 hs => ?_) (fun c6 hs => ?_)))))))
   ·
    refine wc_region (wl_ok (r_fieldAddr Fld71x1 rfl) (wl_ok (r_ldB h 2 rfl One3 rfl rfl) (wl_ok (r_geq rfl rfl) (wl_ok (r_move (v := (.bool (decide ((0 : Int) ≤ a.n)))) rfl) (wl_gd0 rfl rfl (fun q => r_fieldAddr Fld71x1 rfl) (wl_gd0 rfl rfl (fun q => r_ldB h 2 rfl One3 (gvt q) rfl) (wl_gd0 rfl rfl (fun q => r_move (v := (.int .i64 (c))) rfl) (wl_gd0 rfl rfl (fun q => r_lss (gvt q) (gvt q)) (wl_ok (r_pand rfl rfl evc) (wl_ok (r_assign (v := (.bool ((decide ((0 : Int) ≤ a.n) && decide ((a.n : Int) < c))))) rfl) (wl_nil (inBlock_normal (then_loop ?_)))))))))))))
    exact jend ((decide ((0 : Int) ≤ a.n) && decide ((a.n : Int) < c)), 0) ⟨h.cn _, hs⟩
   ·
    refine wc_seq (wc_region (wl_ok (r_eql rfl rfl) (wl_ok (r_assign (v := (.bool (decide ((a.kind : Int) = 3)))) rfl) (wl_nil (then_normal (wc_ifb hs rfl (fun c7 hs => ?_) (fun c7 hs => ?_)))))))
    ·
     refine wc_region (wl_ok (r_fieldAddr Fld71x1 rfl) (wl_ok (r_ldB h 2 rfl One3 rfl rfl) (wl_ok (r_geq rfl rfl) (wl_ok (r_move (v := (.bool (decide ((1 : Int) ≤ a.n)))) rfl) (wl_gd0 rfl rfl (fun q => r_fieldAddr Fld71x1 rfl) (wl_gd0 rfl rfl (fun q => r_ldB h 2 rfl One3 (gvt q) rfl) (wl_gd0 rfl rfl (fun q => r_leq (gvt q) rfl) (wl_ok (r_pand rfl rfl evc) (wl_ok (r_assign (v := (.bool ((decide ((1 : Int) ≤ a.n) && decide ((a.n : Int) ≤ 5))))) rfl) (wl_ok (r_assign (v := (.int .i64 (2))) rfl) (wl_nil (inBlock_normal (then_loop ?_)))))))))))))
     exact jend ((decide ((1 : Int) ≤ a.n) && decide ((a.n : Int) ≤ 5)), 2) ⟨h.cn _, hs⟩
    ·
     refine wc_seq (wc_region (wl_ok (r_eql rfl rfl) (wl_ok (r_assign (v := (.bool (decide ((a.kind : Int) = 4)))) rfl) (wl_nil (then_normal (wc_ifb hs rfl (fun c8 hs => ?_) (fun c8 hs => ?_)))))))
     ·
      refine wc_region (wl_ok (r_fieldAddr Fld71x1 rfl) (wl_ok (r_ldB h 2 rfl One3 rfl rfl) (wl_ok (r_geq rfl rfl) (wl_ok (r_move (v := (.bool (decide ((0 : Int) ≤ a.n)))) rfl) (wl_gd0 rfl rfl (fun q => r_fieldAddr Fld71x1 rfl) (wl_gd0 rfl rfl (fun q => r_ldB h 2 rfl One3 (gvt q) rfl) (wl_gd0 rfl rfl (fun q => r_lss (gvt q) rfl) (wl_ok (r_pand rfl rfl evc) (wl_ok (r_assign (v := (.bool ((decide ((0 : Int) ≤ a.n) && decide ((a.n : Int) < 4))))) rfl) (wl_ok (r_assign (v := (.int .i64 (1))) rfl) (wl_nil (inBlock_normal (then_loop ?_)))))))))))))
      exact jend ((decide ((0 : Int) ≤ a.n) && decide ((a.n : Int) < 4)), 1) ⟨h.cn _, hs⟩
     ·
      refine wc_seq (wc_region (wl_ok (r_eql rfl rfl) (wl_ok (r_assign (v := (.bool (decide ((a.kind : Int) = 5)))) rfl) (wl_nil (then_normal (wc_ifb hs rfl (fun c9 hs => ?_) (fun c9 hs => ?_)))))))
      ·
       refine wc_region (wl_ok (r_fieldAddr Fld71x1 rfl) (wl_ok (r_ldB h 2 rfl One3 rfl rfl) (wl_ok (r_geq rfl rfl) (wl_ok (r_move (v := (.bool (decide ((1 : Int) ≤ a.n)))) rfl) (wl_gd0 rfl rfl (fun q => r_fieldAddr Fld71x1 rfl) (wl_gd0 rfl rfl (fun q => r_ldB h 2 rfl One3 (gvt q) rfl) (wl_gd0 rfl rfl (fun q => r_leq (gvt q) rfl) (wl_ok (r_pand rfl rfl evc) (wl_ok (r_assign (v := (.bool ((decide ((1 : Int) ≤ a.n) && decide ((a.n : Int) ≤ 4))))) rfl) (wl_nil (inBlock_normal (then_loop ?_))))))))))))
       exact jend ((decide ((1 : Int) ≤ a.n) && decide ((a.n : Int) ≤ 4)), 0) ⟨h.cn _, hs⟩
      ·
       refine wc_seq (wc_region (wl_ok (r_eql rfl rfl) (wl_ok (r_assign (v := (.bool (decide ((a.kind : Int) = 6)))) rfl) (wl_nil (then_normal (wc_ifb hs rfl (fun c10 hs => ?_) (fun c10 hs => ?_)))))))
       ·
        refine wc_seq (wc_seq (wc_region (wl_ok (r_fieldAddr Fld71x1 rfl) (wl_ok (r_ldB h 2 rfl One3 rfl rfl) (wl_ok (r_lss rfl rfl) (wl_ok (r_move (v := (.bool (decide ((a.n : Int) < 0)))) rfl) (wl_gd0 rfl rfl (fun q => r_fieldAddr Fld71x1 rfl) (wl_gd0 rfl rfl (fun q => r_ldB h 2 rfl One3 (gvt q) rfl) (wl_gd0 rfl rfl (fun q => r_move (v := vb) rfl) (wl_gd0 rfl rfl (fun q => r_len SliceOf22 (gvt q) (h.srS 1 rfl)) (wl_gd0 rfl rfl (fun q => r_geq (gvt q) (gvt q)) (wl_ok (r_por rfl rfl evc) (wl_nil (then_normal (wc_ifb hs rfl (fun c11 hs => ?_) (fun c11 hs => ?_))))))))))))))))
        ·
         refine wc_seq (wc_region (wl_ok (r_assign (v := (.int .i64 (0))) rfl) (wl_ok (r_assign (v := (.int .i64 (5))) rfl) (wl_nil (then_normal (wc_ret (then_ret (inBlock_ret (then_ret (fin2 (v1 := (.int .i64 (0))) (v2 := (.int .i64 (5))) Tryz.results120 rfl rfl ?_))))))))))
         obtain rfl := Option.some.inj hs
         exact ⟨h.grown, rfl⟩
        ·
         refine wc_skip (then_normal (wc_seq (wc_region (wl_ok (r_move (v := vb) rfl) (wl_ok (r_fieldAddr Fld71x1 rfl) (wl_ok (r_ldB h 2 rfl One3 rfl rfl) ?_))))))
         obtain ⟨x12, e13, hs⟩ := o_bind hs
         obtain ⟨b15, o16, cs17, h, r18, i14⟩ := h.ixS 1 3 rfl SliceOf22 rfl (o_idx e13).1 (o_idx e13).2
         obtain ⟨u19, rfl, g20⟩ := rFun_open r18
         replace h := h.knowRd 4 g20.up
         refine wl_ok (i14 _ _ _ _ _ _ _ _ _ rfl rfl) (wl_ok (r_fieldAddr Fld43x0 rfl) (wl_ok (r_ldP (k := 0) h 3 rfl One3 rfl rfl) (wl_ok (r_assign (v := (.int .i64 (x12.params))) rfl) (wl_ok (r_assign (v := (.int .i64 (0))) rfl) (wl_nil (then_normal (wc_ret (inBlock_ret (then_ret (fin2 (v1 := (.int .i64 (x12.params))) (v2 := (.int .i64 (0))) Tryz.results120 rfl rfl ?_))))))))))
         obtain rfl := Option.some.inj hs
         exact ⟨h.grown, rfl⟩
       ·
        refine wc_seq (wc_region (wl_ok (r_assign (v := (.int .i64 (0))) rfl) (wl_ok (r_assign (v := (.int .i64 (4))) rfl) (wl_nil (then_normal (wc_ret (inBlock_ret (then_ret (fin2 (v1 := (.int .i64 (0))) (v2 := (.int .i64 (4))) Tryz.results120 rfl rfl ?_)))))))))
        obtain rfl := Option.some.inj hs
        exact ⟨h.grown, rfl⟩
def source_Expr_b29 (b : List Fun) (c : Int) (x10 : Tok) (x7 : Int) (nx12 : Int → Option Int) : Option Int :=
  (source_tok x10 b c).bind fun y21 => bif decide ((y21.2 : Int) ≠ 0) then some y21.2 else bif decide ((x7 : Int) = 0) then some 4 else grd (I64 (y21.1 - 1)) (grd (I64 (x7 + (y21.1 - 1))) (nx12 (x7 + (y21.1 - 1))))
def source_Expr_k30 (x7 : Int) : Option Int :=
  bif decide ((0 : Int) < x7) then some 4 else some 0
def source_Expr_j26 (b : List Fun) (c : Int) (a : List Tok) (x2 : Bool) : Option Int :=
  bif x2 then some 3 else each (source_Expr_b29 b c) source_Expr_k30 a 1
def source_Expr_b37 (b : List Fun) (c : Int) (a : List Tok) (i30 : Int) (s : Unit) (nx33 : Unit → Option Int) : Option Int :=
  (idx b i30).bind fun x36 => bif (decide ((x36.params : Int) < 0) || decide ((3 : Int) < x36.params)) then source_Expr_j26 b c a (decide ((0 : Int) ≤ i30)) else nx33 ()
def source_Expr_k38 (b : List Fun) (c : Int) (a : List Tok) (s : Unit) : Option Int :=
  source_Expr_j26 b c a false
def source_Expr (a : List Tok) (b : List Fun) (c : Int) : Option Int :=
  bif decide ((24 : Int) < (a.length : Int)) then some 2 else upto (source_Expr_b37 b c a) (source_Expr_k38 b c a) 0 ((b.length : Int)).toNat ()
theorem source_Expr_c (w0 : World) (M : BS) (hM : ∀ b, M b → b < w0.heap.size) (va : Value) (a : List Tok) (ha : Rd2 rTok w0 BE M va a) (vb : Value) (b : List Fun) (hb : Rd2 rFun w0 BE M vb b) (c : Int) (r : Int) (hs : source_Expr a b c = some r) :
    Calls Tryz.prog 102 #[va, vb, (.int .i64 (c))] w0 (fun e w' => Grow w0 w' ∧ e = .returned (.int .i64 r)) := by
 refine calls_start (args := [va, vb, (.int .i64 (c))]) Tryz.func102 rfl Tryz.ntmps102 (Nat.le_of_ble_eq_true rfl) ?_
 have h := SH.init hM
 replace h := h.argSr 1 ha none_own
 replace h := h.argSr 2 hb (hupd_own_sr none_own)
 have hl_a := ha.len_le
 have hl_b := hb.len_le
 refine wc_seq (wc_region (wl_ok (r_assign (v := (.int .i64 (0))) rfl) (wl_nil (then_normal (wc_seq (wc_seq (wc_region (wl_ok (r_move (v := va) rfl) (wl_ok (r_len SliceOf63 rfl (h.srS 1 rfl)) (wl_ok (r_gtr rfl rfl) (wl_nil (then_normal (wc_ifb hs rfl (fun c1 hs => ?_) (fun c1 hs => ?_))))))))))))))
 ·
  refine wc_seq (wc_region (wl_ok (r_assign (v := (.int .i64 (2))) rfl) (wl_nil (then_normal (wc_ret (then_ret (fin1 (v := (.int .i64 (2))) Tryz.results102 rfl ?_)))))))
  obtain rfl := Option.some.inj hs
  exact ⟨h.grown, rfl⟩
 ·
  refine wc_skip (then_normal (wc_seq (wc_join (σ := Bool) (inl [15, 16]) (fun x2 => [(16, (.bool (x2)))]) (fun x2 w => SH w0 M BE w (hset [(1, .sr rTok va a), (2, .sr rFun vb b)]) ∧ source_Expr_j26 b c a x2 = some r) ?_ ?_)))
  ·
   rintro x2 w junk ⟨h, hs⟩
   refine wc_ifb hs rfl (fun c3 hs => ?_) (fun c3 hs => ?_)
   ·
    refine wc_seq (wc_region (wl_ok (r_assign (v := (.int .i64 (3))) rfl) (wl_nil (then_normal (wc_ret (then_ret (fin1 (v := (.int .i64 (3))) Tryz.results102 rfl ?_)))))))
    obtain rfl := Option.some.inj hs
    exact ⟨h.grown, rfl⟩
   ·
    refine wc_skip (then_normal (wc_seq (wc_region (wl_ok (r_assign (v := (.int .i64 (1))) rfl) (wl_nil (then_normal (wc_seq (wc_seq (wc_region (wl_ok (r_move (v := va) rfl) (wl_ok (r_len SliceOf63 rfl (h.srS 1 rfl)) (wl_ok (r_move (v := (.int .i64 (0))) rfl) (wl_nil (then_normal (wc_block (wc_lp (σ := Nat × Int × Int) (inl [6, 7, 9, 10, 11, 19, 20, 21, 22, 23, 24, 25, 26, 27, 28, 29, 30, 31, 32, 33, 34, 35, 36, 37, 38, 39]) (fun ⟨k8, i9, x7⟩ => [(7, (.int .i64 (x7))), (19, (.int .i64 (i9)))]) (fun ⟨k8, i9, x7⟩ w => SH w0 M BE w (hset [(1, .sr rTok va a), (2, .sr rFun vb b)]) ∧ i9 = (k8 : Int) ∧ each (source_Expr_b29 b c) source_Expr_k30 (a.drop k8) x7 = some r) (fun ⟨k8, i9, x7⟩ => a.length - k8) ⟨0, 0, 1⟩ ⟨rfl, rfl, trivial⟩ ?_ ?_))))))))))))))))
    ·
     exact ⟨h.cn _, rfl, hs⟩
    ·
     rintro ⟨k8, i9, x7⟩ w junk ⟨h, hik, hs⟩
     refine wc_seq (wc_region ?_)
     refine wl_ok (r_lss rfl rfl) (wl_nil (then_normal ?_))
     refine wc_seq (wc_if rfl (fun e13 => ?_) (fun e13 => ?_))
     ·
      refine wc_skip (then_normal ?_)
      obtain ⟨x10, e14a, e14b⟩ := drop_lt (hik ▸ e13)
      rw [e14b, each_cons] at hs
      generalize hnx12 : each (source_Expr_b29 b c) source_Expr_k30 (a.drop (k8 + 1)) = nx12 at hs
      have e14r := nat_rng ((h.srS 1 rfl)).len_le hik e13
      refine wc_seq (wc_block (wc_seq (wc_region ?_)))
      obtain ⟨b16, o17, cs18, h, r19, i15⟩ := h.ixS 1 3 rfl SliceOf63 rfl (nat_nn hik) (get_nat hik e14a)
      obtain rfl := r19
      refine wl_ok (i15 _ _ _ _ _ _ _ _ _ rfl rfl) (wl_ok (r_ldPN (k := 0) (vs := [(.int .i64 (x10.kind)), (.int .i64 (x10.n))]) h 3 rfl Many71 rfl rfl rfl (Nat.le_of_ble_eq_true rfl)) (w_allocN h 4 Many71 fun w b20 h => w_stN (vs := [(.int .i64 (x10.kind)), (.int .i64 (x10.n))]) h 4 [(.int .i64 (x10.kind)), (.int .i64 (x10.n))] rfl Many71 rfl rfl rfl rfl rfl (ones_cons rfl (ones_cons rfl ones_nil)) fun w h => wl_nil (then_normal (wc_seq (wc_region (wl_ok (r_ldBN (vs := [(.int .i64 (x10.kind)), (.int .i64 (x10.n))]) h 4 rfl Many71 rfl rfl rfl) (wl_ok (r_move (v := vb) rfl) (wl_ok (r_move (v := (.int .i64 (c))) rfl) ?_))))))))
      obtain ⟨y21, e22, hs⟩ := o_bind hs
      refine w_call fnOk120 rfl rfl (source_tok_c _ _ h.lt x10 vb b (h.srS 2 rfl) c _ e22) ?_
      rintro _ w ⟨k23, rfl⟩
      refine ⟨_, rfl, ?_⟩
      replace h := h.grow k23
      refine wl_ok (r_move (v := (.tuple #[(.int .i64 (y21.1)), (.int .i64 (y21.2))])) rfl) (wl_ok (r_extract rfl rfl) (wl_ok (r_extract rfl rfl) (wl_ok (r_assign (v := (.int .i64 (y21.1))) rfl) (wl_ok (r_assign (v := (.int .i64 (y21.2))) rfl) (wl_nil (then_normal (wc_seq (wc_seq (wc_region (wl_ok (r_move (v := (.int .i64 (y21.2))) rfl) (wl_ok (r_neq rfl rfl) (wl_nil (then_normal (wc_ifb hs rfl (fun c24 hs => ?_) (fun c24 hs => ?_)))))))))))))))
      ·
       refine wc_seq (wc_region (wl_ok (r_move (v := (.int .i64 (y21.2))) rfl) (wl_ok (r_assign (v := (.int .i64 (y21.2))) rfl) (wl_nil (then_normal (wc_ret (then_ret (inBlock_ret (then_ret (then_ret (inBlock_ret (then_ret (fin1 (v := (.int .i64 (y21.2))) Tryz.results102 rfl ?_)))))))))))))
       obtain rfl := Option.some.inj hs
       exact ⟨h.grown, rfl⟩
      ·
       refine wc_skip (then_normal (wc_seq (wc_seq (wc_region (wl_ok (r_move (v := (.int .i64 (x7))) rfl) (wl_ok (r_eql rfl rfl) (wl_nil (then_normal (wc_ifb hs rfl (fun c25 hs => ?_) (fun c25 hs => ?_))))))))))
       ·
        refine wc_seq (wc_region (wl_ok (r_assign (v := (.int .i64 (4))) rfl) (wl_nil (then_normal (wc_ret (then_ret (inBlock_ret (then_ret (then_ret (inBlock_ret (then_ret (fin1 (v := (.int .i64 (4))) Tryz.results102 rfl ?_))))))))))))
        obtain rfl := Option.some.inj hs
        exact ⟨h.grown, rfl⟩
       ·
        refine wc_skip (then_normal (wc_region (wl_ok (r_move (v := (.int .i64 (x7))) rfl) (wl_ok (r_move (v := (.int .i64 (y21.1))) rfl) ?_))))
        obtain ⟨a26, hs⟩ := o_grd hs
        refine wl_ok (r_sub rfl rfl a26) ?_
        obtain ⟨a27, hs⟩ := o_grd hs
        refine wl_ok (r_add rfl rfl a27) (wl_ok (r_assign (v := (.int .i64 ((x7 + (y21.1 - 1))))) rfl) (wl_nil (inBlock_normal (then_normal (wc_region (wl_ok (r_add rfl rfl e14r) (wl_ok (r_move (v := (.int .i64 ((i9 + 1)))) rfl) (wl_nil (then_loop ?_)))))))))
        subst hnx12
        exact lend ⟨k8 + 1, i9 + 1, (x7 + (y21.1 - 1))⟩ ⟨h.cn _, by omega, hs⟩ (by have := of_decide_eq_true e13; dsimp only; omega)
     ·
      rw [drop_ge (hik ▸ e13), each_nil] at hs
      refine wc_exit (then_exit (then_exit (inBlock_eq (then_normal (wc_seq (wc_seq (wc_region (wl_ok (r_move (v := (.int .i64 (x7))) rfl) (wl_ok (r_gtr rfl rfl) (wl_nil (then_normal (wc_ifb hs rfl (fun c28 hs => ?_) (fun c28 hs => ?_)))))))))))))
      ·
       refine wc_seq (wc_region (wl_ok (r_assign (v := (.int .i64 (4))) rfl) (wl_nil (then_normal (wc_ret (then_ret (fin1 (v := (.int .i64 (4))) Tryz.results102 rfl ?_)))))))
       obtain rfl := Option.some.inj hs
       exact ⟨h.grown, rfl⟩
      ·
       refine wc_skip (then_normal (wc_seq (wc_region (wl_ok (r_assign (v := (.int .i64 (0))) rfl) (wl_nil (then_normal (wc_ret (fin1 (v := (.int .i64 (0))) Tryz.results102 rfl ?_))))))))
       obtain rfl := Option.some.inj hs
       exact ⟨h.grown, rfl⟩
  ·
   refine wc_region (wl_ok (r_move (v := vb) rfl) (w_callIn (args := [vb, (.func (.func 119) #[] #[])]) fnOk118 rfl rfl (calls_start (args := [vb, (.func (.func 119) #[] #[])]) Tryz.func118 rfl Tryz.ntmps118 (Nat.le_of_ble_eq_true rfl) (wc_seq (wc_region (wl_ok (r_assign (v := (.bool (false))) rfl) (wl_nil (then_normal (wc_seq (wc_region (wl_ok (r_move (v := vb) rfl) (wl_ok (r_move (v := (.func (.func 119) #[] #[])) rfl) (w_callIn (args := [vb, (.func (.func 119) #[] #[])]) fnOk133 rfl rfl (calls_start (args := [vb, (.func (.func 119) #[] #[])]) Tryz.func133 rfl Tryz.ntmps133 (Nat.le_of_ble_eq_true rfl) (wc_seq (wc_region (wl_ok (r_assign (v := (.int .i64 (0))) rfl) (wl_nil (then_normal (wc_seq (wc_seq (wc_region (wl_ok (r_move (v := vb) rfl) ?_)))))))))))))))))))))))
   refine wl_ok (r_len SliceOf22 rfl (h.srS 2 rfl)) (wl_ok (r_move (v := (.int .i64 (0))) rfl) (wl_nil (then_normal (wc_block ?_))))
   have hli30 := (h.srS 2 rfl).len_le
   refine wc_lp (σ := Nat × Int) (inl [4, 5, 8, 9, 10, 11, 12, 13, 14, 15, 16, 17, 18]) (fun ⟨k29, i30⟩ => [(8, (.int .i64 (i30)))]) (fun ⟨k29, i30⟩ w => SH w0 M BE w (hset [(1, .sr rTok va a), (2, .sr rFun vb b)]) ∧ i30 = (k29 : Int) ∧ upto (source_Expr_b37 b c a) (source_Expr_k38 b c a) i30 (((b.length : Int)).toNat - k29) () = some r) (fun ⟨k29, i30⟩ => ((b.length : Int)).toNat - k29) ⟨0, 0⟩ ⟨rfl, trivial⟩ ?_ ?_
   ·
    exact ⟨h.cn _, rfl, hs⟩
   ·
    rintro ⟨k29, i30⟩ w junk ⟨h, hik, hs⟩
    refine wc_seq (wc_region ?_)
    refine wl_ok (r_lss rfl rfl) (wl_nil (then_normal ?_))
    refine wc_seq (wc_if rfl (fun e34 => ?_) (fun e34 => ?_))
    ·
     refine wc_skip (then_normal ?_)
     rw [upto_lt (by have := of_decide_eq_true e34; omega)] at hs
     generalize hnx33 : upto (source_Expr_b37 b c a) (source_Expr_k38 b c a) (i30 + 1) (((b.length : Int)).toNat - (k29 + 1)) = nx33 at hs
     have e35r : I64 (i30 + 1) := (by have := of_decide_eq_true e34; have := hli30; exact I64.mk (by omega) (by omega))
     refine wc_seq (wc_block (wc_seq (wc_region (wl_ok (r_move (v := (.int .i64 (i30))) rfl) (wl_ok (r_assign (v := (.int .i64 (i30))) rfl) (wl_nil (then_normal (wc_seq (wc_region (wl_ok (r_move (v := (.func (.func 119) #[] #[])) rfl) (wl_ok (r_move (v := vb) rfl) (wl_ok (r_move (v := (.int .i64 (i30))) rfl) ?_))))))))))))
     obtain ⟨x36, e37, hs⟩ := o_bind hs
     obtain ⟨b39, o40, cs41, h, r42, i38⟩ := h.ixS 2 5 rfl SliceOf22 rfl (o_idx e37).1 (o_idx e37).2
     obtain ⟨u43, rfl, g44⟩ := rFun_open r42
     replace h := h.knowRd 6 g44.up
     refine wl_ok (i38 _ _ _ _ _ _ _ _ _ rfl rfl) (wl_ok (r_ldPN (k := 0) (vs := [(.int .i64 (x36.params)), (.int .i64 (x36.locals)), u43]) h 5 rfl Many43 rfl rfl rfl (Nat.le_of_ble_eq_true rfl)) (w_callIn (args := [(.agg #[(.int .i64 (x36.params)), (.int .i64 (x36.locals)), u43])]) fnOk119 rfl rfl (calls_start (args := [(.agg #[(.int .i64 (x36.params)), (.int .i64 (x36.locals)), u43])]) Tryz.func119 rfl Tryz.ntmps119 (Nat.le_of_ble_eq_true rfl) (wc_seq (wc_region (w_box (cs := [(.int .i64 (x36.params)), (.int .i64 (x36.locals)), u43]) h 7 rfl rfl fun w b45 h => wl_ok (r_assign (v := (.bool (false))) rfl) (wl_nil (then_normal (wc_seq (wc_region (wl_ok (r_fieldAddr Fld43x0 rfl) (wl_ok (r_ldB h 7 rfl One3 rfl rfl) (wl_ok (r_lss rfl rfl) (wl_ok (r_move (v := (.bool (decide ((x36.params : Int) < 0)))) rfl) (wl_gd0 rfl rfl (fun q => r_fieldAddr Fld43x0 rfl) (wl_gd0 rfl rfl (fun q => r_ldB h 7 rfl One3 (gvt q) rfl) (wl_gd0 rfl rfl (fun q => r_gtr (gvt q) rfl) (wl_ok (r_por rfl rfl evc) (wl_ok (r_assign (v := (.bool ((decide ((x36.params : Int) < 0) || decide ((3 : Int) < x36.params))))) rfl) (wl_nil (then_normal (wc_ret ?_))))))))))))))))))))))
     refine fin1 (v := (.bool ((decide ((x36.params : Int) < 0) || decide ((3 : Int) < x36.params))))) Tryz.results119 rfl (⟨_, rfl, ?_⟩)
     refine wl_nil (then_normal (wc_ifb hs rfl (fun c46 hs => ?_) (fun c46 hs => ?_)))
     ·
      refine wc_seq (wc_region (wl_ok (r_move (v := (.int .i64 (i30))) rfl) (wl_ok (r_assign (v := (.int .i64 (i30))) rfl) (wl_nil (then_normal (wc_ret (inBlock_ret (then_ret (then_ret (inBlock_ret (then_ret (fin1 (v := (.int .i64 (i30))) Tryz.results133 rfl (⟨_, rfl, ?_⟩)))))))))))))
      refine wl_ok (r_geq rfl rfl) (wl_ok (r_assign (v := (.bool (decide ((0 : Int) ≤ i30)))) rfl) (wl_nil (then_normal (wc_ret (fin1 (v := (.bool (decide ((0 : Int) ≤ i30)))) Tryz.results118 rfl (⟨_, rfl, ?_⟩))))))
      refine wl_nil (then_loop ?_)
      exact jend (decide ((0 : Int) ≤ i30)) ⟨h.cn _, hs⟩
     ·
      refine wc_skip (inBlock_normal (then_normal (wc_region (wl_ok (r_add rfl rfl e35r) (wl_ok (r_move (v := (.int .i64 ((i30 + 1)))) rfl) (wl_nil (then_loop ?_)))))))
      subst hnx33
      exact lend ⟨k29 + 1, i30 + 1⟩ ⟨h.cn _, by omega, hs⟩ (by have := of_decide_eq_true e34; dsimp only; omega)
    ·
     rw [upto_ge (by have := of_decide_eq_false e34; omega)] at hs
     refine wc_exit (then_exit (then_exit (inBlock_eq (then_normal (wc_seq (wc_region (wl_ok (r_assign (v := (.int .i64 (-1))) rfl) (wl_nil (then_normal (wc_ret (fin1 (v := (.int .i64 (-1))) Tryz.results133 rfl (⟨_, rfl, ?_⟩))))))))))))
     refine wl_ok (r_geq rfl rfl) (wl_ok (r_assign (v := (.bool (false))) rfl) (wl_nil (then_normal (wc_ret (fin1 (v := (.bool (false))) Tryz.results118 rfl (⟨_, rfl, ?_⟩))))))
     refine wl_nil (then_loop ?_)
     exact jend false ⟨h.cn _, hs⟩
def source_stmt_j3 (x4 : Bool) (a : GStmt) (b : List Fun) (c : Int) : Option Int :=
  bif x4 then (source_Expr a.f b c).bind fun y10 => some y10 else some 0
def source_stmt_j2 (a : GStmt) (b : List Fun) (c : Int) (x2 : Bool) (x3 : Bool) (x4 : Bool) (x5 : Bool) (x6 : Bool) : Option Int :=
  bif ((((((!x2) && decide ((a.n : Int) ≠ 0)) || ((!x3) && decide ((0 : Int) < (a.e.length : Int)))) || ((!x4) && decide ((0 : Int) < (a.f.length : Int)))) || ((!x5) && decide ((0 : Int) < (a.a.length : Int)))) || ((!x6) && decide ((0 : Int) < (a.b.length : Int)))) then some 4 else bif ((decide ((a.kind : Int) = 1) && (decide ((a.n : Int) < 0) || decide ((c : Int) ≤ a.n))) || (decide ((a.kind : Int) = 2) && (decide ((a.n : Int) < 0) || decide ((4 : Int) ≤ a.n)))) then some 3 else bif x3 then (source_Expr a.e b c).bind fun y14 => bif decide ((y14 : Int) ≠ 0) then some y14 else source_stmt_j3 x4 a b c else source_stmt_j3 x4 a b c
def source_stmt_j4 (a : GStmt) (b : List Fun) (c : Int) (x20 : Bool) : Option Int :=
  bif x20 then source_stmt_j2 a b c false true false false false else bif decide ((a.kind : Int) = 4) then source_stmt_j2 a b c false false false false false else bif decide ((a.kind : Int) = 6) then source_stmt_j2 a b c false true false true true else bif decide ((a.kind : Int) = 7) then source_stmt_j2 a b c false true false true false else some 4
def source_stmt (a : GStmt) (b : List Fun) (c : Int) : Option Int :=
  bif decide ((a.kind : Int) = 1) then source_stmt_j2 a b c true true false false false else bif decide ((a.kind : Int) = 2) then source_stmt_j2 a b c true true true false false else bif decide ((a.kind : Int) = 3) then source_stmt_j4 a b c (decide ((a.kind : Int) = 3)) else bif decide ((a.kind : Int) = 5) then source_stmt_j4 a b c (decide ((a.kind : Int) = 5)) else source_stmt_j4 a b c (decide ((a.kind : Int) = 8))
theorem source_stmt_c (w0 : World) (M : BS) (hM : ∀ b, M b → b < w0.heap.size) (a : GStmt) (va2 va3 va4 va5 : Value) (ha2 : Rd2 rTok w0 BE M va2 a.e) (ha3 : Rd2 rTok w0 BE M va3 a.f) (ha4 : Rd2 rStmt w0 BE M va4 a.a) (ha5 : Rd2 rStmt w0 BE M va5 a.b) (vb : Value) (b : List Fun) (hb : Rd2 rFun w0 BE M vb b) (c : Int) (r : Int) (hs : source_stmt a b c = some r) :
    Calls Tryz.prog 82 #[(.agg #[(.int .i64 (a.kind)), (.int .i64 (a.n)), va2, va3, va4, va5]), vb, (.int .i64 (c))] w0 (fun e w' => Grow w0 w' ∧ e = .returned (.int .i64 r)) := by
 refine calls_start (args := [(.agg #[(.int .i64 (a.kind)), (.int .i64 (a.n)), va2, va3, va4, va5]), vb, (.int .i64 (c))]) Tryz.func82 rfl Tryz.ntmps82 (Nat.le_of_ble_eq_true rfl) ?_
 have h := SH.init hM
 replace h := h.argSr 1 ha2 none_own
 replace h := h.argSr 2 ha3 (hupd_own_sr none_own)
 replace h := h.argSr 3 ha4 (hupd_own_sr (hupd_own_sr none_own))
 replace h := h.argSr 4 ha5 (hupd_own_sr (hupd_own_sr (hupd_own_sr none_own)))
 replace h := h.argSr 5 hb (hupd_own_sr (hupd_own_sr (hupd_own_sr (hupd_own_sr none_own))))
 have hl_b := hb.len_le
 refine wc_seq (wc_region (w_box (cs := [(.int .i64 (a.kind)), (.int .i64 (a.n)), va2, va3, va4, va5]) h 6 rfl rfl fun w b1 h => wl_ok (r_assign (v := (.int .i64 (0))) rfl) (wl_nil (then_normal (wc_seq (wc_region (wl_ok (r_assign (v := (.bool (false))) rfl) (wl_ok (r_assign (v := (.bool (true))) rfl) (wl_ok (r_assign (v := (.bool (false))) rfl) (wl_nil (then_normal (wc_seq (wc_region (wl_ok (r_assign (v := (.bool (false))) rfl) (wl_ok (r_assign (v := (.bool (false))) rfl) (wl_nil (then_normal (wc_join (σ := Bool × Bool × Bool × Bool × Bool) (inl [6, 7, 8, 9, 10, 11, 13, 14, 15, 16, 17, 18, 19, 20, 21, 22, 23, 24, 25, 26, 27, 28]) (fun ⟨x2, x3, x4, x5, x6⟩ => [(7, (.bool (x2))), (8, (.bool (x3))), (9, (.bool (x4))), (10, (.bool (x5))), (11, (.bool (x6)))]) (fun ⟨x2, x3, x4, x5, x6⟩ w => SH w0 M BE w (hset [(1, .sr rTok va2 a.e), (2, .sr rTok va3 a.f), (3, .sr rStmt va4 a.a), (4, .sr rStmt va5 a.b), (5, .sr rFun vb b), (6, .blk b1 [(.int .i64 (a.kind)), (.int .i64 (a.n)), va2, va3, va4, va5])]) ∧ source_stmt_j2 a b c x2 x3 x4 x5 x6 = some r) ?_ ?_))))))))))))))))))
 ·
  rintro ⟨x2, x3, x4, x5, x6⟩ w junk ⟨h, hs⟩
  refine wc_seq (wc_seq (wc_region (wl_ok (r_move (v := (.bool (x2))) rfl) (wl_ok (r_notb rfl) (wl_ok (r_move (v := (.bool ((!x2)))) rfl) (wl_gd0 rfl rfl (fun q => r_fieldAddr Fld65x1 rfl) (wl_gd0 rfl rfl (fun q => r_ldB h 6 rfl One3 (gvt q) rfl) (wl_gd0 rfl rfl (fun q => r_neq (gvt q) rfl) (wl_ok (r_pand rfl rfl evc) (wl_ok (r_move (v := (.bool (((!x2) && decide ((a.n : Int) ≠ 0))))) rfl) (wl_gd0 rfl rfl (fun q => r_move (v := (.bool (x3))) rfl) (wl_gd0 rfl rfl (fun q => r_notb (gvt q)) (wl_gd0 rfl rfl (fun q => r_move (v := (.bool ((!x3)))) (gvt q)) (wl_gd (((!x2) && decide ((a.n : Int) ≠ 0)) == false) rfl rfl (fun q => r_fieldAddr Fld65x2 rfl) (wl_gd (((!x2) && decide ((a.n : Int) ≠ 0)) == false) rfl rfl (fun q => r_ldB h 6 rfl One63 (gvt q) rfl) (wl_gd (((!x2) && decide ((a.n : Int) ≠ 0)) == false) rfl rfl (fun q => r_len SliceOf63 (gvt q) (h.srS 1 rfl)) (wl_gd (((!x2) && decide ((a.n : Int) ≠ 0)) == false) rfl rfl (fun q => r_gtr (gvt q) rfl) (wl_gd0 rfl rfl (fun q => r_pand (gvt q) (gvn q) evc) (wl_ok (r_por rfl rfl evc) (wl_ok (r_move (v := (.bool ((((!x2) && decide ((a.n : Int) ≠ 0)) || ((!x3) && decide ((0 : Int) < (a.e.length : Int))))))) rfl) (wl_gd0 rfl rfl (fun q => r_move (v := (.bool (x4))) rfl) (wl_gd0 rfl rfl (fun q => r_notb (gvt q)) (wl_gd0 rfl rfl (fun q => r_move (v := (.bool ((!x4)))) (gvt q)) ?_)))))))))))))))))))))))
  refine wl_gd ((((!x2) && decide ((a.n : Int) ≠ 0)) || ((!x3) && decide ((0 : Int) < (a.e.length : Int)))) == false) rfl rfl (fun q => r_fieldAddr Fld65x3 rfl) (wl_gd ((((!x2) && decide ((a.n : Int) ≠ 0)) || ((!x3) && decide ((0 : Int) < (a.e.length : Int)))) == false) rfl rfl (fun q => r_ldB h 6 rfl One63 (gvt q) rfl) (wl_gd ((((!x2) && decide ((a.n : Int) ≠ 0)) || ((!x3) && decide ((0 : Int) < (a.e.length : Int)))) == false) rfl rfl (fun q => r_len SliceOf63 (gvt q) (h.srS 2 rfl)) (wl_gd ((((!x2) && decide ((a.n : Int) ≠ 0)) || ((!x3) && decide ((0 : Int) < (a.e.length : Int)))) == false) rfl rfl (fun q => r_gtr (gvt q) rfl) (wl_gd0 rfl rfl (fun q => r_pand (gvt q) (gvn q) evc) (wl_ok (r_por rfl rfl evc) (wl_ok (r_move (v := (.bool (((((!x2) && decide ((a.n : Int) ≠ 0)) || ((!x3) && decide ((0 : Int) < (a.e.length : Int)))) || ((!x4) && decide ((0 : Int) < (a.f.length : Int))))))) rfl) (wl_gd0 rfl rfl (fun q => r_move (v := (.bool (x5))) rfl) (wl_gd0 rfl rfl (fun q => r_notb (gvt q)) (wl_gd0 rfl rfl (fun q => r_move (v := (.bool ((!x5)))) (gvt q)) (wl_gd (((((!x2) && decide ((a.n : Int) ≠ 0)) || ((!x3) && decide ((0 : Int) < (a.e.length : Int)))) || ((!x4) && decide ((0 : Int) < (a.f.length : Int)))) == false) rfl rfl (fun q => r_fieldAddr Fld65x4 rfl) (wl_gd (((((!x2) && decide ((a.n : Int) ≠ 0)) || ((!x3) && decide ((0 : Int) < (a.e.length : Int)))) || ((!x4) && decide ((0 : Int) < (a.f.length : Int)))) == false) rfl rfl (fun q => r_ldB h 6 rfl One41 (gvt q) rfl) (wl_gd (((((!x2) && decide ((a.n : Int) ≠ 0)) || ((!x3) && decide ((0 : Int) < (a.e.length : Int)))) || ((!x4) && decide ((0 : Int) < (a.f.length : Int)))) == false) rfl rfl (fun q => r_len SliceOf41 (gvt q) (h.srS 3 rfl)) (wl_gd (((((!x2) && decide ((a.n : Int) ≠ 0)) || ((!x3) && decide ((0 : Int) < (a.e.length : Int)))) || ((!x4) && decide ((0 : Int) < (a.f.length : Int)))) == false) rfl rfl (fun q => r_gtr (gvt q) rfl) (wl_gd0 rfl rfl (fun q => r_pand (gvt q) (gvn q) evc) (wl_ok (r_por rfl rfl evc) (wl_ok (r_move (v := (.bool ((((((!x2) && decide ((a.n : Int) ≠ 0)) || ((!x3) && decide ((0 : Int) < (a.e.length : Int)))) || ((!x4) && decide ((0 : Int) < (a.f.length : Int)))) || ((!x5) && decide ((0 : Int) < (a.a.length : Int))))))) rfl) (wl_gd0 rfl rfl (fun q => r_move (v := (.bool (x6))) rfl) (wl_gd0 rfl rfl (fun q => r_notb (gvt q)) (wl_gd0 rfl rfl (fun q => r_move (v := (.bool ((!x6)))) (gvt q)) (wl_gd ((((((!x2) && decide ((a.n : Int) ≠ 0)) || ((!x3) && decide ((0 : Int) < (a.e.length : Int)))) || ((!x4) && decide ((0 : Int) < (a.f.length : Int)))) || ((!x5) && decide ((0 : Int) < (a.a.length : Int)))) == false) rfl rfl (fun q => r_fieldAddr Fld65x5 rfl) (wl_gd ((((((!x2) && decide ((a.n : Int) ≠ 0)) || ((!x3) && decide ((0 : Int) < (a.e.length : Int)))) || ((!x4) && decide ((0 : Int) < (a.f.length : Int)))) || ((!x5) && decide ((0 : Int) < (a.a.length : Int)))) == false) rfl rfl (fun q => r_ldB h 6 rfl One41 (gvt q) rfl) (wl_gd ((((((!x2) && decide ((a.n : Int) ≠ 0)) || ((!x3) && decide ((0 : Int) < (a.e.length : Int)))) || ((!x4) && decide ((0 : Int) < (a.f.length : Int)))) || ((!x5) && decide ((0 : Int) < (a.a.length : Int)))) == false) rfl rfl (fun q => r_len SliceOf41 (gvt q) (h.srS 4 rfl)) (wl_gd ((((((!x2) && decide ((a.n : Int) ≠ 0)) || ((!x3) && decide ((0 : Int) < (a.e.length : Int)))) || ((!x4) && decide ((0 : Int) < (a.f.length : Int)))) || ((!x5) && decide ((0 : Int) < (a.a.length : Int)))) == false) rfl rfl (fun q => r_gtr (gvt q) rfl) ?_)))))))))))))))))))))))
  refine wl_gd0 rfl rfl (fun q => r_pand (gvt q) (gvn q) evc) (wl_ok (r_por rfl rfl evc) (wl_nil (then_normal (wc_ifb hs rfl (fun c7 hs => ?_) (fun c7 hs => ?_)))))
  ·
   refine wc_seq (wc_region (wl_ok (r_assign (v := (.int .i64 (4))) rfl) (wl_nil (then_normal (wc_ret (then_ret (fin1 (v := (.int .i64 (4))) Tryz.results82 rfl ?_)))))))
   obtain rfl := Option.some.inj hs
   exact ⟨h.grown, rfl⟩
  ·
   refine wc_skip (then_normal (wc_seq (wc_seq (wc_region (wl_ok (r_fieldAddr Fld65x0 rfl) (wl_ok (r_ldB h 6 rfl One3 rfl rfl) (wl_ok (r_eql rfl rfl) (wl_ok (r_move (v := (.bool (decide ((a.kind : Int) = 1)))) rfl) (wl_gd0 rfl rfl (fun q => r_fieldAddr Fld65x1 rfl) (wl_gd0 rfl rfl (fun q => r_ldB h 6 rfl One3 (gvt q) rfl) (wl_gd0 rfl rfl (fun q => r_lss (gvt q) rfl) (wl_gd0 rfl rfl (fun q => r_move (v := (.bool (decide ((a.n : Int) < 0)))) (gvt q)) (wl_gd (decide ((a.kind : Int) = 1) == true) rfl rfl (fun q => r_fieldAddr Fld65x1 rfl) (wl_gd (decide ((a.kind : Int) = 1) == true) rfl rfl (fun q => r_ldB h 6 rfl One3 (gvt q) rfl) (wl_gd (decide ((a.kind : Int) = 1) == true) rfl rfl (fun q => r_move (v := (.int .i64 (c))) rfl) (wl_gd (decide ((a.kind : Int) = 1) == true) rfl rfl (fun q => r_geq (gvt q) (gvt q)) (wl_gd0 rfl rfl (fun q => r_por (gvt q) (gvn q) evc) (wl_ok (r_pand rfl rfl evc) (wl_ok (r_move (v := (.bool ((decide ((a.kind : Int) = 1) && (decide ((a.n : Int) < 0) || decide ((c : Int) ≤ a.n)))))) rfl) (wl_gd0 rfl rfl (fun q => r_fieldAddr Fld65x0 rfl) (wl_gd0 rfl rfl (fun q => r_ldB h 6 rfl One3 (gvt q) rfl) (wl_gd0 rfl rfl (fun q => r_eql (gvt q) rfl) (wl_gd0 rfl rfl (fun q => r_move (v := (.bool (decide ((a.kind : Int) = 2)))) (gvt q)) ?_)))))))))))))))))))))))
   refine wl_gd ((decide ((a.kind : Int) = 1) && (decide ((a.n : Int) < 0) || decide ((c : Int) ≤ a.n))) == false) rfl rfl (fun q => r_fieldAddr Fld65x1 rfl) (wl_gd ((decide ((a.kind : Int) = 1) && (decide ((a.n : Int) < 0) || decide ((c : Int) ≤ a.n))) == false) rfl rfl (fun q => r_ldB h 6 rfl One3 (gvt q) rfl) (wl_gd ((decide ((a.kind : Int) = 1) && (decide ((a.n : Int) < 0) || decide ((c : Int) ≤ a.n))) == false) rfl rfl (fun q => r_lss (gvt q) rfl) (wl_gd ((decide ((a.kind : Int) = 1) && (decide ((a.n : Int) < 0) || decide ((c : Int) ≤ a.n))) == false) rfl rfl (fun q => r_move (v := (.bool (decide ((a.n : Int) < 0)))) (gvt q)) (wl_gd (((decide ((a.kind : Int) = 1) && (decide ((a.n : Int) < 0) || decide ((c : Int) ≤ a.n))) == false) && (decide ((a.kind : Int) = 2) == true)) rfl rfl (fun q => r_fieldAddr Fld65x1 rfl) (wl_gd (((decide ((a.kind : Int) = 1) && (decide ((a.n : Int) < 0) || decide ((c : Int) ≤ a.n))) == false) && (decide ((a.kind : Int) = 2) == true)) rfl rfl (fun q => r_ldB h 6 rfl One3 (gvt q) rfl) (wl_gd (((decide ((a.kind : Int) = 1) && (decide ((a.n : Int) < 0) || decide ((c : Int) ≤ a.n))) == false) && (decide ((a.kind : Int) = 2) == true)) rfl rfl (fun q => r_geq (gvt q) rfl) (wl_gd ((decide ((a.kind : Int) = 1) && (decide ((a.n : Int) < 0) || decide ((c : Int) ≤ a.n))) == false) rfl rfl (fun q => r_por (gvt q) (gvn q) evc) (wl_gd0 rfl rfl (fun q => r_pand (gvt q) (gvn q) evc) (wl_ok (r_por rfl rfl evc) (wl_nil (then_normal (wc_ifb hs rfl (fun c8 hs => ?_) (fun c8 hs => ?_)))))))))))))
   ·
    refine wc_seq (wc_region (wl_ok (r_assign (v := (.int .i64 (3))) rfl) (wl_nil (then_normal (wc_ret (then_ret (fin1 (v := (.int .i64 (3))) Tryz.results82 rfl ?_)))))))
    obtain rfl := Option.some.inj hs
    exact ⟨h.grown, rfl⟩
   ·
    refine wc_skip (then_normal (wc_join (σ := Unit) (inl [6, 12, 105, 106, 107, 108, 109, 110, 111, 112, 113]) (fun _ => []) (fun _ w => SH w0 M BE w (hset [(1, .sr rTok va2 a.e), (2, .sr rTok va3 a.f), (3, .sr rStmt va4 a.a), (4, .sr rStmt va5 a.b), (5, .sr rFun vb b), (6, .blk b1 [(.int .i64 (a.kind)), (.int .i64 (a.n)), va2, va3, va4, va5])]) ∧ source_stmt_j3 x4 a b c = some r) ?_ ?_))
    ·
     rintro ⟨⟩ w junk ⟨h, hs⟩
     refine wc_seq (wc_seq (wc_region (wl_ok (r_move (v := (.bool (x4))) rfl) (wl_nil (then_normal (wc_ifb hs rfl (fun c9 hs => ?_) (fun c9 hs => ?_)))))))
     ·
      refine wc_seq (wc_region (wl_ok (r_fieldAddr Fld65x3 rfl) (wl_ok (r_ldB h 6 rfl One63 rfl rfl) (wl_ok (r_move (v := vb) rfl) (wl_ok (r_move (v := (.int .i64 (c))) rfl) ?_)))))
      obtain ⟨y10, e11, hs⟩ := o_bind hs
      refine w_call fnOk102 rfl rfl (source_Expr_c _ _ h.lt va3 a.f (h.srS 2 rfl) vb b (h.srS 5 rfl) c _ e11) ?_
      rintro _ w ⟨k12, rfl⟩
      refine ⟨_, rfl, ?_⟩
      replace h := h.grow k12
      refine wl_ok (r_assign (v := (.int .i64 (y10))) rfl) (wl_nil (then_normal (wc_ret (then_ret (fin1 (v := (.int .i64 (y10))) Tryz.results82 rfl ?_)))))
      obtain rfl := Option.some.inj hs
      exact ⟨h.grown, rfl⟩
     ·
      refine wc_skip (then_normal (wc_seq (wc_region (wl_ok (r_assign (v := (.int .i64 (0))) rfl) (wl_nil (then_normal (wc_ret (fin1 (v := (.int .i64 (0))) Tryz.results82 rfl ?_))))))))
      obtain rfl := Option.some.inj hs
      exact ⟨h.grown, rfl⟩
    ·
     refine wc_seq (wc_region (wl_ok (r_move (v := (.bool (x3))) rfl) (wl_nil (then_normal (wc_ifb hs rfl (fun c13 hs => ?_) (fun c13 hs => ?_))))))
     ·
      refine wc_seq (wc_region (wl_ok (r_fieldAddr Fld65x2 rfl) (wl_ok (r_ldB h 6 rfl One63 rfl rfl) (wl_ok (r_move (v := vb) rfl) (wl_ok (r_move (v := (.int .i64 (c))) rfl) ?_)))))
      obtain ⟨y14, e15, hs⟩ := o_bind hs
      refine w_call fnOk102 rfl rfl (source_Expr_c _ _ h.lt va2 a.e (h.srS 1 rfl) vb b (h.srS 5 rfl) c _ e15) ?_
      rintro _ w ⟨k16, rfl⟩
      refine ⟨_, rfl, ?_⟩
      replace h := h.grow k16
      refine wl_ok (r_assign (v := (.int .i64 (y14))) rfl) (wl_nil (then_normal (wc_seq (wc_region (wl_ok (r_move (v := (.int .i64 (y14))) rfl) (wl_ok (r_neq rfl rfl) (wl_nil (then_normal (wc_ifb hs rfl (fun c17 hs => ?_) (fun c17 hs => ?_))))))))))
      ·
       refine wc_seq (wc_region (wl_ok (r_move (v := (.int .i64 (y14))) rfl) (wl_ok (r_assign (v := (.int .i64 (y14))) rfl) (wl_nil (then_normal (wc_ret (then_ret (fin1 (v := (.int .i64 (y14))) Tryz.results82 rfl ?_))))))))
       obtain rfl := Option.some.inj hs
       exact ⟨h.grown, rfl⟩
      ·
       refine wc_skip (then_loop ?_)
       exact jend () ⟨h.cn _, hs⟩
     ·
      refine wc_skip (then_loop ?_)
      exact jend () ⟨h.cn _, hs⟩
 ·
  refine wc_seq (wc_region (wl_ok (r_fieldAddr Fld65x0 rfl) (wl_ok (r_ldB h 6 rfl One3 rfl rfl) (wl_nil (then_normal (wc_block (wc_seq (wc_region (wl_ok (r_eql rfl rfl) (wl_ok (r_assign (v := (.bool (decide ((a.kind : Int) = 1)))) rfl) (wl_nil (then_normal (wc_ifb hs rfl (fun c18 hs => ?_) (fun c18 hs => ?_))))))))))))))
  ·
   refine wc_region (wl_ok (r_assign (v := (.bool (true))) rfl) (wl_nil (inBlock_normal (then_loop ?_))))
   exact jend (true, true, false, false, false) ⟨h.cn _, hs⟩
  ·
   refine wc_seq (wc_region (wl_ok (r_eql rfl rfl) (wl_ok (r_assign (v := (.bool (decide ((a.kind : Int) = 2)))) rfl) (wl_nil (then_normal (wc_ifb hs rfl (fun c19 hs => ?_) (fun c19 hs => ?_)))))))
   ·
    refine wc_region (wl_ok (r_assign (v := (.bool (true))) rfl) (wl_ok (r_assign (v := (.bool (true))) rfl) (wl_nil (inBlock_normal (then_loop ?_)))))
    exact jend (true, true, true, false, false) ⟨h.cn _, hs⟩
   ·
    refine wc_join (σ := Bool) (inl [19, 20, 21, 22]) (fun x20 => [(19, (.bool (x20)))]) (fun x20 w => SH w0 M BE w (hset [(1, .sr rTok va2 a.e), (2, .sr rTok va3 a.f), (3, .sr rStmt va4 a.a), (4, .sr rStmt va5 a.b), (5, .sr rFun vb b), (6, .blk b1 [(.int .i64 (a.kind)), (.int .i64 (a.n)), va2, va3, va4, va5])]) ∧ source_stmt_j4 a b c x20 = some r) ?_ ?_
    ·
     rintro x20 w junk ⟨h, hs⟩
     refine wc_ifb hs rfl (fun c21 hs => ?_) (fun c21 hs => ?_)
     ·
      refine wc_skip (inBlock_normal (then_loop ?_))
      exact jend (false, true, false, false, false) ⟨h.cn _, hs⟩
     ·
      refine wc_seq (wc_region (wl_ok (r_eql rfl rfl) (wl_ok (r_assign (v := (.bool (decide ((a.kind : Int) = 4)))) rfl) (wl_nil (then_normal (wc_ifb hs rfl (fun c22 hs => ?_) (fun c22 hs => ?_)))))))
      ·
       refine wc_region (wl_ok (r_assign (v := (.bool (false))) rfl) (wl_nil (inBlock_normal (then_loop ?_))))
       exact jend (false, false, false, false, false) ⟨h.cn _, hs⟩
      ·
       refine wc_seq (wc_region (wl_ok (r_eql rfl rfl) (wl_ok (r_assign (v := (.bool (decide ((a.kind : Int) = 6)))) rfl) (wl_nil (then_normal (wc_ifb hs rfl (fun c23 hs => ?_) (fun c23 hs => ?_)))))))
       ·
        refine wc_region (wl_ok (r_assign (v := (.bool (true))) rfl) (wl_ok (r_assign (v := (.bool (true))) rfl) (wl_nil (inBlock_normal (then_loop ?_)))))
        exact jend (false, true, false, true, true) ⟨h.cn _, hs⟩
       ·
        refine wc_seq (wc_region (wl_ok (r_eql rfl rfl) (wl_ok (r_assign (v := (.bool (decide ((a.kind : Int) = 7)))) rfl) (wl_nil (then_normal (wc_ifb hs rfl (fun c24 hs => ?_) (fun c24 hs => ?_)))))))
        ·
         refine wc_region (wl_ok (r_assign (v := (.bool (true))) rfl) (wl_nil (inBlock_normal (then_loop ?_))))
         exact jend (false, true, false, true, false) ⟨h.cn _, hs⟩
        ·
         refine wc_seq (wc_region (wl_ok (r_assign (v := (.int .i64 (4))) rfl) (wl_nil (then_normal (wc_ret (inBlock_ret (then_ret (fin1 (v := (.int .i64 (4))) Tryz.results82 rfl ?_))))))))
         obtain rfl := Option.some.inj hs
         exact ⟨h.grown, rfl⟩
    ·
     refine wc_seq (wc_region (wl_ok (r_eql rfl rfl) (wl_ok (r_assign (v := (.bool (decide ((a.kind : Int) = 3)))) rfl) (wl_nil (then_normal (wc_ifb hs rfl (fun c25 hs => ?_) (fun c25 hs => ?_)))))))
     ·
      refine wc_skip (then_loop ?_)
      exact jend (decide ((a.kind : Int) = 3)) ⟨h.cn _, hs⟩
     ·
      refine wc_seq (wc_region (wl_ok (r_eql rfl rfl) (wl_ok (r_assign (v := (.bool (decide ((a.kind : Int) = 5)))) rfl) (wl_nil (then_normal (wc_ifb hs rfl (fun c26 hs => ?_) (fun c26 hs => ?_)))))))
      ·
       refine wc_skip (then_loop ?_)
       exact jend (decide ((a.kind : Int) = 5)) ⟨h.cn _, hs⟩
      ·
       refine wc_region (wl_ok (r_eql rfl rfl) (wl_ok (r_assign (v := (.bool (decide ((a.kind : Int) = 8)))) rfl) (wl_nil (then_loop ?_))))
       exact jend (decide ((a.kind : Int) = 8)) ⟨h.cn _, hs⟩
def source_stmts_b3 (F0 : List GStmt → List Fun → Int → Option Int) (b : List Fun) (c : Int) (a : List GStmt) (x3 : GStmt) (s : Unit) (nx5 : Unit → Option Int) : Option Int :=
  (source_stmt x3 b c).bind fun y22 => bif decide ((y22 : Int) ≠ 0) then some y22 else (F0 x3.a b c).bind fun y26 => bif decide ((y26 : Int) ≠ 0) then some y26 else (F0 x3.b b c).bind fun y30 => bif decide ((y30 : Int) ≠ 0) then some y30 else nx5 ()
def source_stmts_k4 (s : Unit) : Option Int :=
  some 0
def source_stmts_r (F0 : List GStmt → List Fun → Int → Option Int) (a : List GStmt) (b : List Fun) (c : Int) : Option Int :=
  each (source_stmts_b3 F0 b c a) source_stmts_k4 a ()
def source_stmts : Nat → List GStmt → List Fun → Int → Option Int
  | 0 => fun _ _ _ => none
  | N + 1 => source_stmts_r (source_stmts N)
theorem source_stmts_c : ∀ (N : Nat) (w0 : World) (M : BS) (hM : ∀ b, M b → b < w0.heap.size) (va : Value) (a : List GStmt) (ha : Rd2 rStmt w0 BE M va a) (vb : Value) (b : List Fun) (hb : Rd2 rFun w0 BE M vb b) (c : Int) (r : Int) (hs : source_stmts N a b c = some r),
    Calls Tryz.prog 57 #[va, vb, (.int .i64 (c))] w0 (fun e w' => Grow w0 w' ∧ e = .returned (.int .i64 r)) := by
  intro N
  induction N with
  | zero => intro w0 M hM va a ha vb b hb c r hs; cases hs
  | succ N ih =>
  intro w0 M hM va a ha vb b hb c r hs
  replace hs : source_stmts_r (source_stmts N) a b c = some r := hs
  generalize source_stmts N = F0 at hs ih
  refine calls_start (args := [va, vb, (.int .i64 (c))]) Tryz.func57 rfl Tryz.ntmps57 (Nat.le_of_ble_eq_true rfl) ?_
  have h := SH.init hM
  replace h := h.argSr 1 ha none_own
  replace h := h.argSr 2 hb (hupd_own_sr none_own)
  have hl_a := ha.len_le
  have hl_b := hb.len_le
  refine wc_seq (wc_region (wl_ok (r_assign (v := (.int .i64 (0))) rfl) (wl_nil (then_normal (wc_seq (wc_seq (wc_region (wl_ok (r_move (v := va) rfl) (wl_ok (r_len SliceOf41 rfl (h.srS 1 rfl)) (wl_ok (r_move (v := (.int .i64 (0))) rfl) (wl_nil (then_normal (wc_block (wc_lp (σ := Nat × Int) (inl [6, 8, 9, 11, 12, 15, 16, 17, 18, 19, 20, 21, 22, 23, 24, 25, 26, 27, 28, 29, 30, 31, 32, 33, 34, 35, 36, 37, 38, 39, 40, 41, 42]) (fun ⟨k1, i2⟩ => [(15, (.int .i64 (i2)))]) (fun ⟨k1, i2⟩ w => SH w0 M BE w (hset [(1, .sr rStmt va a), (2, .sr rFun vb b)]) ∧ i2 = (k1 : Int) ∧ each (source_stmts_b3 F0 b c a) source_stmts_k4 (a.drop k1) () = some r) (fun ⟨k1, i2⟩ => a.length - k1) ⟨0, 0⟩ ⟨rfl, trivial⟩ ?_ ?_))))))))))))))
  ·
   exact ⟨h.cn _, rfl, hs⟩
  ·
   rintro ⟨k1, i2⟩ w junk ⟨h, hik, hs⟩
   refine wc_seq (wc_region ?_)
   refine wl_ok (r_lss rfl rfl) (wl_nil (then_normal ?_))
   refine wc_seq (wc_if rfl (fun e6 => ?_) (fun e6 => ?_))
   ·
    refine wc_skip (then_normal ?_)
    obtain ⟨x3, e7a, e7b⟩ := drop_lt (hik ▸ e6)
    rw [e7b, each_cons] at hs
    generalize hnx5 : each (source_stmts_b3 F0 b c a) source_stmts_k4 (a.drop (k1 + 1)) = nx5 at hs
    have e7r := nat_rng ((h.srS 1 rfl)).len_le hik e6
    refine wc_seq (wc_block (wc_seq (wc_region ?_)))
    obtain ⟨b9, o10, cs11, h, r12, i8⟩ := h.ixS 1 3 rfl SliceOf41 rfl (nat_nn hik) (get_nat hik e7a)
    obtain ⟨u13, u15, u17, u19, rfl, g14, g16, g18, g20⟩ := rStmt_open r12
    replace h := h.knowRd 4 g14.up
    replace h := h.knowRd 5 g16.up.up
    replace h := h.knowRd 6 g18.up.up.up
    replace h := h.knowRd 7 g20.up.up.up.up
    refine wl_ok (i8 _ _ _ _ _ _ _ _ _ rfl rfl) (wl_ok (r_ldPN (k := 0) (vs := [(.int .i64 (x3.kind)), (.int .i64 (x3.n)), u13, u15, u17, u19]) h 3 rfl Many65 rfl rfl rfl (Nat.le_of_ble_eq_true rfl)) (w_allocN h 8 Many65 fun w b21 h => w_stN (vs := [(.int .i64 (x3.kind)), (.int .i64 (x3.n)), u13, u15, u17, u19]) h 8 [(.int .i64 (x3.kind)), (.int .i64 (x3.n)), u13, u15, u17, u19] rfl Many65 rfl rfl rfl rfl rfl (ones_cons rfl (ones_cons rfl (ones_cons (h.rdAt 4 rfl).one (ones_cons (h.rdAt 5 rfl).one (ones_cons (h.rdAt 6 rfl).one (ones_cons (h.rdAt 7 rfl).one ones_nil)))))) fun w h => wl_nil (then_normal (wc_seq (wc_seq (wc_region (wl_ok (r_ldBN (vs := [(.int .i64 (x3.kind)), (.int .i64 (x3.n)), u13, u15, u17, u19]) h 8 rfl Many65 rfl rfl rfl) (wl_ok (r_move (v := vb) rfl) (wl_ok (r_move (v := (.int .i64 (c))) rfl) ?_)))))))))
    obtain ⟨y22, e23, hs⟩ := o_bind hs
    refine w_call fnOk82 rfl rfl (source_stmt_c _ _ h.lt x3 u13 u15 u17 u19 (h.rdS 4 rfl) (h.rdS 5 rfl) (h.rdS 6 rfl) (h.rdS 7 rfl) vb b (h.srS 2 rfl) c _ e23) ?_
    rintro _ w ⟨k24, rfl⟩
    refine ⟨_, rfl, ?_⟩
    replace h := h.grow k24
    refine wl_ok (r_assign (v := (.int .i64 (y22))) rfl) (wl_nil (then_normal (wc_seq (wc_region (wl_ok (r_move (v := (.int .i64 (y22))) rfl) (wl_ok (r_neq rfl rfl) (wl_nil (then_normal (wc_ifb hs rfl (fun c25 hs => ?_) (fun c25 hs => ?_))))))))))
    ·
     refine wc_seq (wc_region (wl_ok (r_move (v := (.int .i64 (y22))) rfl) (wl_ok (r_assign (v := (.int .i64 (y22))) rfl) (wl_nil (then_normal (wc_ret (then_ret (inBlock_ret (then_ret (then_ret (inBlock_ret (then_ret (fin1 (v := (.int .i64 (y22))) Tryz.results57 rfl ?_)))))))))))))
     obtain rfl := Option.some.inj hs
     exact ⟨h.grown, rfl⟩
    ·
     refine wc_skip (then_normal (wc_seq (wc_region (wl_ok (r_fieldAddr Fld65x4 rfl) (wl_ok (r_ldB h 8 rfl One41 rfl rfl) (wl_ok (r_fieldAddr Fld65x5 rfl) (wl_ok (r_ldB h 8 rfl One41 rfl rfl) (wl_ok (r_build2 Arr2124 rfl rfl (h.rdAt 6 rfl).one (h.rdAt 7 rfl).one) (wl_ok (r_move (v := (.int .i64 (0))) rfl) (wl_nil (then_normal (wc_block (wc_rounds 2 (wc_seq (wc_region (wl_ok (r_lss rfl rfl) (wl_nil (then_normal (wc_seq (wc_ift rfl (wc_skip (then_normal (wc_seq ?_)))))))))))))))))))))))
     refine wc_block (wc_seq (wc_region (wl_ok (r_index2 (k := 0) Arr2124 rfl rfl rfl) (wl_ok (r_assign (v := u17) rfl) (wl_nil (then_normal (wc_seq (wc_region (wl_ok (r_move (v := u17) rfl) (wl_ok (r_move (v := vb) rfl) (wl_ok (r_move (v := (.int .i64 (c))) rfl) ?_)))))))))))
     obtain ⟨y26, e27, hs⟩ := o_bind hs
     refine w_call fnOk57 rfl rfl (ih _ _ h.lt u17 x3.a (h.rdS 6 rfl) vb b (h.srS 2 rfl) c _ e27) ?_
     rintro _ w ⟨k28, rfl⟩
     refine ⟨_, rfl, ?_⟩
     replace h := h.grow k28
     refine wl_ok (r_assign (v := (.int .i64 (y26))) rfl) (wl_nil (then_normal (wc_seq (wc_region (wl_ok (r_move (v := (.int .i64 (y26))) rfl) (wl_ok (r_neq rfl rfl) (wl_nil (then_normal (wc_ifb hs rfl (fun c29 hs => ?_) (fun c29 hs => ?_))))))))))
     ·
      refine wc_seq (wc_region (wl_ok (r_move (v := (.int .i64 (y26))) rfl) (wl_ok (r_assign (v := (.int .i64 (y26))) rfl) (wl_nil (then_normal (wc_ret (inBlock_ret (then_ret (then_ret (inBlock_ret (inBlock_ret (then_ret (then_ret (inBlock_ret (then_ret (fin1 (v := (.int .i64 (y26))) Tryz.results57 rfl ?_))))))))))))))))
      obtain rfl := Option.some.inj hs
      exact ⟨h.grown, rfl⟩
     ·
      refine wc_skip (inBlock_normal (then_normal (wc_region (wl_ok (r_add rfl rfl (by decide)) (wl_ok (r_move (v := (.int .i64 (1))) rfl) (wl_nil (then_round (wc_seq (wc_region (wl_ok (r_lss rfl rfl) (wl_nil (then_normal (wc_seq (wc_ift rfl (wc_skip (then_normal (wc_seq (wc_block (wc_seq (wc_region (wl_ok (r_index2 (k := 1) Arr2124 rfl rfl rfl) (wl_ok (r_assign (v := u19) rfl) (wl_nil ?_)))))))))))))))))))))))
      refine then_normal (wc_seq (wc_region (wl_ok (r_move (v := u19) rfl) (wl_ok (r_move (v := vb) rfl) (wl_ok (r_move (v := (.int .i64 (c))) rfl) ?_)))))
      obtain ⟨y30, e31, hs⟩ := o_bind hs
      refine w_call fnOk57 rfl rfl (ih _ _ h.lt u19 x3.b (h.rdS 7 rfl) vb b (h.srS 2 rfl) c _ e31) ?_
      rintro _ w ⟨k32, rfl⟩
      refine ⟨_, rfl, ?_⟩
      replace h := h.grow k32
      refine wl_ok (r_assign (v := (.int .i64 (y30))) rfl) (wl_nil (then_normal (wc_seq (wc_region (wl_ok (r_move (v := (.int .i64 (y30))) rfl) (wl_ok (r_neq rfl rfl) (wl_nil (then_normal (wc_ifb hs rfl (fun c33 hs => ?_) (fun c33 hs => ?_))))))))))
      ·
       refine wc_seq (wc_region (wl_ok (r_move (v := (.int .i64 (y30))) rfl) (wl_ok (r_assign (v := (.int .i64 (y30))) rfl) (wl_nil (then_normal (wc_ret (inBlock_ret (then_ret (then_ret (inBlock_ret (inBlock_ret (then_ret (then_ret (inBlock_ret (then_ret (fin1 (v := (.int .i64 (y30))) Tryz.results57 rfl ?_))))))))))))))))
       obtain rfl := Option.some.inj hs
       exact ⟨h.grown, rfl⟩
      ·
       refine wc_skip (inBlock_normal (then_normal (wc_region (wl_ok (r_add rfl rfl (by decide)) (wl_ok (r_move (v := (.int .i64 (2))) rfl) (wl_nil (then_round (wc_seq (wc_region (wl_ok (r_lss rfl rfl) (wl_nil (then_normal (wc_seq (wc_iff rfl (wc_exit (then_exit (then_exit (inBlock_eq (inBlock_normal (then_normal (wc_region (wl_ok (r_add rfl rfl e7r) (wl_ok (r_move (v := (.int .i64 ((i2 + 1)))) rfl) ?_)))))))))))))))))))))))
       refine wl_nil (then_loop ?_)
       subst hnx5
       exact lend ⟨k1 + 1, i2 + 1⟩ ⟨h.cn _, by omega, hs⟩ (by have := of_decide_eq_true e6; dsimp only; omega)
   ·
    rw [drop_ge (hik ▸ e6), each_nil] at hs
    refine wc_exit (then_exit (then_exit (inBlock_eq (then_normal (wc_seq (wc_region (wl_ok (r_assign (v := (.int .i64 (0))) rfl) (wl_nil (then_normal (wc_ret (fin1 (v := (.int .i64 (0))) Tryz.results57 rfl ?_)))))))))))
    obtain rfl := Option.some.inj hs
    exact ⟨h.grown, rfl⟩
def source_Check_b5 (N : Nat) (a : List Fun) (x20 : Fun) (s : Unit) (nx22 : Unit → Option Int) : Option Int :=
  (source_count N x20.body 1).bind fun y33 => bif (!y33.2) then some 2 else (source_stmts N x20.body a x20.locals).bind fun y37 => bif decide ((y37 : Int) ≠ 0) then some y37 else nx22 ()
def source_Check_k6 (s : Unit) : Option Int :=
  some 0
def source_Check_b7 (i3 : Int) (x4 : Fun) (s : Unit) (nx6 : Unit → Option Int) : Option Int :=
  bif ((((decide ((x4.params : Int) < 0) || decide ((3 : Int) < x4.params)) || decide ((x4.locals : Int) < x4.params)) || decide ((6 : Int) < x4.locals)) || (decide ((i3 : Int) = 0) && decide ((0 : Int) < x4.params))) then some 3 else nx6 ()
def source_Check_k8 (N : Nat) (a : List Fun) (s : Unit) : Option Int :=
  each (source_Check_b5 N a) source_Check_k6 a ()
def source_Check (N : Nat) (a : List Fun) : Option Int :=
  bif (decide (((a.length : Int) : Int) = 0) || decide ((4 : Int) < (a.length : Int))) then some 2 else eachI source_Check_b7 (source_Check_k8 N a) 0 a ()
theorem source_Check_c (N : Nat) (w0 : World) (M : BS) (hM : ∀ b, M b → b < w0.heap.size) (va : Value) (a : List Fun) (ha : Rd2 rFun w0 BE M va a) (r : Int) (hs : source_Check N a = some r) :
    Calls Tryz.prog 18 #[va] w0 (fun e w' => Grow w0 w' ∧ e = .returned (.int .i64 r)) := by
 refine calls_start (args := [va]) Tryz.func18 rfl Tryz.ntmps18 (Nat.le_of_ble_eq_true rfl) ?_
 have h := SH.init hM
 replace h := h.argSr 1 ha none_own
 have hl_a := ha.len_le
 refine wc_seq (wc_region (wl_ok (r_assign (v := (.int .i64 (0))) rfl) (wl_nil (then_normal (wc_seq (wc_seq (wc_region (wl_ok (r_move (v := va) rfl) (wl_ok (r_len SliceOf22 rfl (h.srS 1 rfl)) (wl_ok (r_eql rfl rfl) (wl_ok (r_move (v := (.bool (decide (((a.length : Int) : Int) = 0)))) rfl) (wl_gd0 rfl rfl (fun q => r_move (v := va) rfl) (wl_gd0 rfl rfl (fun q => r_len SliceOf22 (gvt q) (h.srS 1 rfl)) (wl_gd0 rfl rfl (fun q => r_gtr (gvt q) rfl) (wl_ok (r_por rfl rfl evc) (wl_nil (then_normal (wc_ifb hs rfl (fun c1 hs => ?_) (fun c1 hs => ?_)))))))))))))))))))
 ·
  refine wc_seq (wc_region (wl_ok (r_assign (v := (.int .i64 (2))) rfl) (wl_nil (then_normal (wc_ret (then_ret (fin1 (v := (.int .i64 (2))) Tryz.results18 rfl ?_)))))))
  obtain rfl := Option.some.inj hs
  exact ⟨h.grown, rfl⟩
 ·
  refine wc_skip (then_normal (wc_seq (wc_seq (wc_region (wl_ok (r_move (v := va) rfl) (wl_ok (r_len SliceOf22 rfl (h.srS 1 rfl)) (wl_ok (r_move (v := (.int .i64 (0))) rfl) (wl_nil (then_normal (wc_block (wc_lp (σ := Nat × Int) (inl [2, 3, 4, 20, 21, 22, 23, 24, 25, 26, 27, 28, 29, 30, 31, 32, 33, 34, 35, 36, 37, 38, 39, 40, 41, 42, 43, 44, 45, 46, 47, 48, 49, 50, 51, 52, 53, 54]) (fun ⟨k2, i3⟩ => [(20, (.int .i64 (i3)))]) (fun ⟨k2, i3⟩ w => SH w0 M BE w (hset [(1, .sr rFun va a)]) ∧ i3 = (k2 : Int) ∧ eachI source_Check_b7 (source_Check_k8 N a) i3 (a.drop k2) () = some r) (fun ⟨k2, i3⟩ => a.length - k2) ⟨0, 0⟩ ⟨rfl, trivial⟩ ?_ ?_)))))))))))
  ·
   exact ⟨h.cn _, rfl, hs⟩
  ·
   rintro ⟨k2, i3⟩ w junk ⟨h, hik, hs⟩
   refine wc_seq (wc_region ?_)
   refine wl_ok (r_lss rfl rfl) (wl_nil (then_normal ?_))
   refine wc_seq (wc_if rfl (fun e7 => ?_) (fun e7 => ?_))
   ·
    refine wc_skip (then_normal ?_)
    obtain ⟨x4, e8a, e8b⟩ := drop_lt (hik ▸ e7)
    rw [e8b, eachI_cons] at hs
    generalize hnx6 : eachI source_Check_b7 (source_Check_k8 N a) (i3 + 1) (a.drop (k2 + 1)) = nx6 at hs
    have e8r := nat_rng ((h.srS 1 rfl)).len_le hik e7
    refine wc_seq (wc_block (wc_seq (wc_region (wl_ok (r_move (v := (.int .i64 (i3))) rfl) ?_))))
    obtain ⟨b10, o11, cs12, h, r13, i9⟩ := h.ixS 1 2 rfl SliceOf22 rfl (nat_nn hik) (get_nat hik e8a)
    obtain ⟨u14, rfl, g15⟩ := rFun_open r13
    replace h := h.knowRd 3 g15.up
    refine wl_ok (i9 _ _ _ _ _ _ _ _ _ rfl rfl) (wl_ok (r_ldPN (k := 0) (vs := [(.int .i64 (x4.params)), (.int .i64 (x4.locals)), u14]) h 2 rfl Many43 rfl rfl rfl (Nat.le_of_ble_eq_true rfl)) (w_allocN h 4 Many43 fun w b16 h => wl_ok (r_assign (v := (.int .i64 (i3))) rfl) (w_stN (vs := [(.int .i64 (x4.params)), (.int .i64 (x4.locals)), u14]) h 4 [(.int .i64 (x4.params)), (.int .i64 (x4.locals)), u14] rfl Many43 rfl rfl rfl rfl rfl (ones_cons rfl (ones_cons rfl (ones_cons (h.rdAt 3 rfl).one ones_nil))) fun w h => wl_nil (then_normal (wc_seq (wc_region (wl_ok (r_fieldAddr Fld43x0 rfl) (wl_ok (r_ldB h 4 rfl One3 rfl rfl) (wl_ok (r_lss rfl rfl) (wl_ok (r_move (v := (.bool (decide ((x4.params : Int) < 0)))) rfl) (wl_gd0 rfl rfl (fun q => r_fieldAddr Fld43x0 rfl) (wl_gd0 rfl rfl (fun q => r_ldB h 4 rfl One3 (gvt q) rfl) (wl_gd0 rfl rfl (fun q => r_gtr (gvt q) rfl) (wl_ok (r_por rfl rfl evc) (wl_ok (r_move (v := (.bool ((decide ((x4.params : Int) < 0) || decide ((3 : Int) < x4.params))))) rfl) (wl_gd0 rfl rfl (fun q => r_fieldAddr Fld43x1 rfl) (wl_gd0 rfl rfl (fun q => r_ldB h 4 rfl One3 (gvt q) rfl) (wl_gd0 rfl rfl (fun q => r_fieldAddr Fld43x0 rfl) (wl_gd0 rfl rfl (fun q => r_ldB h 4 rfl One3 (gvt q) rfl) (wl_gd0 rfl rfl (fun q => r_lss (gvt q) (gvt q)) (wl_ok (r_por rfl rfl evc) ?_)))))))))))))))))))))
    refine wl_ok (r_move (v := (.bool (((decide ((x4.params : Int) < 0) || decide ((3 : Int) < x4.params)) || decide ((x4.locals : Int) < x4.params))))) rfl) (wl_gd0 rfl rfl (fun q => r_fieldAddr Fld43x1 rfl) (wl_gd0 rfl rfl (fun q => r_ldB h 4 rfl One3 (gvt q) rfl) (wl_gd0 rfl rfl (fun q => r_gtr (gvt q) rfl) (wl_ok (r_por rfl rfl evc) (wl_ok (r_move (v := (.bool ((((decide ((x4.params : Int) < 0) || decide ((3 : Int) < x4.params)) || decide ((x4.locals : Int) < x4.params)) || decide ((6 : Int) < x4.locals))))) rfl) (wl_gd0 rfl rfl (fun q => r_move (v := (.int .i64 (i3))) rfl) (wl_gd0 rfl rfl (fun q => r_eql (gvt q) rfl) (wl_gd0 rfl rfl (fun q => r_move (v := (.bool (decide ((i3 : Int) = 0)))) (gvt q)) (wl_gd ((((decide ((x4.params : Int) < 0) || decide ((3 : Int) < x4.params)) || decide ((x4.locals : Int) < x4.params)) || decide ((6 : Int) < x4.locals)) == false) rfl rfl (fun q => r_fieldAddr Fld43x0 rfl) (wl_gd ((((decide ((x4.params : Int) < 0) || decide ((3 : Int) < x4.params)) || decide ((x4.locals : Int) < x4.params)) || decide ((6 : Int) < x4.locals)) == false) rfl rfl (fun q => r_ldB h 4 rfl One3 (gvt q) rfl) (wl_gd ((((decide ((x4.params : Int) < 0) || decide ((3 : Int) < x4.params)) || decide ((x4.locals : Int) < x4.params)) || decide ((6 : Int) < x4.locals)) == false) rfl rfl (fun q => r_gtr (gvt q) rfl) (wl_gd0 rfl rfl (fun q => r_pand (gvt q) (gvn q) evc) (wl_ok (r_por rfl rfl evc) (wl_nil (then_normal (wc_ifb hs rfl (fun c17 hs => ?_) (fun c17 hs => ?_)))))))))))))))))
    ·
     refine wc_seq (wc_region (wl_ok (r_assign (v := (.int .i64 (3))) rfl) (wl_nil (then_normal (wc_ret (inBlock_ret (then_ret (then_ret (inBlock_ret (then_ret (fin1 (v := (.int .i64 (3))) Tryz.results18 rfl ?_)))))))))))
     obtain rfl := Option.some.inj hs
     exact ⟨h.grown, rfl⟩
    ·
     refine wc_skip (inBlock_normal (then_normal (wc_region (wl_ok (r_add rfl rfl e8r) (wl_ok (r_move (v := (.int .i64 ((i3 + 1)))) rfl) (wl_nil (then_loop ?_)))))))
     subst hnx6
     exact lend ⟨k2 + 1, i3 + 1⟩ ⟨h.cn _, by omega, hs⟩ (by have := of_decide_eq_true e7; dsimp only; omega)
   ·
    rw [drop_ge (hik ▸ e7), eachI_nil] at hs
    refine wc_exit (then_exit (then_exit (inBlock_eq (then_normal (wc_seq (wc_seq (wc_region (wl_ok (r_move (v := va) rfl) (wl_ok (r_len SliceOf22 rfl (h.srS 1 rfl)) (wl_ok (r_move (v := (.int .i64 (0))) rfl) (wl_nil (then_normal (wc_block (wc_lp (σ := Nat × Int) (inl [2, 6, 7, 8, 9, 57, 58, 59, 60, 61, 62, 63, 64, 65, 66, 67, 68, 69, 70, 71, 72, 73, 74, 75, 76, 77, 78]) (fun ⟨k18, i19⟩ => [(57, (.int .i64 (i19)))]) (fun ⟨k18, i19⟩ w => SH w0 M BE w (hset [(1, .sr rFun va a)]) ∧ i19 = (k18 : Int) ∧ each (source_Check_b5 N a) source_Check_k6 (a.drop k18) () = some r) (fun ⟨k18, i19⟩ => a.length - k18) ⟨0, 0⟩ ⟨rfl, trivial⟩ ?_ ?_))))))))))))))
    ·
     exact ⟨h.cn _, rfl, hs⟩
    ·
     rintro ⟨k18, i19⟩ w junk ⟨h, hik, hs⟩
     refine wc_seq (wc_region ?_)
     refine wl_ok (r_lss rfl rfl) (wl_nil (then_normal ?_))
     refine wc_seq (wc_if rfl (fun e23 => ?_) (fun e23 => ?_))
     ·
      refine wc_skip (then_normal ?_)
      obtain ⟨x20, e24a, e24b⟩ := drop_lt (hik ▸ e23)
      rw [e24b, each_cons] at hs
      generalize hnx22 : each (source_Check_b5 N a) source_Check_k6 (a.drop (k18 + 1)) = nx22 at hs
      have e24r := nat_rng ((h.srS 1 rfl)).len_le hik e23
      refine wc_seq (wc_block (wc_seq (wc_region ?_)))
      obtain ⟨b26, o27, cs28, h, r29, i25⟩ := h.ixS 1 5 rfl SliceOf22 rfl (nat_nn hik) (get_nat hik e24a)
      obtain ⟨u30, rfl, g31⟩ := rFun_open r29
      replace h := h.knowRd 6 g31.up
      refine wl_ok (i25 _ _ _ _ _ _ _ _ _ rfl rfl) (wl_ok (r_ldPN (k := 0) (vs := [(.int .i64 (x20.params)), (.int .i64 (x20.locals)), u30]) h 5 rfl Many43 rfl rfl rfl (Nat.le_of_ble_eq_true rfl)) (w_allocN h 7 Many43 fun w b32 h => w_stN (vs := [(.int .i64 (x20.params)), (.int .i64 (x20.locals)), u30]) h 7 [(.int .i64 (x20.params)), (.int .i64 (x20.locals)), u30] rfl Many43 rfl rfl rfl rfl rfl (ones_cons rfl (ones_cons rfl (ones_cons (h.rdAt 6 rfl).one ones_nil))) fun w h => wl_nil (then_normal (wc_seq (wc_seq (wc_region (wl_ok (r_fieldAddr Fld43x2 rfl) (wl_ok (r_ldB h 7 rfl One41 rfl rfl) ?_))))))))
      obtain ⟨y33, e34, hs⟩ := o_bind hs
      refine w_call fnOk56 rfl rfl (source_count_c N _ _ h.lt u30 x20.body (h.rdS 6 rfl) 1 _ e34) ?_
      rintro _ w ⟨k35, rfl⟩
      refine ⟨_, rfl, ?_⟩
      replace h := h.grow k35
      refine wl_ok (r_move (v := (.tuple #[(.int .i64 (y33.1)), (.bool (y33.2))])) rfl) (wl_ok (r_extract rfl rfl) (wl_ok (r_extract rfl rfl) (wl_ok (r_assign (v := (.int .i64 (y33.1))) rfl) (wl_ok (r_assign (v := (.bool (y33.2))) rfl) (wl_nil (then_normal (wc_seq (wc_region (wl_ok (r_move (v := (.bool (y33.2))) rfl) (wl_ok (r_notb rfl) (wl_nil (then_normal (wc_ifb hs rfl (fun c36 hs => ?_) (fun c36 hs => ?_))))))))))))))
      ·
       refine wc_seq (wc_region (wl_ok (r_assign (v := (.int .i64 (2))) rfl) (wl_nil (then_normal (wc_ret (then_ret (inBlock_ret (then_ret (then_ret (inBlock_ret (then_ret (fin1 (v := (.int .i64 (2))) Tryz.results18 rfl ?_))))))))))))
       obtain rfl := Option.some.inj hs
       exact ⟨h.grown, rfl⟩
      ·
       refine wc_skip (then_normal (wc_seq (wc_region (wl_ok (r_fieldAddr Fld43x2 rfl) (wl_ok (r_ldB h 7 rfl One41 rfl rfl) (wl_ok (r_move (v := va) rfl) (wl_ok (r_fieldAddr Fld43x1 rfl) (wl_ok (r_ldB h 7 rfl One3 rfl rfl) ?_))))))))
       obtain ⟨y37, e38, hs⟩ := o_bind hs
       refine w_call fnOk57 rfl rfl (source_stmts_c N _ _ h.lt u30 x20.body (h.rdS 6 rfl) va a (h.srS 1 rfl) x20.locals _ e38) ?_
       rintro _ w ⟨k39, rfl⟩
       refine ⟨_, rfl, ?_⟩
       replace h := h.grow k39
       refine wl_ok (r_assign (v := (.int .i64 (y37))) rfl) (wl_nil (then_normal (wc_seq (wc_region (wl_ok (r_move (v := (.int .i64 (y37))) rfl) (wl_ok (r_neq rfl rfl) (wl_nil (then_normal (wc_ifb hs rfl (fun c40 hs => ?_) (fun c40 hs => ?_))))))))))
       ·
        refine wc_seq (wc_region (wl_ok (r_move (v := (.int .i64 (y37))) rfl) (wl_ok (r_assign (v := (.int .i64 (y37))) rfl) (wl_nil (then_normal (wc_ret (inBlock_ret (then_ret (then_ret (inBlock_ret (then_ret (fin1 (v := (.int .i64 (y37))) Tryz.results18 rfl ?_))))))))))))
        obtain rfl := Option.some.inj hs
        exact ⟨h.grown, rfl⟩
       ·
        refine wc_skip (inBlock_normal (then_normal (wc_region (wl_ok (r_add rfl rfl e24r) (wl_ok (r_move (v := (.int .i64 ((i19 + 1)))) rfl) (wl_nil (then_loop ?_)))))))
        subst hnx22
        exact lend ⟨k18 + 1, i19 + 1⟩ ⟨h.cn _, by omega, hs⟩ (by have := of_decide_eq_true e23; dsimp only; omega)
     ·
      rw [drop_ge (hik ▸ e23), each_nil] at hs
      refine wc_exit (then_exit (then_exit (inBlock_eq (then_normal (wc_seq (wc_region (wl_ok (r_assign (v := (.int .i64 (0))) rfl) (wl_nil (then_normal (wc_ret (fin1 (v := (.int .i64 (0))) Tryz.results18 rfl ?_)))))))))))
      obtain rfl := Option.some.inj hs
      exact ⟨h.grown, rfl⟩
def code_maker_need (sx : Maker) (a : Int) : Maker :=
  (⟨sx.f, sx.code, (max sx.regs a)⟩ : Maker)
theorem code_maker_need_c (w0 : World) (M : BS) (hM : ∀ b, M b → b < w0.heap.size) (sb : Nat) (sx : Maker) (vs0 vs1 : Value) (hC : Chunk.holds w0 M (Chunk.own' (.two (.blk sb [vs0, vs1, (.int .i64 (sx.regs))]) (.own rIns 90 vs1 sx.code) : Chunk)) (.two (.blk sb [vs0, vs1, (.int .i64 (sx.regs))]) (.own rIns 90 vs1 sx.code) : Chunk)) (hap : ∀ b, Chunk.own' (.two (.blk sb [vs0, vs1, (.int .i64 (sx.regs))]) (.own rIns 90 vs1 sx.code) : Chunk) b → ¬ M b) (hvs0 : RdSl rFun w0 (fun b => M b ∨ Chunk.own' (.two (.blk sb [vs0, vs1, (.int .i64 (sx.regs))]) (.own rIns 90 vs1 sx.code) : Chunk) b) vs0 sx.f) (a : Int) (r : Maker) (hs : code_maker_need sx a = r) :
    Calls Tryz.prog 44 #[(.pointer (some ⟨sb, 0, none⟩)), (.int .i64 (a))] w0 (fun e w' => Keep (Chunk.own' (.two (.blk sb [vs0, vs1, (.int .i64 (sx.regs))]) (.own rIns 90 vs1 sx.code) : Chunk)) w0 w' ∧ ∃ us0, ∃ us1, e = .returned (.tuple #[]) ∧ Chunk.holds w' M (Chunk.own' (.two (.blk sb [us0, us1, .int .i64 r.regs]) (.own rIns 90 us1 r.code) : Chunk)) (.two (.blk sb [us0, us1, .int .i64 r.regs]) (.own rIns 90 us1 r.code) : Chunk) ∧ (∀ b, Chunk.own' (.two (.blk sb [us0, us1, .int .i64 r.regs]) (.own rIns 90 us1 r.code) : Chunk) b → b < w0.heap.size → Chunk.own' (.two (.blk sb [vs0, vs1, (.int .i64 (sx.regs))]) (.own rIns 90 vs1 sx.code) : Chunk) b) ∧ RdSl rFun w' (fun b => M b ∨ Chunk.own' (.two (.blk sb [us0, us1, .int .i64 r.regs]) (.own rIns 90 us1 r.code) : Chunk) b) us0 r.f) := by
 refine calls_start (args := [(.pointer (some ⟨sb, 0, none⟩)), (.int .i64 (a))]) Tryz.func44 rfl Tryz.ntmps44 (Nat.le_of_ble_eq_true rfl) ?_
 have h := SH.init1 hM hC hap
 replace h := h.argRdC 3 hvs0 own1
 generalize hK0 : (.two (.blk sb [vs0, vs1, (.int .i64 (sx.regs))]) (.own rIns 90 vs1 sx.code) : Chunk).own' = K0 at h
 replace h := h.unpair 1 2 (by decide) rfl rfl
 refine wc_region (wl_ok (r_move (v := (.pointer (some ⟨sb, 0, none⟩))) rfl) (wl_ok (r_move (v := (.pointer (some ⟨sb, 0, none⟩))) rfl) (wl_ok (r_nilCheck rfl) (wl_ok (r_fieldAddr Fld85x2 rfl) (wl_ok (r_ldB h 1 rfl One3 rfl rfl) (wl_ok (r_move (v := (.int .i64 (a))) rfl) (wl_ok (r_max rfl rfl) (wl_ok (r_nilCheck rfl) (wl_ok (r_fieldAddr Fld85x2 rfl) (w_st1 h 1 [vs0, vs1, (.int .i64 ((max sx.regs a)))] rfl One3 rfl rfl rfl rfl rfl fun w h => wl_nil (fin0n Tryz.results44 ?_)))))))))))
 replace h := h.pair 1 2 (by decide)
 obtain rfl := hs
 subst hK0
 obtain ⟨o1, o2, o3⟩ := h.outS 1 (C := (.two (.blk sb [vs0, vs1, (.int .i64 ((max sx.regs a)))]) (.own rIns 90 vs1 sx.code) : Chunk)) rfl ⟨trivial, trivial⟩
 exact ⟨o2, vs0, vs1, rfl, o1, o3, h.outRdC 1 3 rfl rfl⟩
def code_maker_put (sx : Maker) (a : Ins) : Option (Int × Maker) :=
  grd (Room 56 sx.code [a]) (grd (I64 (((sx.code ++ [a]).length : Int) - 1)) (some ((((sx.code ++ [a]).length : Int) - 1), (⟨sx.f, (sx.code ++ [a]), sx.regs⟩ : Maker))))
theorem code_maker_put_c (w0 : World) (M : BS) (hM : ∀ b, M b → b < w0.heap.size) (sb : Nat) (sx : Maker) (vs0 vs1 : Value) (hC : Chunk.holds w0 M (Chunk.own' (.two (.blk sb [vs0, vs1, (.int .i64 (sx.regs))]) (.own rIns 90 vs1 sx.code) : Chunk)) (.two (.blk sb [vs0, vs1, (.int .i64 (sx.regs))]) (.own rIns 90 vs1 sx.code) : Chunk)) (hap : ∀ b, Chunk.own' (.two (.blk sb [vs0, vs1, (.int .i64 (sx.regs))]) (.own rIns 90 vs1 sx.code) : Chunk) b → ¬ M b) (hvs0 : RdSl rFun w0 (fun b => M b ∨ Chunk.own' (.two (.blk sb [vs0, vs1, (.int .i64 (sx.regs))]) (.own rIns 90 vs1 sx.code) : Chunk) b) vs0 sx.f) (a : Ins) (va4 : Value) (ha4 : RdSl rInt w0 (fun b => M b ∨ (.two (.blk sb [vs0, vs1, (.int .i64 (sx.regs))]) (.own rIns 90 vs1 sx.code) : Chunk).own' b) va4 a.args) (r : Int × Maker) (hs : code_maker_put sx a = some r) :
    Calls Tryz.prog 46 #[(.pointer (some ⟨sb, 0, none⟩)), (.agg #[(.int .i64 (a.op)), (.int .i64 (a.a)), (.int .i64 (a.b)), (.int .i64 (a.c)), va4])] w0 (fun e w' => Keep (Chunk.own' (.two (.blk sb [vs0, vs1, (.int .i64 (sx.regs))]) (.own rIns 90 vs1 sx.code) : Chunk)) w0 w' ∧ ∃ us0, ∃ us1, e = .returned (.int .i64 r.1) ∧ Chunk.holds w' M (Chunk.own' (.two (.blk sb [us0, us1, .int .i64 r.2.regs]) (.own rIns 90 us1 r.2.code) : Chunk)) (.two (.blk sb [us0, us1, .int .i64 r.2.regs]) (.own rIns 90 us1 r.2.code) : Chunk) ∧ (∀ b, Chunk.own' (.two (.blk sb [us0, us1, .int .i64 r.2.regs]) (.own rIns 90 us1 r.2.code) : Chunk) b → b < w0.heap.size → Chunk.own' (.two (.blk sb [vs0, vs1, (.int .i64 (sx.regs))]) (.own rIns 90 vs1 sx.code) : Chunk) b) ∧ RdSl rFun w' (fun b => M b ∨ Chunk.own' (.two (.blk sb [us0, us1, .int .i64 r.2.regs]) (.own rIns 90 us1 r.2.code) : Chunk) b) us0 r.2.f) := by
 refine calls_start (args := [(.pointer (some ⟨sb, 0, none⟩)), (.agg #[(.int .i64 (a.op)), (.int .i64 (a.a)), (.int .i64 (a.b)), (.int .i64 (a.c)), va4])]) Tryz.func46 rfl Tryz.ntmps46 (Nat.le_of_ble_eq_true rfl) ?_
 have h := SH.init1 hM hC hap
 replace h := h.argRdC 3 hvs0 own1
 replace h := h.argRdC 4 ha4 (own1_rd own1)
 generalize hK0 : (.two (.blk sb [vs0, vs1, (.int .i64 (sx.regs))]) (.own rIns 90 vs1 sx.code) : Chunk).own' = K0 at h
 replace h := h.unpair 1 2 (by decide) rfl rfl
 refine wc_seq (wc_region (w_box (cs := [(.int .i64 (a.op)), (.int .i64 (a.a)), (.int .i64 (a.b)), (.int .i64 (a.c)), va4]) h 5 rfl rfl fun w b1 h => wl_ok (r_assign (v := (.int .i64 (0))) rfl) (wl_nil (then_normal (wc_seq (wck_held (L := (fun b => ob vs1 b ∨ b = sb)) mixed h fun w h => whk_ok 0 (Keep.refl _ _) rfl want_none (by kernel_rfl) (by kernel_rfl) (by kernel_rfl) (fun w hk => r_move (v := (.pointer (some ⟨sb, 0, none⟩))) rfl) (whk_ok 1 (Keep.refl _ _) rfl want_none (by kernel_rfl) (by kernel_rfl) (by kernel_rfl) (fun w hk => r_move (v := (.pointer (some ⟨sb, 0, none⟩))) rfl) (whk_ok 2 (Keep.refl _ _) rfl want_none (by kernel_rfl) (by kernel_rfl) (by kernel_rfl) (fun w hk => r_nilCheck rfl) (whk_ok 3 (Keep.refl _ _) rfl want_none (by kernel_rfl) (by kernel_rfl) (by kernel_rfl) (fun w hk => r_fieldAddr Fld85x1 rfl) (whk_ok 5 (Keep.refl _ _) rfl want_none (by kernel_rfl) (by kernel_rfl) (by kernel_rfl) (fun w hk => have h := h.loseC2 2 1 (by decide) rfl rfl hk; r_ldBN (vs := [(.int .i64 (a.op)), (.int .i64 (a.a)), (.int .i64 (a.b)), (.int .i64 (a.c)), va4]) h 5 rfl Many90 rfl rfl rfl) ?_))))))))))
 obtain ⟨aq9x7_1, hs⟩ := o_grd hs
 obtain ⟨ws10, ws10e⟩ : ∃ x, x = w := ⟨_, rfl⟩
 have hg11 : Keep (fun b => ob vs1 b ∨ b = sb) ws10 w := ws10e ▸ Keep.refl (fun b => ob vs1 b ∨ b = sb) w
 refine whk_at ws10e.symm (whk_eff2 4 6 (by kernel_rfl) rfl want_none rfl want_none ?_ ?_)
 ·
  refine wl_ok (r_ldB h 1 rfl One38 rfl rfl) (wl_nil (whk_back hg11 (whk_eff 6 (by kernel_rfl) rfl want_none (w_bsG (R := rIns) (vs := [(.agg #[(.int .i64 (a.op)), (.int .i64 (a.a)), (.int .i64 (a.b)), (.int .i64 (a.c)), va4])]) (xs := [a]) h 78 ElemOf38 rfl rfl rfl ⟨⟨_, rfl, (h.rdAt 4 rfl)⟩, trivial⟩ rfl fun w uq9x6_1 h uq9x6_1k uq9x6_1f => ?_))))
  have uq9x6_1q : ∀ b, ob uq9x6_1 b → ws10.heap.size ≤ b := fun b hb => Nat.le_trans hg11.size (uq9x6_1f b hb)
  replace hg11 := hg11.grow uq9x6_1k
  refine wl_nil (whk_back hg11 (whk_eff 7 (by kernel_rfl) rfl want_none ?_))
  have uq9x7_2z := hg11.size
  refine w_appGN (R := rIns) (m := [a]) h 2 rfl (h.ownS 78 rfl) ElemOf38 rfl rfl rfl aq9x7_1.1 aq9x7_1.2 fun w uq9x7_2 h uq9x7_2k uq9x7_2n => ?_
  have uq9x7_2q : ∀ b, ob uq9x7_2 b → b < ws10.heap.size → ob vs1 b := fun b hb hl => uq9x7_2n b hb (Nat.lt_of_lt_of_le hl (hg11).size)
  replace hg11 := Keep.step hg11 uq9x7_2k (fun _ hx _ => .inl hx)
  refine wl_nil (whk_back hg11 (whk_ok 8 hg11 rfl want_none (by kernel_rfl) (by kernel_rfl) (by kernel_rfl) (fun w hk => r_nilCheck rfl) (whk_ok 9 hg11 rfl want_none (by kernel_rfl) (by kernel_rfl) (by kernel_rfl) (fun w hk => r_fieldAddr Fld85x1 rfl) (whk_eff 10 (by kernel_rfl) rfl want_none (w_st1G h 1 [vs0, uq9x7_2, (.int .i64 (sx.regs))] rfl One38 rfl rfl rfl rfl (h.ownAt 2 rfl).one fun w h kq9x10_1 => ?_)))))
  replace hg11 := Keep.step hg11 kq9x10_1 (fun _ hx _ => .inr hx)
  refine wl_nil (whk_back hg11 (whk_done (by kernel_rfl) (then_normal (wc_seq (wc_region (wl_ok (r_move (v := (.pointer (some ⟨sb, 0, none⟩))) rfl) (wl_ok (r_nilCheck rfl) (wl_ok (r_fieldAddr Fld85x1 rfl) (wl_ok (r_ldB h 1 rfl One38 rfl rfl) (wl_ok (r_len SliceOf38 rfl (h.ownS 2 rfl)) ?_))))))))))
  obtain ⟨a12, hs⟩ := o_grd hs
  refine wl_ok (r_sub rfl rfl a12) (wl_ok (r_assign (v := (.int .i64 ((((sx.code ++ [a]).length : Int) - 1)))) rfl) (wl_nil (then_normal (wc_ret (fin1 (v := (.int .i64 ((((sx.code ++ [a]).length : Int) - 1)))) Tryz.results46 rfl ?_)))))
  replace h := h.pair 1 2 (by decide)
  obtain rfl := Option.some.inj hs
  subst hK0
  obtain ⟨o1, o2, o3⟩ := h.outS 1 (C := (.two (.blk sb [vs0, uq9x7_2, (.int .i64 (sx.regs))]) (.own rIns 90 uq9x7_2 (sx.code ++ [a])) : Chunk)) rfl ⟨trivial, trivial⟩
  exact ⟨o2, vs0, uq9x7_2, rfl, o1, o3, h.outRdC 1 3 rfl rfl⟩
 ·
  refine w_bsG (R := rIns) (vs := [(.agg #[(.int .i64 (a.op)), (.int .i64 (a.a)), (.int .i64 (a.b)), (.int .i64 (a.c)), va4])]) (xs := [a]) h 78 ElemOf38 rfl rfl rfl ⟨⟨_, rfl, (h.rdAt 4 rfl)⟩, trivial⟩ rfl fun w uq9x6_1 h uq9x6_1k uq9x6_1f => ?_
  have uq9x6_1q : ∀ b, ob uq9x6_1 b → ws10.heap.size ≤ b := fun b hb => Nat.le_trans hg11.size (uq9x6_1f b hb)
  replace hg11 := hg11.grow uq9x6_1k
  refine wl_nil (whk_back hg11 (whk_eff 4 (by kernel_rfl) rfl want_none (wl_ok (r_ldB h 1 rfl One38 rfl rfl) (wl_nil (whk_back hg11 (whk_eff 7 (by kernel_rfl) rfl want_none ?_))))))
  have uq9x7_2z := hg11.size
  refine w_appGN (R := rIns) (m := [a]) h 2 rfl (h.ownS 78 rfl) ElemOf38 rfl rfl rfl aq9x7_1.1 aq9x7_1.2 fun w uq9x7_2 h uq9x7_2k uq9x7_2n => ?_
  have uq9x7_2q : ∀ b, ob uq9x7_2 b → b < ws10.heap.size → ob vs1 b := fun b hb hl => uq9x7_2n b hb (Nat.lt_of_lt_of_le hl (hg11).size)
  replace hg11 := Keep.step hg11 uq9x7_2k (fun _ hx _ => .inl hx)
  refine wl_nil (whk_back hg11 (whk_ok 8 hg11 rfl want_none (by kernel_rfl) (by kernel_rfl) (by kernel_rfl) (fun w hk => r_nilCheck rfl) (whk_ok 9 hg11 rfl want_none (by kernel_rfl) (by kernel_rfl) (by kernel_rfl) (fun w hk => r_fieldAddr Fld85x1 rfl) (whk_eff 10 (by kernel_rfl) rfl want_none (w_st1G h 1 [vs0, uq9x7_2, (.int .i64 (sx.regs))] rfl One38 rfl rfl rfl rfl (h.ownAt 2 rfl).one fun w h kq9x10_1 => ?_)))))
  replace hg11 := Keep.step hg11 kq9x10_1 (fun _ hx _ => .inr hx)
  refine wl_nil (whk_back hg11 (whk_done (by kernel_rfl) (then_normal (wc_seq (wc_region (wl_ok (r_move (v := (.pointer (some ⟨sb, 0, none⟩))) rfl) (wl_ok (r_nilCheck rfl) (wl_ok (r_fieldAddr Fld85x1 rfl) (wl_ok (r_ldB h 1 rfl One38 rfl rfl) (wl_ok (r_len SliceOf38 rfl (h.ownS 2 rfl)) ?_))))))))))
  obtain ⟨a13, hs⟩ := o_grd hs
  refine wl_ok (r_sub rfl rfl a13) (wl_ok (r_assign (v := (.int .i64 ((((sx.code ++ [a]).length : Int) - 1)))) rfl) (wl_nil (then_normal (wc_ret (fin1 (v := (.int .i64 ((((sx.code ++ [a]).length : Int) - 1)))) Tryz.results46 rfl ?_)))))
  replace h := h.pair 1 2 (by decide)
  obtain rfl := Option.some.inj hs
  subst hK0
  obtain ⟨o1, o2, o3⟩ := h.outS 1 (C := (.two (.blk sb [vs0, uq9x7_2, (.int .i64 (sx.regs))]) (.own rIns 90 uq9x7_2 (sx.code ++ [a])) : Chunk)) rfl ⟨trivial, trivial⟩
  exact ⟨o2, vs0, uq9x7_2, rfl, o1, o3, h.outRdC 1 3 rfl rfl⟩
def code_maker_expr_b4 (F0 : Maker → List Tok → Int → Option (Int × Maker)) (x116 : Fun) (a : List Tok) (b : Int) (x9 : Tok) (s : Int × List Int × Int × List Fun × List Ins × Int) (nx165 : Int × List Int × Int × List Fun × List Ins × Int → Option (Int × Maker)) : Option (Int × Maker) :=
  match s with | (x152, x154, x155, y157, y159, y160) => bif decide ((x155 : Int) < x116.params) then (sub? a x152 (a.length : Int)).bind fun x169 => grd (I64 (b + x155)) ((F0 (⟨y157, y159, y160⟩ : Maker) x169 (b + x155)).bind fun y176 => grd (I64 (x152 + y176.1)) (grd (I64 (b + x155)) (grd (Room 8 x154 [(b + x155)]) (grd (I64 (x155 + 1)) (nx165 ((x152 + y176.1), (x154 ++ [(b + x155)]), (x155 + 1), y176.2.f, y176.2.code, y176.2.regs)))))) else (code_maker_put (⟨y157, y159, y160⟩ : Maker) (⟨7, b, x9.n, 0, x154⟩ : Ins)).bind fun y191 => some (x152, y191.2)
def code_maker_expr_r (N : Nat) (F0 : Maker → List Tok → Int → Option (Int × Maker)) (sx : Maker) (a : List Tok) (b : Int) : Option (Int × Maker) :=
  grd (I64 (b + 1)) ((idx a 0).bind fun x9 => bif decide ((x9.kind : Int) = 1) then (code_maker_put (code_maker_need sx (b + 1)) (⟨1, b, x9.n, 0, []⟩ : Ins)).bind fun y19 => some (1, y19.2) else bif decide ((x9.kind : Int) = 2) then (code_maker_put (code_maker_need sx (b + 1)) (⟨2, b, x9.n, 0, []⟩ : Ins)).bind fun y29 => some (1, y29.2) else bif decide ((x9.kind : Int) = 5) then (code_maker_put (code_maker_need sx (b + 1)) (⟨5, b, x9.n, 0, []⟩ : Ins)).bind fun y39 => some (1, y39.2) else bif decide ((x9.kind : Int) = 3) then (sub? a 1 (a.length : Int)).bind fun x48 => (F0 (code_maker_need sx (b + 1)) x48 b).bind fun y54 => grd (I64 (1 + y54.1)) ((sub? a (1 + y54.1) (a.length : Int)).bind fun x63 => grd (I64 (b + 1)) ((F0 y54.2 x63 (b + 1)).bind fun y70 => grd (I64 ((1 + y54.1) + y70.1)) (grd (I64 (b + 1)) ((code_maker_put y70.2 (⟨3, b, b, (b + 1), [x9.n]⟩ : Ins)).bind fun y82 => some (((1 + y54.1) + y70.1), y82.2))))) else bif decide ((x9.kind : Int) = 4) then (sub? a 1 (a.length : Int)).bind fun x91 => (F0 (code_maker_need sx (b + 1)) x91 b).bind fun y97 => grd (I64 (1 + y97.1)) ((code_maker_put y97.2 (⟨4, b, b, x9.n, []⟩ : Ins)).bind fun y107 => some ((1 + y97.1), y107.2)) else bif decide ((x9.kind : Int) = 6) then (idx ((code_maker_need sx (b + 1)).f) x9.n).bind fun x116 => again (code_maker_expr_b4 F0 x116 a b x9) N (1, [], 0, (code_maker_need sx (b + 1)).f, (code_maker_need sx (b + 1)).code, (code_maker_need sx (b + 1)).regs) else some (1, (code_maker_need sx (b + 1))))
def code_maker_expr : Nat → Maker → List Tok → Int → Option (Int × Maker)
  | 0 => fun _ _ _ => none
  | N + 1 => code_maker_expr_r N (code_maker_expr N)
theorem code_maker_expr_c : ∀ (N : Nat) (w0 : World) (M : BS) (hM : ∀ b, M b → b < w0.heap.size) (sb : Nat) (sx : Maker) (vs0 vs1 : Value) (hC : Chunk.holds w0 M (Chunk.own' (.two (.blk sb [vs0, vs1, (.int .i64 (sx.regs))]) (.own rIns 90 vs1 sx.code) : Chunk)) (.two (.blk sb [vs0, vs1, (.int .i64 (sx.regs))]) (.own rIns 90 vs1 sx.code) : Chunk)) (hap : ∀ b, Chunk.own' (.two (.blk sb [vs0, vs1, (.int .i64 (sx.regs))]) (.own rIns 90 vs1 sx.code) : Chunk) b → ¬ M b) (hvs0 : RdSl rFun w0 (fun b => M b ∨ Chunk.own' (.two (.blk sb [vs0, vs1, (.int .i64 (sx.regs))]) (.own rIns 90 vs1 sx.code) : Chunk) b) vs0 sx.f) (va : Value) (a : List Tok) (ha : RdSl rTok w0 (fun b => M b ∨ (.two (.blk sb [vs0, vs1, (.int .i64 (sx.regs))]) (.own rIns 90 vs1 sx.code) : Chunk).own' b) va a) (b : Int) (r : Int × Maker) (hs : code_maker_expr N sx a b = some r),
    Calls Tryz.prog 78 #[(.pointer (some ⟨sb, 0, none⟩)), va, (.int .i64 (b))] w0 (fun e w' => Keep (Chunk.own' (.two (.blk sb [vs0, vs1, (.int .i64 (sx.regs))]) (.own rIns 90 vs1 sx.code) : Chunk)) w0 w' ∧ ∃ us0, ∃ us1, e = .returned (.int .i64 r.1) ∧ Chunk.holds w' M (Chunk.own' (.two (.blk sb [us0, us1, .int .i64 r.2.regs]) (.own rIns 90 us1 r.2.code) : Chunk)) (.two (.blk sb [us0, us1, .int .i64 r.2.regs]) (.own rIns 90 us1 r.2.code) : Chunk) ∧ (∀ b, Chunk.own' (.two (.blk sb [us0, us1, .int .i64 r.2.regs]) (.own rIns 90 us1 r.2.code) : Chunk) b → b < w0.heap.size → Chunk.own' (.two (.blk sb [vs0, vs1, (.int .i64 (sx.regs))]) (.own rIns 90 vs1 sx.code) : Chunk) b) ∧ RdSl rFun w' (fun b => M b ∨ Chunk.own' (.two (.blk sb [us0, us1, .int .i64 r.2.regs]) (.own rIns 90 us1 r.2.code) : Chunk) b) us0 r.2.f) := by
  intro N
  induction N with
  | zero => intro w0 M hM sb sx vs0 vs1 hC hap hvs0 va a ha b r hs; cases hs
  | succ N ih =>
  intro w0 M hM sb sx vs0 vs1 hC hap hvs0 va a ha b r hs
  replace hs : code_maker_expr_r N (code_maker_expr N) sx a b = some r := hs
  generalize code_maker_expr N = F0 at hs ih
  refine calls_start (args := [(.pointer (some ⟨sb, 0, none⟩)), va, (.int .i64 (b))]) Tryz.func78 rfl Tryz.ntmps78 (Nat.le_of_ble_eq_true rfl) ?_
  have h := SH.init1 hM hC hap
  replace h := h.argRdC 3 hvs0 own1
  replace h := h.argRdC 4 ha (own1_rd own1)
  generalize hK0 : (.two (.blk sb [vs0, vs1, (.int .i64 (sx.regs))]) (.own rIns 90 vs1 sx.code) : Chunk).own' = K0 at h
  replace h := h.unpair 1 2 (by decide) rfl rfl
  have hl_a := ha.len_le
  refine wc_seq (wc_region (wl_ok (r_assign (v := (.int .i64 (0))) rfl) (wl_nil (then_normal (wc_seq (wc_region (wl_ok (r_move (v := (.pointer (some ⟨sb, 0, none⟩))) rfl) (wl_ok (r_move (v := (.int .i64 (b))) rfl) ?_))))))))
  obtain ⟨a1, hs⟩ := o_grd hs
  refine wl_ok (r_add rfl rfl a1) ?_
  replace h := h.pair 1 2 (by decide)
  obtain ⟨l2a, l2b, l2c⟩ := h.lendS 1 (C := (.two (.blk sb [vs0, vs1, (.int .i64 (sx.regs))]) (.own rIns 90 vs1 sx.code) : Chunk)) rfl ⟨trivial, trivial⟩
  refine w_call fnOk44 rfl rfl (code_maker_need_c _ _ l2c sb sx vs0 vs1 l2a l2b (h.rdC 1 3 rfl rfl) (b + 1) _ rfl) ?_
  rintro _ w ⟨k6, u3, u5, rfl, h7, h8, g4⟩
  refine ⟨_, rfl, ?_⟩
  replace h := h.back 1 (C := (.two (.blk sb [vs0, vs1, (.int .i64 (sx.regs))]) (.own rIns 90 vs1 sx.code) : Chunk)) (C' := (.two (.blk sb [u3, u5, (.int .i64 ((code_maker_need sx (b + 1)).regs))]) (.own rIns 90 u5 ((code_maker_need sx (b + 1)).code)) : Chunk)) rfl ⟨trivial, trivial⟩ h7 k6 h8
  replace h := h.knowRd 5 (backRd g4)
  replace h := h.unpair 1 2 (by decide) rfl rfl
  refine wl_nil (then_normal (wc_seq (wc_region (wl_ok (r_move (v := va) rfl) ?_))))
  obtain ⟨x9, e10, hs⟩ := o_bind hs
  obtain ⟨b12, o13, cs14, h, r15, i11⟩ := h.ixR 4 6 rfl SliceOf63 rfl (o_idx e10).1 (o_idx e10).2
  obtain rfl := r15
  refine wl_ok (i11 _ _ _ _ _ _ _ _ _ rfl rfl) (wl_ok (r_ldPN (k := 0) (vs := [(.int .i64 (x9.kind)), (.int .i64 (x9.n))]) h 6 rfl Many71 rfl rfl rfl (Nat.le_of_ble_eq_true rfl)) (w_allocN h 7 Many71 fun w b16 h => w_stN (vs := [(.int .i64 (x9.kind)), (.int .i64 (x9.n))]) h 7 [(.int .i64 (x9.kind)), (.int .i64 (x9.n))] rfl Many71 rfl rfl rfl rfl rfl (ones_cons rfl (ones_cons rfl ones_nil)) fun w h => wl_ok (r_assign (v := (.int .i64 (1))) rfl) (wl_nil (then_normal (wc_seq (wc_seq (wc_region (wl_ok (r_fieldAddr Fld71x0 rfl) (wl_ok (r_ldB h 7 rfl One3 rfl rfl) (wl_nil (then_normal (wc_block (wc_seq (wc_region (wl_ok (r_eql rfl rfl) (wl_ok (r_assign (v := (.bool (decide ((x9.kind : Int) = 1)))) rfl) (wl_nil (then_normal (wc_ifb hs rfl (fun c17 hs => ?_) (fun c17 hs => ?_))))))))))))))))))))
  ·
   refine wc_region (wl_ok (r_move (v := (.pointer (some ⟨sb, 0, none⟩))) rfl) (wl_ok (r_move (v := (.int .i64 (b))) rfl) (wl_ok (r_fieldAddr Fld71x1 rfl) (wl_ok (r_ldB h 7 rfl One3 rfl rfl) (wl_ok (r_build (pv := [(0, (.int .i64 (1))), (1, (.int .i64 (b))), (2, (.int .i64 (x9.n)))]) (out := [(.int .i64 (1)), (.int .i64 (b)), (.int .i64 (x9.n)), (.int .i64 (0)), (.slice none 0 0)]) Struct90 rfl ⟨0, 1, [(.int .i64 (1))], rfl, rfl, rfl, Nat.le_of_ble_eq_true rfl, ⟨1, 1, [(.int .i64 (b))], rfl, rfl, rfl, Nat.le_of_ble_eq_true rfl, ⟨2, 1, [(.int .i64 (x9.n))], rfl, rfl, rfl, Nat.le_of_ble_eq_true rfl, rfl⟩⟩⟩) ?_)))))
   replace h := h.pair 1 2 (by decide)
   obtain ⟨l18a, l18b, l18c⟩ := h.lendS 1 (C := (.two (.blk sb [u3, u5, (.int .i64 ((code_maker_need sx (b + 1)).regs))]) (.own rIns 90 u5 ((code_maker_need sx (b + 1)).code)) : Chunk)) rfl ⟨trivial, trivial⟩
   obtain ⟨y19, e20, hs⟩ := o_bind hs
   refine w_call fnOk46 rfl rfl (code_maker_put_c _ _ l18c sb (code_maker_need sx (b + 1)) u3 u5 l18a l18b (h.rdC 1 5 rfl rfl) (⟨1, b, x9.n, 0, []⟩ : Ins) (.slice none 0 0) Rd2.nil _ e20) ?_
   rintro _ w ⟨k24, u21, u23, rfl, h25, h26, g22⟩
   refine ⟨_, rfl, ?_⟩
   replace h := h.back 1 (C := (.two (.blk sb [u3, u5, (.int .i64 ((code_maker_need sx (b + 1)).regs))]) (.own rIns 90 u5 ((code_maker_need sx (b + 1)).code)) : Chunk)) (C' := (.two (.blk sb [u21, u23, (.int .i64 (y19.2.regs))]) (.own rIns 90 u23 y19.2.code) : Chunk)) rfl ⟨trivial, trivial⟩ h25 k24 h26
   replace h := h.knowRd 8 (backRd g22)
   replace h := h.unpair 1 2 (by decide) rfl rfl
   refine wl_nil (inBlock_normal (then_normal (wc_seq (wc_region (wl_ok (r_move (v := (.int .i64 (1))) rfl) (wl_ok (r_assign (v := (.int .i64 (1))) rfl) (wl_nil (then_normal (wc_ret (fin1 (v := (.int .i64 (1))) Tryz.results78 rfl ?_))))))))))
   replace h := h.pair 1 2 (by decide)
   obtain rfl := Option.some.inj hs
   subst hK0
   obtain ⟨o1, o2, o3⟩ := h.outS 1 (C := (.two (.blk sb [u21, u23, (.int .i64 (y19.2.regs))]) (.own rIns 90 u23 y19.2.code) : Chunk)) rfl ⟨trivial, trivial⟩
   exact ⟨o2, u21, u23, rfl, o1, o3, h.outRdC 1 8 rfl rfl⟩
  ·
   refine wc_seq (wc_region (wl_ok (r_eql rfl rfl) (wl_ok (r_assign (v := (.bool (decide ((x9.kind : Int) = 2)))) rfl) (wl_nil (then_normal (wc_ifb hs rfl (fun c27 hs => ?_) (fun c27 hs => ?_)))))))
   ·
    refine wc_region (wl_ok (r_move (v := (.pointer (some ⟨sb, 0, none⟩))) rfl) (wl_ok (r_move (v := (.int .i64 (b))) rfl) (wl_ok (r_fieldAddr Fld71x1 rfl) (wl_ok (r_ldB h 7 rfl One3 rfl rfl) (wl_ok (r_build (pv := [(0, (.int .i64 (2))), (1, (.int .i64 (b))), (2, (.int .i64 (x9.n)))]) (out := [(.int .i64 (2)), (.int .i64 (b)), (.int .i64 (x9.n)), (.int .i64 (0)), (.slice none 0 0)]) Struct90 rfl ⟨0, 1, [(.int .i64 (2))], rfl, rfl, rfl, Nat.le_of_ble_eq_true rfl, ⟨1, 1, [(.int .i64 (b))], rfl, rfl, rfl, Nat.le_of_ble_eq_true rfl, ⟨2, 1, [(.int .i64 (x9.n))], rfl, rfl, rfl, Nat.le_of_ble_eq_true rfl, rfl⟩⟩⟩) ?_)))))
    replace h := h.pair 1 2 (by decide)
    obtain ⟨l28a, l28b, l28c⟩ := h.lendS 1 (C := (.two (.blk sb [u3, u5, (.int .i64 ((code_maker_need sx (b + 1)).regs))]) (.own rIns 90 u5 ((code_maker_need sx (b + 1)).code)) : Chunk)) rfl ⟨trivial, trivial⟩
    obtain ⟨y29, e30, hs⟩ := o_bind hs
    refine w_call fnOk46 rfl rfl (code_maker_put_c _ _ l28c sb (code_maker_need sx (b + 1)) u3 u5 l28a l28b (h.rdC 1 5 rfl rfl) (⟨2, b, x9.n, 0, []⟩ : Ins) (.slice none 0 0) Rd2.nil _ e30) ?_
    rintro _ w ⟨k34, u31, u33, rfl, h35, h36, g32⟩
    refine ⟨_, rfl, ?_⟩
    replace h := h.back 1 (C := (.two (.blk sb [u3, u5, (.int .i64 ((code_maker_need sx (b + 1)).regs))]) (.own rIns 90 u5 ((code_maker_need sx (b + 1)).code)) : Chunk)) (C' := (.two (.blk sb [u31, u33, (.int .i64 (y29.2.regs))]) (.own rIns 90 u33 y29.2.code) : Chunk)) rfl ⟨trivial, trivial⟩ h35 k34 h36
    replace h := h.knowRd 9 (backRd g32)
    replace h := h.unpair 1 2 (by decide) rfl rfl
    refine wl_nil (inBlock_normal (then_normal (wc_seq (wc_region (wl_ok (r_move (v := (.int .i64 (1))) rfl) (wl_ok (r_assign (v := (.int .i64 (1))) rfl) (wl_nil (then_normal (wc_ret (fin1 (v := (.int .i64 (1))) Tryz.results78 rfl ?_))))))))))
    replace h := h.pair 1 2 (by decide)
    obtain rfl := Option.some.inj hs
    subst hK0
    obtain ⟨o1, o2, o3⟩ := h.outS 1 (C := (.two (.blk sb [u31, u33, (.int .i64 (y29.2.regs))]) (.own rIns 90 u33 y29.2.code) : Chunk)) rfl ⟨trivial, trivial⟩
    exact ⟨o2, u31, u33, rfl, o1, o3, h.outRdC 1 9 rfl rfl⟩
   ·
    refine wc_seq (wc_region (wl_ok (r_eql rfl rfl) (wl_ok (r_assign (v := (.bool (decide ((x9.kind : Int) = 5)))) rfl) (wl_nil (then_normal (wc_ifb hs rfl (fun c37 hs => ?_) (fun c37 hs => ?_)))))))
    ·
     refine wc_region (wl_ok (r_move (v := (.pointer (some ⟨sb, 0, none⟩))) rfl) (wl_ok (r_move (v := (.int .i64 (b))) rfl) (wl_ok (r_fieldAddr Fld71x1 rfl) (wl_ok (r_ldB h 7 rfl One3 rfl rfl) (wl_ok (r_build (pv := [(0, (.int .i64 (5))), (1, (.int .i64 (b))), (2, (.int .i64 (x9.n)))]) (out := [(.int .i64 (5)), (.int .i64 (b)), (.int .i64 (x9.n)), (.int .i64 (0)), (.slice none 0 0)]) Struct90 rfl ⟨0, 1, [(.int .i64 (5))], rfl, rfl, rfl, Nat.le_of_ble_eq_true rfl, ⟨1, 1, [(.int .i64 (b))], rfl, rfl, rfl, Nat.le_of_ble_eq_true rfl, ⟨2, 1, [(.int .i64 (x9.n))], rfl, rfl, rfl, Nat.le_of_ble_eq_true rfl, rfl⟩⟩⟩) ?_)))))
     replace h := h.pair 1 2 (by decide)
     obtain ⟨l38a, l38b, l38c⟩ := h.lendS 1 (C := (.two (.blk sb [u3, u5, (.int .i64 ((code_maker_need sx (b + 1)).regs))]) (.own rIns 90 u5 ((code_maker_need sx (b + 1)).code)) : Chunk)) rfl ⟨trivial, trivial⟩
     obtain ⟨y39, e40, hs⟩ := o_bind hs
     refine w_call fnOk46 rfl rfl (code_maker_put_c _ _ l38c sb (code_maker_need sx (b + 1)) u3 u5 l38a l38b (h.rdC 1 5 rfl rfl) (⟨5, b, x9.n, 0, []⟩ : Ins) (.slice none 0 0) Rd2.nil _ e40) ?_
     rintro _ w ⟨k44, u41, u43, rfl, h45, h46, g42⟩
     refine ⟨_, rfl, ?_⟩
     replace h := h.back 1 (C := (.two (.blk sb [u3, u5, (.int .i64 ((code_maker_need sx (b + 1)).regs))]) (.own rIns 90 u5 ((code_maker_need sx (b + 1)).code)) : Chunk)) (C' := (.two (.blk sb [u41, u43, (.int .i64 (y39.2.regs))]) (.own rIns 90 u43 y39.2.code) : Chunk)) rfl ⟨trivial, trivial⟩ h45 k44 h46
     replace h := h.knowRd 10 (backRd g42)
     replace h := h.unpair 1 2 (by decide) rfl rfl
     refine wl_nil (inBlock_normal (then_normal (wc_seq (wc_region (wl_ok (r_move (v := (.int .i64 (1))) rfl) (wl_ok (r_assign (v := (.int .i64 (1))) rfl) (wl_nil (then_normal (wc_ret (fin1 (v := (.int .i64 (1))) Tryz.results78 rfl ?_))))))))))
     replace h := h.pair 1 2 (by decide)
     obtain rfl := Option.some.inj hs
     subst hK0
     obtain ⟨o1, o2, o3⟩ := h.outS 1 (C := (.two (.blk sb [u41, u43, (.int .i64 (y39.2.regs))]) (.own rIns 90 u43 y39.2.code) : Chunk)) rfl ⟨trivial, trivial⟩
     exact ⟨o2, u41, u43, rfl, o1, o3, h.outRdC 1 10 rfl rfl⟩
    ·
     refine wc_seq (wc_region (wl_ok (r_eql rfl rfl) (wl_ok (r_assign (v := (.bool (decide ((x9.kind : Int) = 3)))) rfl) (wl_nil (then_normal (wc_ifb hs rfl (fun c47 hs => ?_) (fun c47 hs => ?_)))))))
     ·
      refine wc_seq (wc_region (wl_ok (r_move (v := (.int .i64 (1))) rfl) (wl_ok (r_move (v := (.pointer (some ⟨sb, 0, none⟩))) rfl) (wl_ok (r_move (v := va) rfl) (wl_ok (r_move (v := (.int .i64 (1))) rfl) ?_)))))
      obtain ⟨x48, e49, hs⟩ := o_bind hs
      obtain ⟨e52, e52a, e52b, e52c⟩ := o_sub e49
      obtain ⟨u50, h, i51⟩ := h.slR 4 11 rfl SliceOf63 rfl e52a e52b e52c
      rw [← e52] at h
      refine wl_ok (i51 _ _ _ _ _ _ _ _ _ _ rfl (.inr (congrArg some rfl)) (.inl ⟨rfl, rfl⟩)) (wl_ok (r_move (v := (.int .i64 (b))) rfl) ?_)
      replace h := h.pair 1 2 (by decide)
      obtain ⟨l53a, l53b, l53c⟩ := h.lendS 1 (C := (.two (.blk sb [u3, u5, (.int .i64 ((code_maker_need sx (b + 1)).regs))]) (.own rIns 90 u5 ((code_maker_need sx (b + 1)).code)) : Chunk)) rfl ⟨trivial, trivial⟩
      obtain ⟨y54, e55, hs⟩ := o_bind hs
      refine w_call fnOk78 rfl rfl (ih _ _ l53c sb (code_maker_need sx (b + 1)) u3 u5 l53a l53b (h.rdC 1 5 rfl rfl) u50 x48 (h.rdC 1 11 rfl rfl) b _ e55) ?_
      rintro _ w ⟨k59, u56, u58, rfl, h60, h61, g57⟩
      refine ⟨_, rfl, ?_⟩
      replace h := h.back 1 (C := (.two (.blk sb [u3, u5, (.int .i64 ((code_maker_need sx (b + 1)).regs))]) (.own rIns 90 u5 ((code_maker_need sx (b + 1)).code)) : Chunk)) (C' := (.two (.blk sb [u56, u58, (.int .i64 (y54.2.regs))]) (.own rIns 90 u58 y54.2.code) : Chunk)) rfl ⟨trivial, trivial⟩ h60 k59 h61
      replace h := h.knowRd 12 (backRd g57)
      replace h := h.unpair 1 2 (by decide) rfl rfl
      obtain ⟨a62, hs⟩ := o_grd hs
      refine wl_ok (r_add rfl rfl a62) (wl_ok (r_assign (v := (.int .i64 ((1 + y54.1)))) rfl) (wl_nil (then_normal (wc_seq (wc_region (wl_ok (r_move (v := (.int .i64 ((1 + y54.1)))) rfl) (wl_ok (r_move (v := (.pointer (some ⟨sb, 0, none⟩))) rfl) (wl_ok (r_move (v := va) rfl) (wl_ok (r_move (v := (.int .i64 ((1 + y54.1)))) rfl) ?_)))))))))
      obtain ⟨x63, e64, hs⟩ := o_bind hs
      obtain ⟨e67, e67a, e67b, e67c⟩ := o_sub e64
      obtain ⟨u65, h, i66⟩ := h.slR 4 13 rfl SliceOf63 rfl e67a e67b e67c
      rw [← e67] at h
      refine wl_ok (i66 _ _ _ _ _ _ _ _ _ _ rfl (.inr (congrArg some rfl)) (.inl ⟨rfl, rfl⟩)) (wl_ok (r_move (v := (.int .i64 (b))) rfl) ?_)
      obtain ⟨a68, hs⟩ := o_grd hs
      refine wl_ok (r_add rfl rfl a68) ?_
      replace h := h.pair 1 2 (by decide)
      obtain ⟨l69a, l69b, l69c⟩ := h.lendS 1 (C := (.two (.blk sb [u56, u58, (.int .i64 (y54.2.regs))]) (.own rIns 90 u58 y54.2.code) : Chunk)) rfl ⟨trivial, trivial⟩
      obtain ⟨y70, e71, hs⟩ := o_bind hs
      refine w_call fnOk78 rfl rfl (ih _ _ l69c sb y54.2 u56 u58 l69a l69b (h.rdC 1 12 rfl rfl) u65 x63 (h.rdC 1 13 rfl rfl) (b + 1) _ e71) ?_
      rintro _ w ⟨k75, u72, u74, rfl, h76, h77, g73⟩
      refine ⟨_, rfl, ?_⟩
      replace h := h.back 1 (C := (.two (.blk sb [u56, u58, (.int .i64 (y54.2.regs))]) (.own rIns 90 u58 y54.2.code) : Chunk)) (C' := (.two (.blk sb [u72, u74, (.int .i64 (y70.2.regs))]) (.own rIns 90 u74 y70.2.code) : Chunk)) rfl ⟨trivial, trivial⟩ h76 k75 h77
      replace h := h.knowRd 14 (backRd g73)
      replace h := h.unpair 1 2 (by decide) rfl rfl
      obtain ⟨a78, hs⟩ := o_grd hs
      refine wl_ok (r_add rfl rfl a78) (wl_ok (r_assign (v := (.int .i64 (((1 + y54.1) + y70.1)))) rfl) (wl_nil (then_normal (wc_region (wl_ok (r_move (v := (.pointer (some ⟨sb, 0, none⟩))) rfl) (wl_ok (r_move (v := (.int .i64 (b))) rfl) (wl_ok (r_move (v := (.int .i64 (b))) rfl) (wl_ok (r_move (v := (.int .i64 (b))) rfl) ?_))))))))
      obtain ⟨a79, hs⟩ := o_grd hs
      refine wl_ok (r_add rfl rfl a79) (wl_ok (r_fieldAddr Fld71x1 rfl) (wl_ok (r_ldB h 7 rfl One3 rfl rfl) (w_bs (R := rInt) (vs := [(.int .i64 (x9.n))]) (xs := [x9.n]) h 15 ElemOf51 rfl rfl rfl ⟨rfl, trivial⟩ rfl fun w u80 h => wl_ok (r_build (pv := [(0, (.int .i64 (3))), (1, (.int .i64 (b))), (2, (.int .i64 (b))), (3, (.int .i64 ((b + 1)))), (4, u80)]) (out := [(.int .i64 (3)), (.int .i64 (b)), (.int .i64 (b)), (.int .i64 ((b + 1))), u80]) Struct90 rfl ⟨0, 1, [(.int .i64 (3))], rfl, rfl, rfl, Nat.le_of_ble_eq_true rfl, ⟨1, 1, [(.int .i64 (b))], rfl, rfl, rfl, Nat.le_of_ble_eq_true rfl, ⟨2, 1, [(.int .i64 (b))], rfl, rfl, rfl, Nat.le_of_ble_eq_true rfl, ⟨3, 1, [(.int .i64 ((b + 1)))], rfl, rfl, rfl, Nat.le_of_ble_eq_true rfl, ⟨4, 1, [u80], rfl, (toList_of_one (h.ownAt 15 rfl).one), rfl, Nat.le_of_ble_eq_true rfl, rfl⟩⟩⟩⟩⟩) ?_)))
      replace h := h.freeze 15 rfl
      replace h := h.pair 1 2 (by decide)
      obtain ⟨l81a, l81b, l81c⟩ := h.lendS 1 (C := (.two (.blk sb [u72, u74, (.int .i64 (y70.2.regs))]) (.own rIns 90 u74 y70.2.code) : Chunk)) rfl ⟨trivial, trivial⟩
      obtain ⟨y82, e83, hs⟩ := o_bind hs
      refine w_call fnOk46 rfl rfl (code_maker_put_c _ _ l81c sb y70.2 u72 u74 l81a l81b (h.rdC 1 14 rfl rfl) (⟨3, b, b, (b + 1), [x9.n]⟩ : Ins) u80 (h.rdC 1 15 rfl rfl) _ e83) ?_
      rintro _ w ⟨k87, u84, u86, rfl, h88, h89, g85⟩
      refine ⟨_, rfl, ?_⟩
      replace h := h.back 1 (C := (.two (.blk sb [u72, u74, (.int .i64 (y70.2.regs))]) (.own rIns 90 u74 y70.2.code) : Chunk)) (C' := (.two (.blk sb [u84, u86, (.int .i64 (y82.2.regs))]) (.own rIns 90 u86 y82.2.code) : Chunk)) rfl ⟨trivial, trivial⟩ h88 k87 h89
      replace h := h.knowRd 16 (backRd g85)
      replace h := h.unpair 1 2 (by decide) rfl rfl
      refine wl_nil (inBlock_normal (then_normal (wc_seq (wc_region (wl_ok (r_move (v := (.int .i64 (((1 + y54.1) + y70.1)))) rfl) (wl_ok (r_assign (v := (.int .i64 (((1 + y54.1) + y70.1)))) rfl) (wl_nil (then_normal (wc_ret (fin1 (v := (.int .i64 (((1 + y54.1) + y70.1)))) Tryz.results78 rfl ?_))))))))))
      replace h := h.pair 1 2 (by decide)
      obtain rfl := Option.some.inj hs
      subst hK0
      obtain ⟨o1, o2, o3⟩ := h.outS 1 (C := (.two (.blk sb [u84, u86, (.int .i64 (y82.2.regs))]) (.own rIns 90 u86 y82.2.code) : Chunk)) rfl ⟨trivial, trivial⟩
      exact ⟨o2, u84, u86, rfl, o1, o3, h.outRdC 1 16 rfl rfl⟩
     ·
      refine wc_seq (wc_region (wl_ok (r_eql rfl rfl) (wl_ok (r_assign (v := (.bool (decide ((x9.kind : Int) = 4)))) rfl) (wl_nil (then_normal (wc_ifb hs rfl (fun c90 hs => ?_) (fun c90 hs => ?_)))))))
      ·
       refine wc_seq (wc_region (wl_ok (r_move (v := (.int .i64 (1))) rfl) (wl_ok (r_move (v := (.pointer (some ⟨sb, 0, none⟩))) rfl) (wl_ok (r_move (v := va) rfl) (wl_ok (r_move (v := (.int .i64 (1))) rfl) ?_)))))
       obtain ⟨x91, e92, hs⟩ := o_bind hs
       obtain ⟨e95, e95a, e95b, e95c⟩ := o_sub e92
       obtain ⟨u93, h, i94⟩ := h.slR 4 17 rfl SliceOf63 rfl e95a e95b e95c
       rw [← e95] at h
       refine wl_ok (i94 _ _ _ _ _ _ _ _ _ _ rfl (.inr (congrArg some rfl)) (.inl ⟨rfl, rfl⟩)) (wl_ok (r_move (v := (.int .i64 (b))) rfl) ?_)
       replace h := h.pair 1 2 (by decide)
       obtain ⟨l96a, l96b, l96c⟩ := h.lendS 1 (C := (.two (.blk sb [u3, u5, (.int .i64 ((code_maker_need sx (b + 1)).regs))]) (.own rIns 90 u5 ((code_maker_need sx (b + 1)).code)) : Chunk)) rfl ⟨trivial, trivial⟩
       obtain ⟨y97, e98, hs⟩ := o_bind hs
       refine w_call fnOk78 rfl rfl (ih _ _ l96c sb (code_maker_need sx (b + 1)) u3 u5 l96a l96b (h.rdC 1 5 rfl rfl) u93 x91 (h.rdC 1 17 rfl rfl) b _ e98) ?_
       rintro _ w ⟨k102, u99, u101, rfl, h103, h104, g100⟩
       refine ⟨_, rfl, ?_⟩
       replace h := h.back 1 (C := (.two (.blk sb [u3, u5, (.int .i64 ((code_maker_need sx (b + 1)).regs))]) (.own rIns 90 u5 ((code_maker_need sx (b + 1)).code)) : Chunk)) (C' := (.two (.blk sb [u99, u101, (.int .i64 (y97.2.regs))]) (.own rIns 90 u101 y97.2.code) : Chunk)) rfl ⟨trivial, trivial⟩ h103 k102 h104
       replace h := h.knowRd 18 (backRd g100)
       replace h := h.unpair 1 2 (by decide) rfl rfl
       obtain ⟨a105, hs⟩ := o_grd hs
       refine wl_ok (r_add rfl rfl a105) (wl_ok (r_assign (v := (.int .i64 ((1 + y97.1)))) rfl) (wl_nil (then_normal (wc_region (wl_ok (r_move (v := (.pointer (some ⟨sb, 0, none⟩))) rfl) (wl_ok (r_move (v := (.int .i64 (b))) rfl) (wl_ok (r_move (v := (.int .i64 (b))) rfl) (wl_ok (r_fieldAddr Fld71x1 rfl) (wl_ok (r_ldB h 7 rfl One3 rfl rfl) (wl_ok (r_build (pv := [(0, (.int .i64 (4))), (1, (.int .i64 (b))), (2, (.int .i64 (b))), (3, (.int .i64 (x9.n)))]) (out := [(.int .i64 (4)), (.int .i64 (b)), (.int .i64 (b)), (.int .i64 (x9.n)), (.slice none 0 0)]) Struct90 rfl ⟨0, 1, [(.int .i64 (4))], rfl, rfl, rfl, Nat.le_of_ble_eq_true rfl, ⟨1, 1, [(.int .i64 (b))], rfl, rfl, rfl, Nat.le_of_ble_eq_true rfl, ⟨2, 1, [(.int .i64 (b))], rfl, rfl, rfl, Nat.le_of_ble_eq_true rfl, ⟨3, 1, [(.int .i64 (x9.n))], rfl, rfl, rfl, Nat.le_of_ble_eq_true rfl, rfl⟩⟩⟩⟩) ?_))))))))))
       replace h := h.pair 1 2 (by decide)
       obtain ⟨l106a, l106b, l106c⟩ := h.lendS 1 (C := (.two (.blk sb [u99, u101, (.int .i64 (y97.2.regs))]) (.own rIns 90 u101 y97.2.code) : Chunk)) rfl ⟨trivial, trivial⟩
       obtain ⟨y107, e108, hs⟩ := o_bind hs
       refine w_call fnOk46 rfl rfl (code_maker_put_c _ _ l106c sb y97.2 u99 u101 l106a l106b (h.rdC 1 18 rfl rfl) (⟨4, b, b, x9.n, []⟩ : Ins) (.slice none 0 0) Rd2.nil _ e108) ?_
       rintro _ w ⟨k112, u109, u111, rfl, h113, h114, g110⟩
       refine ⟨_, rfl, ?_⟩
       replace h := h.back 1 (C := (.two (.blk sb [u99, u101, (.int .i64 (y97.2.regs))]) (.own rIns 90 u101 y97.2.code) : Chunk)) (C' := (.two (.blk sb [u109, u111, (.int .i64 (y107.2.regs))]) (.own rIns 90 u111 y107.2.code) : Chunk)) rfl ⟨trivial, trivial⟩ h113 k112 h114
       replace h := h.knowRd 19 (backRd g110)
       replace h := h.unpair 1 2 (by decide) rfl rfl
       refine wl_nil (inBlock_normal (then_normal (wc_seq (wc_region (wl_ok (r_move (v := (.int .i64 ((1 + y97.1)))) rfl) (wl_ok (r_assign (v := (.int .i64 ((1 + y97.1)))) rfl) (wl_nil (then_normal (wc_ret (fin1 (v := (.int .i64 ((1 + y97.1)))) Tryz.results78 rfl ?_))))))))))
       replace h := h.pair 1 2 (by decide)
       obtain rfl := Option.some.inj hs
       subst hK0
       obtain ⟨o1, o2, o3⟩ := h.outS 1 (C := (.two (.blk sb [u109, u111, (.int .i64 (y107.2.regs))]) (.own rIns 90 u111 y107.2.code) : Chunk)) rfl ⟨trivial, trivial⟩
       exact ⟨o2, u109, u111, rfl, o1, o3, h.outRdC 1 19 rfl rfl⟩
      ·
       refine wc_seq (wc_region (wl_ok (r_eql rfl rfl) (wl_ok (r_assign (v := (.bool (decide ((x9.kind : Int) = 6)))) rfl) (wl_nil (then_normal (wc_ifb hs rfl (fun c115 hs => ?_) (fun c115 hs => ?_)))))))
       ·
        refine wc_seq (wc_region (wl_ok (r_assign (v := (.slice none 0 0)) rfl) (wl_nil (then_normal (wc_seq (wc_seq (wc_still mixed (by kernel_rfl) h fun w h => wk_ok (r_move (v := (.pointer (some ⟨sb, 0, none⟩))) rfl) (wk_ok (r_nilCheck rfl) (wk_ok (r_fieldAddr Fld85x0 rfl) (wk_ok (r_ldB h 1 rfl One22 rfl rfl) (wk_ok (r_fieldAddr Fld71x1 rfl) (wk_ok (r_ldB h 7 rfl One3 rfl rfl) ?_))))))))))))
        obtain ⟨x116, e117, hs⟩ := o_bind hs
        obtain ⟨b119, o120, cs121, h, r122, i118⟩ := h.ixR 5 20 rfl SliceOf22 rfl (o_idx e117).1 (o_idx e117).2
        obtain ⟨u123, rfl, g124⟩ := rFun_open r122
        replace h := h.knowRd 21 g124.up
        refine wk_ok (i118 _ _ _ _ _ _ _ _ _ rfl rfl) (wk_ok (r_fieldAddr Fld43x0 rfl) (wk_ok (r_ldP (k := 0) h 20 rfl One3 rfl rfl) (wk_ok (r_move (v := (.int .i64 (0))) rfl) (wk_end (then_normal (wc_block ?_))))))
        replace h := h.nilO (R := rInt) (E := 3) 28
        replace h := h.copyR 5 29 rfl
        refine wc_lp (σ := Nat × Int × Value × List Int × Int × Value × List Fun × Value × List Ins × Int) (inl [8, 9, 10, 101, 102, 103, 104, 105, 106, 107, 108, 109, 110, 111, 112, 113, 114, 115, 116, 117, 118, 119, 120]) (fun ⟨m164, x152, v153, x154, x155, v156, y157, v158, y159, y160⟩ => [(8, (.int .i64 (x152))), (9, v153), (101, (.int .i64 (x155)))]) (fun ⟨m164, x152, v153, x154, x155, v156, y157, v158, y159, y160⟩ w => SH w0 M K0 w (hset [(1, .blk sb [v156, v158, (.int .i64 (y160))]), (2, .own rIns 90 v158 y159), (4, .rd rTok va a), (7, .blk b16 [(.int .i64 (x9.kind)), (.int .i64 (x9.n))]), (28, .own rInt 3 v153 x154), (29, .rd rFun v156 y157)]) ∧ again (code_maker_expr_b4 F0 x116 a b x9) m164 (x152, x154, x155, y157, y159, y160) = some r) (fun ⟨m164, x152, v153, x154, x155, v156, y157, v158, y159, y160⟩ => m164) ⟨N, 1, (.slice none 0 0), [], 0, u3, (code_maker_need sx (b + 1)).f, u5, (code_maker_need sx (b + 1)).code, (code_maker_need sx (b + 1)).regs⟩ ⟨rfl, rfl, rfl, trivial⟩ ?_ ?_
        ·
         exact ⟨h.cn _, hs⟩
        ·
         rintro ⟨m164, x152, v153, x154, x155, v156, y157, v158, y159, y160⟩ w junk ⟨h, hs⟩
         obtain ⟨m1641, m164e, m164h⟩ := again_pos hs
         subst m164e
         replace hs := m164h
         generalize hnx165 : again (code_maker_expr_b4 F0 x116 a b x9) m1641 = nx165 at hs
         refine wc_seq (wc_region (wl_ok (r_lss rfl rfl) (wl_nil (then_normal (wc_seq (wc_ifb hs rfl (fun c168 hs => ?_) (fun c168 hs => ?_)))))))
         ·
          refine wc_skip (then_normal (wc_seq (wc_block (wc_seq (wc_region (wl_ok (r_move (v := (.int .i64 (x155))) rfl) (wl_ok (r_assign (v := (.int .i64 (x155))) rfl) (wl_nil (then_normal (wc_seq (wc_region (wl_ok (r_move (v := (.int .i64 (x152))) rfl) (wl_ok (r_move (v := (.pointer (some ⟨sb, 0, none⟩))) rfl) (wl_ok (r_move (v := va) rfl) (wl_ok (r_move (v := (.int .i64 (x152))) rfl) ?_)))))))))))))))
          obtain ⟨x169, e170, hs⟩ := o_bind hs
          obtain ⟨e173, e173a, e173b, e173c⟩ := o_sub e170
          obtain ⟨u171, h, i172⟩ := h.slR 4 30 rfl SliceOf63 rfl e173a e173b e173c
          rw [← e173] at h
          refine wl_ok (i172 _ _ _ _ _ _ _ _ _ _ rfl (.inr (congrArg some rfl)) (.inl ⟨rfl, rfl⟩)) (wl_ok (r_move (v := (.int .i64 (b))) rfl) (wl_ok (r_move (v := (.int .i64 (x155))) rfl) ?_))
          obtain ⟨a174, hs⟩ := o_grd hs
          refine wl_ok (r_add rfl rfl a174) ?_
          replace h := h.pair 1 2 (by decide)
          obtain ⟨l175a, l175b, l175c⟩ := h.lendS 1 (C := (.two (.blk sb [v156, v158, (.int .i64 (y160))]) (.own rIns 90 v158 y159) : Chunk)) rfl ⟨trivial, trivial⟩
          obtain ⟨y176, e177, hs⟩ := o_bind hs
          refine w_call fnOk78 rfl rfl (ih _ _ l175c sb (⟨y157, y159, y160⟩ : Maker) v156 v158 l175a l175b (h.rdC 1 29 rfl rfl) u171 x169 (h.rdC 1 30 rfl rfl) (b + x155) _ e177) ?_
          rintro _ w ⟨k181, u178, u180, rfl, h182, h183, g179⟩
          refine ⟨_, rfl, ?_⟩
          replace h := h.back 1 (C := (.two (.blk sb [v156, v158, (.int .i64 (y160))]) (.own rIns 90 v158 y159) : Chunk)) (C' := (.two (.blk sb [u178, u180, (.int .i64 (y176.2.regs))]) (.own rIns 90 u180 y176.2.code) : Chunk)) rfl ⟨trivial, trivial⟩ h182 k181 h183
          replace h := h.knowRd 31 (backRd g179)
          replace h := h.unpair 1 2 (by decide) rfl rfl
          obtain ⟨a184, hs⟩ := o_grd hs
          refine wl_ok (r_add rfl rfl a184) (wl_ok (r_assign (v := (.int .i64 ((x152 + y176.1)))) rfl) (wl_nil (then_normal (wc_region (wl_ok (r_move (v := v153) rfl) (wl_ok (r_move (v := (.int .i64 (b))) rfl) (wl_ok (r_move (v := (.int .i64 (x155))) rfl) ?_)))))))
          obtain ⟨a185, hs⟩ := o_grd hs
          refine wl_ok (r_add rfl rfl a185) (w_bs (R := rInt) (vs := [(.int .i64 ((b + x155)))]) (xs := [(b + x155)]) h 32 ElemOf51 rfl rfl rfl ⟨rfl, trivial⟩ rfl fun w u186 h => ?_)
          obtain ⟨a187, hs⟩ := o_grd hs
          refine w_app (R := rInt) (m := [(b + x155)]) h 28 rfl (h.ownS 32 rfl) ElemOf51 rfl rfl rfl a187.1 a187.2 fun w u188 h => wl_ok (r_assign (v := u188) rfl) (wl_nil (inBlock_normal (then_normal (wc_region ?_))))
          obtain ⟨a189, hs⟩ := o_grd hs
          refine wl_ok (r_add rfl rfl a189) (wl_ok (r_move (v := (.int .i64 ((x155 + 1)))) rfl) (wl_nil (then_loop ?_)))
          replace h := h.copyR 31 29 rfl
          subst hnx165
          exact lend ⟨m1641, (x152 + y176.1), u188, (x154 ++ [(b + x155)]), (x155 + 1), u178, y176.2.f, u180, y176.2.code, y176.2.regs⟩ ⟨h.cn _, hs⟩
         ·
          refine wc_exit (then_exit (then_exit (inBlock_eq (then_normal (wc_region (wl_ok (r_move (v := (.pointer (some ⟨sb, 0, none⟩))) rfl) (wl_ok (r_move (v := (.int .i64 (b))) rfl) (wl_ok (r_fieldAddr Fld71x1 rfl) (wl_ok (r_ldB h 7 rfl One3 rfl rfl) (wl_ok (r_move (v := v153) rfl) (wl_ok (r_build (pv := [(0, (.int .i64 (7))), (1, (.int .i64 (b))), (2, (.int .i64 (x9.n))), (4, v153)]) (out := [(.int .i64 (7)), (.int .i64 (b)), (.int .i64 (x9.n)), (.int .i64 (0)), v153]) Struct90 rfl ⟨0, 1, [(.int .i64 (7))], rfl, rfl, rfl, Nat.le_of_ble_eq_true rfl, ⟨1, 1, [(.int .i64 (b))], rfl, rfl, rfl, Nat.le_of_ble_eq_true rfl, ⟨2, 1, [(.int .i64 (x9.n))], rfl, rfl, rfl, Nat.le_of_ble_eq_true rfl, ⟨4, 1, [v153], rfl, (toList_of_one (h.ownAt 28 rfl).one), rfl, Nat.le_of_ble_eq_true rfl, rfl⟩⟩⟩⟩) ?_)))))))))))
          replace h := h.freeze 28 rfl
          replace h := h.pair 1 2 (by decide)
          obtain ⟨l190a, l190b, l190c⟩ := h.lendS 1 (C := (.two (.blk sb [v156, v158, (.int .i64 (y160))]) (.own rIns 90 v158 y159) : Chunk)) rfl ⟨trivial, trivial⟩
          obtain ⟨y191, e192, hs⟩ := o_bind hs
          refine w_call fnOk46 rfl rfl (code_maker_put_c _ _ l190c sb (⟨y157, y159, y160⟩ : Maker) v156 v158 l190a l190b (h.rdC 1 29 rfl rfl) (⟨7, b, x9.n, 0, x154⟩ : Ins) v153 (h.rdC 1 28 rfl rfl) _ e192) ?_
          rintro _ w ⟨k196, u193, u195, rfl, h197, h198, g194⟩
          refine ⟨_, rfl, ?_⟩
          replace h := h.back 1 (C := (.two (.blk sb [v156, v158, (.int .i64 (y160))]) (.own rIns 90 v158 y159) : Chunk)) (C' := (.two (.blk sb [u193, u195, (.int .i64 (y191.2.regs))]) (.own rIns 90 u195 y191.2.code) : Chunk)) rfl ⟨trivial, trivial⟩ h197 k196 h198
          replace h := h.knowRd 33 (backRd g194)
          replace h := h.unpair 1 2 (by decide) rfl rfl
          refine wl_nil (inBlock_normal (then_normal (wc_seq (wc_region (wl_ok (r_move (v := (.int .i64 (x152))) rfl) (wl_ok (r_assign (v := (.int .i64 (x152))) rfl) (wl_nil (then_normal (wc_ret (fin1 (v := (.int .i64 (x152))) Tryz.results78 rfl ?_))))))))))
          replace h := h.pair 1 2 (by decide)
          obtain rfl := Option.some.inj hs
          subst hK0
          obtain ⟨o1, o2, o3⟩ := h.outS 1 (C := (.two (.blk sb [u193, u195, (.int .i64 (y191.2.regs))]) (.own rIns 90 u195 y191.2.code) : Chunk)) rfl ⟨trivial, trivial⟩
          exact ⟨o2, u193, u195, rfl, o1, o3, h.outRdC 1 33 rfl rfl⟩
       ·
        refine wc_skip (inBlock_normal (then_normal (wc_seq (wc_region (wl_ok (r_move (v := (.int .i64 (1))) rfl) (wl_ok (r_assign (v := (.int .i64 (1))) rfl) (wl_nil (then_normal (wc_ret (fin1 (v := (.int .i64 (1))) Tryz.results78 rfl ?_))))))))))
        replace h := h.pair 1 2 (by decide)
        obtain rfl := Option.some.inj hs
        subst hK0
        obtain ⟨o1, o2, o3⟩ := h.outS 1 (C := (.two (.blk sb [u3, u5, (.int .i64 ((code_maker_need sx (b + 1)).regs))]) (.own rIns 90 u5 ((code_maker_need sx (b + 1)).code)) : Chunk)) rfl ⟨trivial, trivial⟩
        exact ⟨o2, u3, u5, rfl, o1, o3, h.outRdC 1 5 rfl rfl⟩
def code_maker_stmts_j8 (nx25 : (List Fun × List Ins × Int) → Option Maker) (y29 : List Fun) (y31 : List Ins) (y32 : Int) : Option Maker :=
  nx25 (y29, y31, y32)
def code_maker_stmts_j9 (N : Nat) (F0 : Maker → List GStmt → Int → Option Maker) (x23 : GStmt) (b : Int) (nx25 : (List Fun × List Ins × Int) → Option Maker) (a : List GStmt) (y48 : List Fun) (y50 : List Ins) (y51 : Int) : Option Maker :=
  bif decide ((x23.kind : Int) = 1) then (code_maker_put (⟨y48, y50, y51⟩ : Maker) (⟨2, x23.n, b, 0, []⟩ : Ins)).bind fun y54 => code_maker_stmts_j8 nx25 y54.2.f y54.2.code y54.2.regs else bif decide ((x23.kind : Int) = 2) then grd (I64 (b + 1)) ((code_maker_expr N (⟨y48, y50, y51⟩ : Maker) x23.f (b + 1)).bind fun y65 => grd (I64 (b + 1)) ((code_maker_put y65.2 (⟨6, b, (b + 1), x23.n, []⟩ : Ins)).bind fun y75 => code_maker_stmts_j8 nx25 y75.2.f y75.2.code y75.2.regs)) else bif decide ((x23.kind : Int) = 3) then (code_maker_put (⟨y48, y50, y51⟩ : Maker) (⟨9, b, 0, 0, []⟩ : Ins)).bind fun y85 => code_maker_stmts_j8 nx25 y85.2.f y85.2.code y85.2.regs else bif decide ((x23.kind : Int) = 4) then (code_maker_put (⟨y48, y50, y51⟩ : Maker) (⟨10, 0, 0, 0, []⟩ : Ins)).bind fun y95 => code_maker_stmts_j8 nx25 y95.2.f y95.2.code y95.2.regs else bif decide ((x23.kind : Int) = 5) then (code_maker_put (⟨y48, y50, y51⟩ : Maker) (⟨11, b, 0, 0, []⟩ : Ins)).bind fun y105 => code_maker_stmts_j8 nx25 y105.2.f y105.2.code y105.2.regs else bif decide ((x23.kind : Int) = 8) then (code_maker_put (⟨y48, y50, y51⟩ : Maker) (⟨8, b, 0, 0, []⟩ : Ins)).bind fun y115 => code_maker_stmts_j8 nx25 y115.2.f y115.2.code y115.2.regs else bif decide ((x23.kind : Int) = 6) then (code_maker_put (⟨y48, y50, y51⟩ : Maker) (⟨13, b, 0, 0, []⟩ : Ins)).bind fun y125 => (F0 y125.2 x23.a b).bind fun y134 => (code_maker_put y134 (⟨12, 0, 0, 0, []⟩ : Ins)).bind fun y143 => (idx y143.2.code y125.1).bind fun x151 => (F0 (⟨y143.2.f, (y143.2.code.set (y125.1).toNat { x151 with b := (y143.2.code.length : Int) }), y143.2.regs⟩ : Maker) x23.b b).bind fun y157 => (idx y157.code y143.1).bind fun x165 => code_maker_stmts_j8 nx25 y157.f (y157.code.set (y143.1).toNat { x165 with b := (y157.code.length : Int) }) y157.regs else code_maker_stmts_j8 nx25 y48 y50 y51
def code_maker_stmts_b10 (N : Nat) (F0 : Maker → List GStmt → Int → Option Maker) (b : Int) (a : List GStmt) (x23 : GStmt) (s : List Fun × List Ins × Int) (nx25 : List Fun × List Ins × Int → Option Maker) : Option Maker :=
  match s with | (y17, y19, y20) => bif decide ((0 : Int) < (x23.e.length : Int)) then (code_maker_expr N (⟨y17, y19, y20⟩ : Maker) x23.e b).bind fun y172 => bif decide ((x23.kind : Int) = 7) then (code_maker_put y172.2 (⟨13, b, 0, 0, []⟩ : Ins)).bind fun y183 => (F0 y183.2 x23.a b).bind fun y192 => (code_maker_put y192 (⟨12, 0, (y19.length : Int), 0, []⟩ : Ins)).bind fun y201 => (idx y201.2.code y183.1).bind fun x209 => code_maker_stmts_j8 nx25 y201.2.f (y201.2.code.set (y183.1).toNat { x209 with b := (y201.2.code.length : Int) }) y201.2.regs else code_maker_stmts_j9 N F0 x23 b nx25 a y172.2.f y172.2.code y172.2.regs else code_maker_stmts_j9 N F0 x23 b nx25 a y17 y19 y20
def code_maker_stmts_k11 (s : List Fun × List Ins × Int) : Option Maker :=
  match s with | (y17, y19, y20) => some (⟨y17, y19, y20⟩ : Maker)
def code_maker_stmts_r (N : Nat) (F0 : Maker → List GStmt → Int → Option Maker) (sx : Maker) (a : List GStmt) (b : Int) : Option Maker :=
  each (code_maker_stmts_b10 N F0 b a) code_maker_stmts_k11 a (sx.f, sx.code, sx.regs)
def code_maker_stmts : Nat → Maker → List GStmt → Int → Option Maker
  | 0 => fun _ _ _ => none
  | N + 1 => code_maker_stmts_r N (code_maker_stmts N)
theorem code_maker_stmts_c : ∀ (N : Nat) (w0 : World) (M : BS) (hM : ∀ b, M b → b < w0.heap.size) (sb : Nat) (sx : Maker) (vs0 vs1 : Value) (hC : Chunk.holds w0 M (Chunk.own' (.two (.blk sb [vs0, vs1, (.int .i64 (sx.regs))]) (.own rIns 90 vs1 sx.code) : Chunk)) (.two (.blk sb [vs0, vs1, (.int .i64 (sx.regs))]) (.own rIns 90 vs1 sx.code) : Chunk)) (hap : ∀ b, Chunk.own' (.two (.blk sb [vs0, vs1, (.int .i64 (sx.regs))]) (.own rIns 90 vs1 sx.code) : Chunk) b → ¬ M b) (hvs0 : RdSl rFun w0 (fun b => M b ∨ Chunk.own' (.two (.blk sb [vs0, vs1, (.int .i64 (sx.regs))]) (.own rIns 90 vs1 sx.code) : Chunk) b) vs0 sx.f) (va : Value) (a : List GStmt) (ha : RdSl rStmt w0 (fun b => M b ∨ (.two (.blk sb [vs0, vs1, (.int .i64 (sx.regs))]) (.own rIns 90 vs1 sx.code) : Chunk).own' b) va a) (b : Int) (r : Maker) (hs : code_maker_stmts N sx a b = some r),
    Calls Tryz.prog 45 #[(.pointer (some ⟨sb, 0, none⟩)), va, (.int .i64 (b))] w0 (fun e w' => Keep (Chunk.own' (.two (.blk sb [vs0, vs1, (.int .i64 (sx.regs))]) (.own rIns 90 vs1 sx.code) : Chunk)) w0 w' ∧ ∃ us0, ∃ us1, e = .returned (.tuple #[]) ∧ Chunk.holds w' M (Chunk.own' (.two (.blk sb [us0, us1, .int .i64 r.regs]) (.own rIns 90 us1 r.code) : Chunk)) (.two (.blk sb [us0, us1, .int .i64 r.regs]) (.own rIns 90 us1 r.code) : Chunk) ∧ (∀ b, Chunk.own' (.two (.blk sb [us0, us1, .int .i64 r.regs]) (.own rIns 90 us1 r.code) : Chunk) b → b < w0.heap.size → Chunk.own' (.two (.blk sb [vs0, vs1, (.int .i64 (sx.regs))]) (.own rIns 90 vs1 sx.code) : Chunk) b) ∧ RdSl rFun w' (fun b => M b ∨ Chunk.own' (.two (.blk sb [us0, us1, .int .i64 r.regs]) (.own rIns 90 us1 r.code) : Chunk) b) us0 r.f) := by
  intro N
  induction N with
  | zero => intro w0 M hM sb sx vs0 vs1 hC hap hvs0 va a ha b r hs; cases hs
  | succ N ih =>
  intro w0 M hM sb sx vs0 vs1 hC hap hvs0 va a ha b r hs
  replace hs : code_maker_stmts_r N (code_maker_stmts N) sx a b = some r := hs
  generalize code_maker_stmts N = F0 at hs ih
  refine calls_start (args := [(.pointer (some ⟨sb, 0, none⟩)), va, (.int .i64 (b))]) Tryz.func45 rfl Tryz.ntmps45 (Nat.le_of_ble_eq_true rfl) ?_
  have h := SH.init1 hM hC hap
  replace h := h.argRdC 3 hvs0 own1
  replace h := h.argRdC 4 ha (own1_rd own1)
  generalize hK0 : (.two (.blk sb [vs0, vs1, (.int .i64 (sx.regs))]) (.own rIns 90 vs1 sx.code) : Chunk).own' = K0 at h
  replace h := h.unpair 1 2 (by decide) rfl rfl
  have hl_a := ha.len_le
  refine wc_seq (wc_region (wl_ok (r_move (v := va) rfl) (wl_ok (r_len SliceOf41 rfl (h.rdS 4 rfl)) (wl_ok (r_move (v := (.int .i64 (0))) rfl) (wl_nil (then_normal (wc_block ?_)))))))
  replace h := h.copyR 3 8 rfl
  refine wc_lp (σ := Nat × Int × Value × List Fun × Value × List Ins × Int) (inl [7, 8, 9, 10, 13, 14, 15, 16, 17, 18, 19, 20, 21, 22, 23, 24, 25, 26, 27, 28, 29, 30, 31, 32, 33, 34, 35, 36, 37, 38, 39, 40, 41, 42, 43, 44, 45, 46, 47, 48, 49, 50, 51, 52, 53, 54, 55, 56, 57, 58, 59, 60, 61, 62, 63, 64, 65, 66, 67, 68, 69, 70, 71, 72, 73, 74, 75, 76, 77, 78, 79, 80, 81, 82, 83, 84, 85, 86, 87, 88, 89, 90, 91, 92, 93, 94, 95, 96, 97, 98, 99, 100, 101, 102, 103, 104, 105, 106, 107, 108, 109, 110, 111, 112, 113, 114, 115, 116, 117, 118, 119, 120, 121, 122, 123, 124, 125, 126, 127, 128, 129, 130, 131]) (fun ⟨k21, i22, v16, y17, v18, y19, y20⟩ => [(13, (.int .i64 (i22)))]) (fun ⟨k21, i22, v16, y17, v18, y19, y20⟩ w => SH w0 M K0 w (hset [(1, .blk sb [v16, v18, (.int .i64 (y20))]), (2, .own rIns 90 v18 y19), (4, .rd rStmt va a), (8, .rd rFun v16 y17)]) ∧ i22 = (k21 : Int) ∧ each (code_maker_stmts_b10 N F0 b a) code_maker_stmts_k11 (a.drop k21) (y17, y19, y20) = some r) (fun ⟨k21, i22, v16, y17, v18, y19, y20⟩ => a.length - k21) ⟨0, 0, vs0, sx.f, vs1, sx.code, sx.regs⟩ ⟨rfl, trivial⟩ ?_ ?_
  ·
   exact ⟨h.cn _, rfl, hs⟩
  ·
   rintro ⟨k21, i22, v16, y17, v18, y19, y20⟩ w junk ⟨h, hik, hs⟩
   refine wc_seq (wc_region ?_)
   refine wl_ok (r_lss rfl rfl) (wl_nil (then_normal ?_))
   refine wc_seq (wc_if rfl (fun e26 => ?_) (fun e26 => ?_))
   ·
    refine wc_skip (then_normal ?_)
    obtain ⟨x23, e27a, e27b⟩ := drop_lt (hik ▸ e26)
    rw [e27b, each_cons] at hs
    generalize hnx25 : each (code_maker_stmts_b10 N F0 b a) code_maker_stmts_k11 (a.drop (k21 + 1)) = nx25 at hs
    have e27r := nat_rng ((h.rdS 4 rfl)).len_le hik e26
    refine wc_join (σ := Value × List Fun × Value × List Ins × Int) (inl [7, 8, 9, 10, 15, 16, 17, 18, 19, 20, 21, 22, 23, 24, 25, 26, 27, 28, 29, 30, 31, 32, 33, 34, 35, 36, 37, 38, 39, 40, 41, 42, 43, 44, 45, 46, 47, 48, 49, 50, 51, 52, 53, 54, 55, 56, 57, 58, 59, 60, 61, 62, 63, 64, 65, 66, 67, 68, 69, 70, 71, 72, 73, 74, 75, 76, 77, 78, 79, 80, 81, 82, 83, 84, 85, 86, 87, 88, 89, 90, 91, 92, 93, 94, 95, 96, 97, 98, 99, 100, 101, 102, 103, 104, 105, 106, 107, 108, 109, 110, 111, 112, 113, 114, 115, 116, 117, 118, 119, 120, 121, 122, 123, 124, 125, 126, 127, 128, 129, 130]) (fun ⟨v28, y29, v30, y31, y32⟩ => []) (fun ⟨v28, y29, v30, y31, y32⟩ w => SH w0 M K0 w (hset [(1, .blk sb [v28, v30, (.int .i64 (y32))]), (2, .own rIns 90 v30 y31), (4, .rd rStmt va a), (9, .rd rFun v28 y29)]) ∧ code_maker_stmts_j8 nx25 y29 y31 y32 = some r) ?_ ?_
    ·
     rintro ⟨v28, y29, v30, y31, y32⟩ w junk ⟨h, hs⟩
     refine wc_region (wl_ok (r_add rfl rfl e27r) (wl_ok (r_move (v := (.int .i64 ((i22 + 1)))) rfl) (wl_nil (then_loop ?_))))
     replace h := h.copyR 9 8 rfl
     subst hnx25
     exact lend ⟨k21 + 1, i22 + 1, v28, y29, v30, y31, y32⟩ ⟨h.cn _, by omega, hs⟩ (by have := of_decide_eq_true e26; dsimp only; omega)
    ·
     refine wc_block (wc_seq (wc_region ?_))
     obtain ⟨b34, o35, cs36, h, r37, i33⟩ := h.ixR 4 10 rfl SliceOf41 rfl (nat_nn hik) (get_nat hik e27a)
     obtain ⟨u38, u40, u42, u44, rfl, g39, g41, g43, g45⟩ := rStmt_open r37
     replace h := h.knowRd 11 g39.up
     replace h := h.knowRd 12 g41.up.up
     replace h := h.knowRd 13 g43.up.up.up
     replace h := h.knowRd 14 g45.up.up.up.up
     refine wl_ok (i33 _ _ _ _ _ _ _ _ _ rfl rfl) (wl_ok (r_ldPN (k := 0) (vs := [(.int .i64 (x23.kind)), (.int .i64 (x23.n)), u38, u40, u42, u44]) h 10 rfl Many65 rfl rfl rfl (Nat.le_of_ble_eq_true rfl)) (w_allocN h 15 Many65 fun w b46 h => w_stN (vs := [(.int .i64 (x23.kind)), (.int .i64 (x23.n)), u38, u40, u42, u44]) h 15 [(.int .i64 (x23.kind)), (.int .i64 (x23.n)), u38, u40, u42, u44] rfl Many65 rfl rfl rfl rfl rfl (ones_cons rfl (ones_cons rfl (ones_cons (h.rdAt 11 rfl).one (ones_cons (h.rdAt 12 rfl).one (ones_cons (h.rdAt 13 rfl).one (ones_cons (h.rdAt 14 rfl).one ones_nil)))))) fun w h => wl_nil (then_normal (wc_join (σ := Value × List Fun × Value × List Ins × Int) (inl [8, 17, 18, 19, 20, 21, 22, 23, 24, 25, 26, 27, 28, 29, 30, 31, 32, 33, 34, 35, 36, 37, 38]) (fun ⟨v47, y48, v49, y50, y51⟩ => []) (fun ⟨v47, y48, v49, y50, y51⟩ w => SH w0 M K0 w (hset [(1, .blk sb [v47, v49, (.int .i64 (y51))]), (2, .own rIns 90 v49 y50), (4, .rd rStmt va a), (11, .rd rTok u38 x23.e), (12, .rd rTok u40 x23.f), (13, .rd rStmt u42 x23.a), (14, .rd rStmt u44 x23.b), (15, .blk b46 [(.int .i64 (x23.kind)), (.int .i64 (x23.n)), u38, u40, u42, u44]), (16, .rd rFun v47 y48)]) ∧ code_maker_stmts_j9 N F0 x23 b nx25 a y48 y50 y51 = some r) ?_ ?_))))
     ·
      rintro ⟨v47, y48, v49, y50, y51⟩ w junk ⟨h, hs⟩
      refine wc_seq (wc_region (wl_ok (r_fieldAddr Fld65x0 rfl) (wl_ok (r_ldB h 15 rfl One3 rfl rfl) (wl_nil (then_normal (wc_block (wc_seq (wc_region (wl_ok (r_eql rfl rfl) (wl_ok (r_assign (v := (.bool (decide ((x23.kind : Int) = 1)))) rfl) (wl_nil (then_normal (wc_ifb hs rfl (fun c52 hs => ?_) (fun c52 hs => ?_))))))))))))))
      ·
       refine wc_region (wl_ok (r_move (v := (.pointer (some ⟨sb, 0, none⟩))) rfl) (wl_ok (r_fieldAddr Fld65x1 rfl) (wl_ok (r_ldB h 15 rfl One3 rfl rfl) (wl_ok (r_move (v := (.int .i64 (b))) rfl) (wl_ok (r_build (pv := [(0, (.int .i64 (2))), (1, (.int .i64 (x23.n))), (2, (.int .i64 (b)))]) (out := [(.int .i64 (2)), (.int .i64 (x23.n)), (.int .i64 (b)), (.int .i64 (0)), (.slice none 0 0)]) Struct90 rfl ⟨0, 1, [(.int .i64 (2))], rfl, rfl, rfl, Nat.le_of_ble_eq_true rfl, ⟨1, 1, [(.int .i64 (x23.n))], rfl, rfl, rfl, Nat.le_of_ble_eq_true rfl, ⟨2, 1, [(.int .i64 (b))], rfl, rfl, rfl, Nat.le_of_ble_eq_true rfl, rfl⟩⟩⟩) ?_)))))
       replace h := h.pair 1 2 (by decide)
       obtain ⟨l53a, l53b, l53c⟩ := h.lendS 1 (C := (.two (.blk sb [v47, v49, (.int .i64 (y51))]) (.own rIns 90 v49 y50) : Chunk)) rfl ⟨trivial, trivial⟩
       obtain ⟨y54, e55, hs⟩ := o_bind hs
       refine w_call fnOk46 rfl rfl (code_maker_put_c _ _ l53c sb (⟨y48, y50, y51⟩ : Maker) v47 v49 l53a l53b (h.rdC 1 16 rfl rfl) (⟨2, x23.n, b, 0, []⟩ : Ins) (.slice none 0 0) Rd2.nil _ e55) ?_
       rintro _ w ⟨k59, u56, u58, rfl, h60, h61, g57⟩
       refine ⟨_, rfl, ?_⟩
       replace h := h.back 1 (C := (.two (.blk sb [v47, v49, (.int .i64 (y51))]) (.own rIns 90 v49 y50) : Chunk)) (C' := (.two (.blk sb [u56, u58, (.int .i64 (y54.2.regs))]) (.own rIns 90 u58 y54.2.code) : Chunk)) rfl ⟨trivial, trivial⟩ h60 k59 h61
       replace h := h.knowRd 17 (backRd g57)
       replace h := h.unpair 1 2 (by decide) rfl rfl
       refine wl_nil (inBlock_normal (inBlock_normal (then_loop ?_)))
       replace h := h.copyR 17 9 rfl
       exact jend (u56, y54.2.f, u58, y54.2.code, y54.2.regs) ⟨h.cn _, hs⟩
      ·
       refine wc_seq (wc_region (wl_ok (r_eql rfl rfl) (wl_ok (r_assign (v := (.bool (decide ((x23.kind : Int) = 2)))) rfl) (wl_nil (then_normal (wc_ifb hs rfl (fun c62 hs => ?_) (fun c62 hs => ?_)))))))
       ·
        refine wc_seq (wc_region (wl_ok (r_move (v := (.pointer (some ⟨sb, 0, none⟩))) rfl) (wl_ok (r_fieldAddr Fld65x3 rfl) (wl_ok (r_ldB h 15 rfl One63 rfl rfl) (wl_ok (r_move (v := (.int .i64 (b))) rfl) ?_)))))
        obtain ⟨a63, hs⟩ := o_grd hs
        refine wl_ok (r_add rfl rfl a63) ?_
        replace h := h.pair 1 2 (by decide)
        obtain ⟨l64a, l64b, l64c⟩ := h.lendS 1 (C := (.two (.blk sb [v47, v49, (.int .i64 (y51))]) (.own rIns 90 v49 y50) : Chunk)) rfl ⟨trivial, trivial⟩
        obtain ⟨y65, e66, hs⟩ := o_bind hs
        refine w_call fnOk78 rfl rfl (code_maker_expr_c N _ _ l64c sb (⟨y48, y50, y51⟩ : Maker) v47 v49 l64a l64b (h.rdC 1 16 rfl rfl) u40 x23.f (h.rdC 1 12 rfl rfl) (b + 1) _ e66) ?_
        rintro _ w ⟨k70, u67, u69, rfl, h71, h72, g68⟩
        refine ⟨_, rfl, ?_⟩
        replace h := h.back 1 (C := (.two (.blk sb [v47, v49, (.int .i64 (y51))]) (.own rIns 90 v49 y50) : Chunk)) (C' := (.two (.blk sb [u67, u69, (.int .i64 (y65.2.regs))]) (.own rIns 90 u69 y65.2.code) : Chunk)) rfl ⟨trivial, trivial⟩ h71 k70 h72
        replace h := h.knowRd 18 (backRd g68)
        replace h := h.unpair 1 2 (by decide) rfl rfl
        refine wl_nil (then_normal (wc_region (wl_ok (r_move (v := (.pointer (some ⟨sb, 0, none⟩))) rfl) (wl_ok (r_move (v := (.int .i64 (b))) rfl) (wl_ok (r_move (v := (.int .i64 (b))) rfl) ?_)))))
        obtain ⟨a73, hs⟩ := o_grd hs
        refine wl_ok (r_add rfl rfl a73) (wl_ok (r_fieldAddr Fld65x1 rfl) (wl_ok (r_ldB h 15 rfl One3 rfl rfl) (wl_ok (r_build (pv := [(0, (.int .i64 (6))), (1, (.int .i64 (b))), (2, (.int .i64 ((b + 1)))), (3, (.int .i64 (x23.n)))]) (out := [(.int .i64 (6)), (.int .i64 (b)), (.int .i64 ((b + 1))), (.int .i64 (x23.n)), (.slice none 0 0)]) Struct90 rfl ⟨0, 1, [(.int .i64 (6))], rfl, rfl, rfl, Nat.le_of_ble_eq_true rfl, ⟨1, 1, [(.int .i64 (b))], rfl, rfl, rfl, Nat.le_of_ble_eq_true rfl, ⟨2, 1, [(.int .i64 ((b + 1)))], rfl, rfl, rfl, Nat.le_of_ble_eq_true rfl, ⟨3, 1, [(.int .i64 (x23.n))], rfl, rfl, rfl, Nat.le_of_ble_eq_true rfl, rfl⟩⟩⟩⟩) ?_)))
        replace h := h.pair 1 2 (by decide)
        obtain ⟨l74a, l74b, l74c⟩ := h.lendS 1 (C := (.two (.blk sb [u67, u69, (.int .i64 (y65.2.regs))]) (.own rIns 90 u69 y65.2.code) : Chunk)) rfl ⟨trivial, trivial⟩
        obtain ⟨y75, e76, hs⟩ := o_bind hs
        refine w_call fnOk46 rfl rfl (code_maker_put_c _ _ l74c sb y65.2 u67 u69 l74a l74b (h.rdC 1 18 rfl rfl) (⟨6, b, (b + 1), x23.n, []⟩ : Ins) (.slice none 0 0) Rd2.nil _ e76) ?_
        rintro _ w ⟨k80, u77, u79, rfl, h81, h82, g78⟩
        refine ⟨_, rfl, ?_⟩
        replace h := h.back 1 (C := (.two (.blk sb [u67, u69, (.int .i64 (y65.2.regs))]) (.own rIns 90 u69 y65.2.code) : Chunk)) (C' := (.two (.blk sb [u77, u79, (.int .i64 (y75.2.regs))]) (.own rIns 90 u79 y75.2.code) : Chunk)) rfl ⟨trivial, trivial⟩ h81 k80 h82
        replace h := h.knowRd 19 (backRd g78)
        replace h := h.unpair 1 2 (by decide) rfl rfl
        refine wl_nil (inBlock_normal (inBlock_normal (then_loop ?_)))
        replace h := h.copyR 19 9 rfl
        exact jend (u77, y75.2.f, u79, y75.2.code, y75.2.regs) ⟨h.cn _, hs⟩
       ·
        refine wc_seq (wc_region (wl_ok (r_eql rfl rfl) (wl_ok (r_assign (v := (.bool (decide ((x23.kind : Int) = 3)))) rfl) (wl_nil (then_normal (wc_ifb hs rfl (fun c83 hs => ?_) (fun c83 hs => ?_)))))))
        ·
         refine wc_region (wl_ok (r_move (v := (.pointer (some ⟨sb, 0, none⟩))) rfl) (wl_ok (r_move (v := (.int .i64 (b))) rfl) (wl_ok (r_build (pv := [(0, (.int .i64 (9))), (1, (.int .i64 (b)))]) (out := [(.int .i64 (9)), (.int .i64 (b)), (.int .i64 (0)), (.int .i64 (0)), (.slice none 0 0)]) Struct90 rfl ⟨0, 1, [(.int .i64 (9))], rfl, rfl, rfl, Nat.le_of_ble_eq_true rfl, ⟨1, 1, [(.int .i64 (b))], rfl, rfl, rfl, Nat.le_of_ble_eq_true rfl, rfl⟩⟩) ?_)))
         replace h := h.pair 1 2 (by decide)
         obtain ⟨l84a, l84b, l84c⟩ := h.lendS 1 (C := (.two (.blk sb [v47, v49, (.int .i64 (y51))]) (.own rIns 90 v49 y50) : Chunk)) rfl ⟨trivial, trivial⟩
         obtain ⟨y85, e86, hs⟩ := o_bind hs
         refine w_call fnOk46 rfl rfl (code_maker_put_c _ _ l84c sb (⟨y48, y50, y51⟩ : Maker) v47 v49 l84a l84b (h.rdC 1 16 rfl rfl) (⟨9, b, 0, 0, []⟩ : Ins) (.slice none 0 0) Rd2.nil _ e86) ?_
         rintro _ w ⟨k90, u87, u89, rfl, h91, h92, g88⟩
         refine ⟨_, rfl, ?_⟩
         replace h := h.back 1 (C := (.two (.blk sb [v47, v49, (.int .i64 (y51))]) (.own rIns 90 v49 y50) : Chunk)) (C' := (.two (.blk sb [u87, u89, (.int .i64 (y85.2.regs))]) (.own rIns 90 u89 y85.2.code) : Chunk)) rfl ⟨trivial, trivial⟩ h91 k90 h92
         replace h := h.knowRd 20 (backRd g88)
         replace h := h.unpair 1 2 (by decide) rfl rfl
         refine wl_nil (inBlock_normal (inBlock_normal (then_loop ?_)))
         replace h := h.copyR 20 9 rfl
         exact jend (u87, y85.2.f, u89, y85.2.code, y85.2.regs) ⟨h.cn _, hs⟩
        ·
         refine wc_seq (wc_region (wl_ok (r_eql rfl rfl) (wl_ok (r_assign (v := (.bool (decide ((x23.kind : Int) = 4)))) rfl) (wl_nil (then_normal (wc_ifb hs rfl (fun c93 hs => ?_) (fun c93 hs => ?_)))))))
         ·
          refine wc_region (wl_ok (r_move (v := (.pointer (some ⟨sb, 0, none⟩))) rfl) (wl_ok (r_build (pv := [(0, (.int .i64 (10)))]) (out := [(.int .i64 (10)), (.int .i64 (0)), (.int .i64 (0)), (.int .i64 (0)), (.slice none 0 0)]) Struct90 rfl ⟨0, 1, [(.int .i64 (10))], rfl, rfl, rfl, Nat.le_of_ble_eq_true rfl, rfl⟩) ?_))
          replace h := h.pair 1 2 (by decide)
          obtain ⟨l94a, l94b, l94c⟩ := h.lendS 1 (C := (.two (.blk sb [v47, v49, (.int .i64 (y51))]) (.own rIns 90 v49 y50) : Chunk)) rfl ⟨trivial, trivial⟩
          obtain ⟨y95, e96, hs⟩ := o_bind hs
          refine w_call fnOk46 rfl rfl (code_maker_put_c _ _ l94c sb (⟨y48, y50, y51⟩ : Maker) v47 v49 l94a l94b (h.rdC 1 16 rfl rfl) (⟨10, 0, 0, 0, []⟩ : Ins) (.slice none 0 0) Rd2.nil _ e96) ?_
          rintro _ w ⟨k100, u97, u99, rfl, h101, h102, g98⟩
          refine ⟨_, rfl, ?_⟩
          replace h := h.back 1 (C := (.two (.blk sb [v47, v49, (.int .i64 (y51))]) (.own rIns 90 v49 y50) : Chunk)) (C' := (.two (.blk sb [u97, u99, (.int .i64 (y95.2.regs))]) (.own rIns 90 u99 y95.2.code) : Chunk)) rfl ⟨trivial, trivial⟩ h101 k100 h102
          replace h := h.knowRd 21 (backRd g98)
          replace h := h.unpair 1 2 (by decide) rfl rfl
          refine wl_nil (inBlock_normal (inBlock_normal (then_loop ?_)))
          replace h := h.copyR 21 9 rfl
          exact jend (u97, y95.2.f, u99, y95.2.code, y95.2.regs) ⟨h.cn _, hs⟩
         ·
          refine wc_seq (wc_region (wl_ok (r_eql rfl rfl) (wl_ok (r_assign (v := (.bool (decide ((x23.kind : Int) = 5)))) rfl) (wl_nil (then_normal (wc_ifb hs rfl (fun c103 hs => ?_) (fun c103 hs => ?_)))))))
          ·
           refine wc_region (wl_ok (r_move (v := (.pointer (some ⟨sb, 0, none⟩))) rfl) (wl_ok (r_move (v := (.int .i64 (b))) rfl) (wl_ok (r_build (pv := [(0, (.int .i64 (11))), (1, (.int .i64 (b)))]) (out := [(.int .i64 (11)), (.int .i64 (b)), (.int .i64 (0)), (.int .i64 (0)), (.slice none 0 0)]) Struct90 rfl ⟨0, 1, [(.int .i64 (11))], rfl, rfl, rfl, Nat.le_of_ble_eq_true rfl, ⟨1, 1, [(.int .i64 (b))], rfl, rfl, rfl, Nat.le_of_ble_eq_true rfl, rfl⟩⟩) ?_)))
           replace h := h.pair 1 2 (by decide)
           obtain ⟨l104a, l104b, l104c⟩ := h.lendS 1 (C := (.two (.blk sb [v47, v49, (.int .i64 (y51))]) (.own rIns 90 v49 y50) : Chunk)) rfl ⟨trivial, trivial⟩
           obtain ⟨y105, e106, hs⟩ := o_bind hs
           refine w_call fnOk46 rfl rfl (code_maker_put_c _ _ l104c sb (⟨y48, y50, y51⟩ : Maker) v47 v49 l104a l104b (h.rdC 1 16 rfl rfl) (⟨11, b, 0, 0, []⟩ : Ins) (.slice none 0 0) Rd2.nil _ e106) ?_
           rintro _ w ⟨k110, u107, u109, rfl, h111, h112, g108⟩
           refine ⟨_, rfl, ?_⟩
           replace h := h.back 1 (C := (.two (.blk sb [v47, v49, (.int .i64 (y51))]) (.own rIns 90 v49 y50) : Chunk)) (C' := (.two (.blk sb [u107, u109, (.int .i64 (y105.2.regs))]) (.own rIns 90 u109 y105.2.code) : Chunk)) rfl ⟨trivial, trivial⟩ h111 k110 h112
           replace h := h.knowRd 22 (backRd g108)
           replace h := h.unpair 1 2 (by decide) rfl rfl
           refine wl_nil (inBlock_normal (inBlock_normal (then_loop ?_)))
           replace h := h.copyR 22 9 rfl
           exact jend (u107, y105.2.f, u109, y105.2.code, y105.2.regs) ⟨h.cn _, hs⟩
          ·
           refine wc_seq (wc_region (wl_ok (r_eql rfl rfl) (wl_ok (r_assign (v := (.bool (decide ((x23.kind : Int) = 8)))) rfl) (wl_nil (then_normal (wc_ifb hs rfl (fun c113 hs => ?_) (fun c113 hs => ?_)))))))
           ·
            refine wc_region (wl_ok (r_move (v := (.pointer (some ⟨sb, 0, none⟩))) rfl) (wl_ok (r_move (v := (.int .i64 (b))) rfl) (wl_ok (r_build (pv := [(0, (.int .i64 (8))), (1, (.int .i64 (b)))]) (out := [(.int .i64 (8)), (.int .i64 (b)), (.int .i64 (0)), (.int .i64 (0)), (.slice none 0 0)]) Struct90 rfl ⟨0, 1, [(.int .i64 (8))], rfl, rfl, rfl, Nat.le_of_ble_eq_true rfl, ⟨1, 1, [(.int .i64 (b))], rfl, rfl, rfl, Nat.le_of_ble_eq_true rfl, rfl⟩⟩) ?_)))
            replace h := h.pair 1 2 (by decide)
            obtain ⟨l114a, l114b, l114c⟩ := h.lendS 1 (C := (.two (.blk sb [v47, v49, (.int .i64 (y51))]) (.own rIns 90 v49 y50) : Chunk)) rfl ⟨trivial, trivial⟩
            obtain ⟨y115, e116, hs⟩ := o_bind hs
            refine w_call fnOk46 rfl rfl (code_maker_put_c _ _ l114c sb (⟨y48, y50, y51⟩ : Maker) v47 v49 l114a l114b (h.rdC 1 16 rfl rfl) (⟨8, b, 0, 0, []⟩ : Ins) (.slice none 0 0) Rd2.nil _ e116) ?_
            rintro _ w ⟨k120, u117, u119, rfl, h121, h122, g118⟩
            refine ⟨_, rfl, ?_⟩
            replace h := h.back 1 (C := (.two (.blk sb [v47, v49, (.int .i64 (y51))]) (.own rIns 90 v49 y50) : Chunk)) (C' := (.two (.blk sb [u117, u119, (.int .i64 (y115.2.regs))]) (.own rIns 90 u119 y115.2.code) : Chunk)) rfl ⟨trivial, trivial⟩ h121 k120 h122
            replace h := h.knowRd 23 (backRd g118)
            replace h := h.unpair 1 2 (by decide) rfl rfl
            refine wl_nil (inBlock_normal (inBlock_normal (then_loop ?_)))
            replace h := h.copyR 23 9 rfl
            exact jend (u117, y115.2.f, u119, y115.2.code, y115.2.regs) ⟨h.cn _, hs⟩
           ·
            refine wc_seq (wc_region (wl_ok (r_eql rfl rfl) (wl_ok (r_assign (v := (.bool (decide ((x23.kind : Int) = 6)))) rfl) (wl_nil (then_normal (wc_ifb hs rfl (fun c123 hs => ?_) (fun c123 hs => ?_)))))))
            ·
             refine wc_seq (wc_region (wl_ok (r_move (v := (.pointer (some ⟨sb, 0, none⟩))) rfl) (wl_ok (r_move (v := (.int .i64 (b))) rfl) (wl_ok (r_build (pv := [(0, (.int .i64 (13))), (1, (.int .i64 (b)))]) (out := [(.int .i64 (13)), (.int .i64 (b)), (.int .i64 (0)), (.int .i64 (0)), (.slice none 0 0)]) Struct90 rfl ⟨0, 1, [(.int .i64 (13))], rfl, rfl, rfl, Nat.le_of_ble_eq_true rfl, ⟨1, 1, [(.int .i64 (b))], rfl, rfl, rfl, Nat.le_of_ble_eq_true rfl, rfl⟩⟩) ?_))))
             replace h := h.pair 1 2 (by decide)
             obtain ⟨l124a, l124b, l124c⟩ := h.lendS 1 (C := (.two (.blk sb [v47, v49, (.int .i64 (y51))]) (.own rIns 90 v49 y50) : Chunk)) rfl ⟨trivial, trivial⟩
             obtain ⟨y125, e126, hs⟩ := o_bind hs
             refine w_call fnOk46 rfl rfl (code_maker_put_c _ _ l124c sb (⟨y48, y50, y51⟩ : Maker) v47 v49 l124a l124b (h.rdC 1 16 rfl rfl) (⟨13, b, 0, 0, []⟩ : Ins) (.slice none 0 0) Rd2.nil _ e126) ?_
             rintro _ w ⟨k130, u127, u129, rfl, h131, h132, g128⟩
             refine ⟨_, rfl, ?_⟩
             replace h := h.back 1 (C := (.two (.blk sb [v47, v49, (.int .i64 (y51))]) (.own rIns 90 v49 y50) : Chunk)) (C' := (.two (.blk sb [u127, u129, (.int .i64 (y125.2.regs))]) (.own rIns 90 u129 y125.2.code) : Chunk)) rfl ⟨trivial, trivial⟩ h131 k130 h132
             replace h := h.knowRd 24 (backRd g128)
             replace h := h.unpair 1 2 (by decide) rfl rfl
             refine wl_ok (r_assign (v := (.int .i64 (y125.1))) rfl) (wl_nil (then_normal (wc_seq (wc_region (wl_ok (r_move (v := (.pointer (some ⟨sb, 0, none⟩))) rfl) (wl_ok (r_fieldAddr Fld65x4 rfl) (wl_ok (r_ldB h 15 rfl One41 rfl rfl) (wl_ok (r_move (v := (.int .i64 (b))) rfl) ?_))))))))
             replace h := h.pair 1 2 (by decide)
             obtain ⟨l133a, l133b, l133c⟩ := h.lendS 1 (C := (.two (.blk sb [u127, u129, (.int .i64 (y125.2.regs))]) (.own rIns 90 u129 y125.2.code) : Chunk)) rfl ⟨trivial, trivial⟩
             obtain ⟨y134, e135, hs⟩ := o_bind hs
             refine w_call fnOk45 rfl rfl (ih _ _ l133c sb y125.2 u127 u129 l133a l133b (h.rdC 1 24 rfl rfl) u42 x23.a (h.rdC 1 13 rfl rfl) b _ e135) ?_
             rintro _ w ⟨k139, u136, u138, rfl, h140, h141, g137⟩
             refine ⟨_, rfl, ?_⟩
             replace h := h.back 1 (C := (.two (.blk sb [u127, u129, (.int .i64 (y125.2.regs))]) (.own rIns 90 u129 y125.2.code) : Chunk)) (C' := (.two (.blk sb [u136, u138, (.int .i64 (y134.regs))]) (.own rIns 90 u138 y134.code) : Chunk)) rfl ⟨trivial, trivial⟩ h140 k139 h141
             replace h := h.knowRd 25 (backRd g137)
             replace h := h.unpair 1 2 (by decide) rfl rfl
             refine wl_nil (then_normal (wc_seq (wc_region (wl_ok (r_move (v := (.pointer (some ⟨sb, 0, none⟩))) rfl) (wl_ok (r_build (pv := [(0, (.int .i64 (12)))]) (out := [(.int .i64 (12)), (.int .i64 (0)), (.int .i64 (0)), (.int .i64 (0)), (.slice none 0 0)]) Struct90 rfl ⟨0, 1, [(.int .i64 (12))], rfl, rfl, rfl, Nat.le_of_ble_eq_true rfl, rfl⟩) ?_)))))
             replace h := h.pair 1 2 (by decide)
             obtain ⟨l142a, l142b, l142c⟩ := h.lendS 1 (C := (.two (.blk sb [u136, u138, (.int .i64 (y134.regs))]) (.own rIns 90 u138 y134.code) : Chunk)) rfl ⟨trivial, trivial⟩
             obtain ⟨y143, e144, hs⟩ := o_bind hs
             refine w_call fnOk46 rfl rfl (code_maker_put_c _ _ l142c sb y134 u136 u138 l142a l142b (h.rdC 1 25 rfl rfl) (⟨12, 0, 0, 0, []⟩ : Ins) (.slice none 0 0) Rd2.nil _ e144) ?_
             rintro _ w ⟨k148, u145, u147, rfl, h149, h150, g146⟩
             refine ⟨_, rfl, ?_⟩
             replace h := h.back 1 (C := (.two (.blk sb [u136, u138, (.int .i64 (y134.regs))]) (.own rIns 90 u138 y134.code) : Chunk)) (C' := (.two (.blk sb [u145, u147, (.int .i64 (y143.2.regs))]) (.own rIns 90 u147 y143.2.code) : Chunk)) rfl ⟨trivial, trivial⟩ h149 k148 h150
             replace h := h.knowRd 26 (backRd g146)
             replace h := h.unpair 1 2 (by decide) rfl rfl
             refine wl_ok (r_assign (v := (.int .i64 (y143.1))) rfl) (wl_nil (then_normal (wc_seq (wc_tail 12 mixed (by kernel_rfl) h fun w h => wk_ok (r_move (v := (.pointer (some ⟨sb, 0, none⟩))) rfl) (wk_ok (r_nilCheck rfl) (wk_ok (r_fieldAddr Fld85x1 rfl) (wk_ok (r_ldB h 1 rfl One38 rfl rfl) (wk_ok (r_move (v := (.int .i64 (y125.1))) rfl) (wk_ok (r_move (v := (.pointer (some ⟨sb, 0, none⟩))) rfl) (wk_ok (r_nilCheck rfl) (wk_ok (r_fieldAddr Fld85x1 rfl) (wk_ok (r_ldB h 1 rfl One38 rfl rfl) (wk_ok (r_len SliceOf38 rfl (h.ownS 2 rfl)) ?_)))))))))))))
             obtain ⟨x151, e152, hs⟩ := o_bind hs
             obtain ⟨b154, q155, i153⟩ := h.ixO 2 rfl SliceOf38 rfl (o_idx e152).1 (o_idx e152).2
             refine wk_ok (i153 _ _ _ _ _ _ _ _ _ rfl rfl) (wk_ok (r_fieldAddr Fld90x2 rfl) (wk_go (w_stO (a' := { x151 with b := (y143.2.code.length : Int) }) h 2 rfl q155 rfl (o_idx e152).2 One3 rfl rfl rfl rfl (by rintro _ hq; obtain ⟨p4, rfl, q4⟩ := rIns_open hq; exact ⟨_, rfl, q4⟩) fun w h => wl_nil (then_normal (wc_seq (wc_region (wl_ok (r_move (v := (.pointer (some ⟨sb, 0, none⟩))) rfl) (wl_ok (r_fieldAddr Fld65x5 rfl) (wl_ok (r_ldB h 15 rfl One41 rfl rfl) (wl_ok (r_move (v := (.int .i64 (b))) rfl) ?_))))))))))
             replace h := h.pair 1 2 (by decide)
             obtain ⟨l156a, l156b, l156c⟩ := h.lendS 1 (C := (.two (.blk sb [u145, u147, (.int .i64 (y143.2.regs))]) (.own rIns 90 u147 (y143.2.code.set (y125.1).toNat { x151 with b := (y143.2.code.length : Int) })) : Chunk)) rfl ⟨trivial, trivial⟩
             obtain ⟨y157, e158, hs⟩ := o_bind hs
             refine w_call fnOk45 rfl rfl (ih _ _ l156c sb (⟨y143.2.f, (y143.2.code.set (y125.1).toNat { x151 with b := (y143.2.code.length : Int) }), y143.2.regs⟩ : Maker) u145 u147 l156a l156b (h.rdC 1 26 rfl rfl) u44 x23.b (h.rdC 1 14 rfl rfl) b _ e158) ?_
             rintro _ w ⟨k162, u159, u161, rfl, h163, h164, g160⟩
             refine ⟨_, rfl, ?_⟩
             replace h := h.back 1 (C := (.two (.blk sb [u145, u147, (.int .i64 (y143.2.regs))]) (.own rIns 90 u147 (y143.2.code.set (y125.1).toNat { x151 with b := (y143.2.code.length : Int) })) : Chunk)) (C' := (.two (.blk sb [u159, u161, (.int .i64 (y157.regs))]) (.own rIns 90 u161 y157.code) : Chunk)) rfl ⟨trivial, trivial⟩ h163 k162 h164
             replace h := h.knowRd 27 (backRd g160)
             replace h := h.unpair 1 2 (by decide) rfl rfl
             refine wl_nil (then_normal (wc_tail 12 mixed (by kernel_rfl) h fun w h => wk_ok (r_move (v := (.pointer (some ⟨sb, 0, none⟩))) rfl) (wk_ok (r_nilCheck rfl) (wk_ok (r_fieldAddr Fld85x1 rfl) (wk_ok (r_ldB h 1 rfl One38 rfl rfl) (wk_ok (r_move (v := (.int .i64 (y143.1))) rfl) (wk_ok (r_move (v := (.pointer (some ⟨sb, 0, none⟩))) rfl) (wk_ok (r_nilCheck rfl) (wk_ok (r_fieldAddr Fld85x1 rfl) (wk_ok (r_ldB h 1 rfl One38 rfl rfl) (wk_ok (r_len SliceOf38 rfl (h.ownS 2 rfl)) ?_)))))))))))
             obtain ⟨x165, e166, hs⟩ := o_bind hs
             obtain ⟨b168, q169, i167⟩ := h.ixO 2 rfl SliceOf38 rfl (o_idx e166).1 (o_idx e166).2
             refine wk_ok (i167 _ _ _ _ _ _ _ _ _ rfl rfl) (wk_ok (r_fieldAddr Fld90x2 rfl) (wk_go (w_stO (a' := { x165 with b := (y157.code.length : Int) }) h 2 rfl q169 rfl (o_idx e166).2 One3 rfl rfl rfl rfl (by rintro _ hq; obtain ⟨p4, rfl, q4⟩ := rIns_open hq; exact ⟨_, rfl, q4⟩) fun w h => wl_nil (inBlock_normal (inBlock_normal (then_loop ?_))))))
             replace h := h.copyR 27 9 rfl
             exact jend (u159, y157.f, u161, (y157.code.set (y143.1).toNat { x165 with b := (y157.code.length : Int) }), y157.regs) ⟨h.cn _, hs⟩
            ·
             refine wc_skip (inBlock_normal (inBlock_normal (then_loop ?_)))
             replace h := h.copyR 16 9 rfl
             exact jend (v47, y48, v49, y50, y51) ⟨h.cn _, hs⟩
     ·
      refine wc_seq (wc_region (wl_ok (r_fieldAddr Fld65x2 rfl) (wl_ok (r_ldB h 15 rfl One63 rfl rfl) (wl_ok (r_len SliceOf63 rfl (h.rdS 11 rfl)) (wl_ok (r_gtr rfl rfl) (wl_nil (then_normal (wc_ifb hs rfl (fun c170 hs => ?_) (fun c170 hs => ?_)))))))))
      ·
       refine wc_seq (wc_region (wl_ok (r_move (v := (.pointer (some ⟨sb, 0, none⟩))) rfl) (wl_ok (r_nilCheck rfl) (wl_ok (r_fieldAddr Fld85x1 rfl) (wl_ok (r_ldB h 1 rfl One38 rfl rfl) (wl_ok (r_len SliceOf38 rfl (h.ownS 2 rfl)) (wl_ok (r_assign (v := (.int .i64 ((y19.length : Int)))) rfl) (wl_nil (then_normal (wc_seq (wc_region (wl_ok (r_move (v := (.pointer (some ⟨sb, 0, none⟩))) rfl) (wl_ok (r_fieldAddr Fld65x2 rfl) (wl_ok (r_ldB h 15 rfl One63 rfl rfl) (wl_ok (r_move (v := (.int .i64 (b))) rfl) ?_)))))))))))))))
       replace h := h.pair 1 2 (by decide)
       obtain ⟨l171a, l171b, l171c⟩ := h.lendS 1 (C := (.two (.blk sb [v16, v18, (.int .i64 (y20))]) (.own rIns 90 v18 y19) : Chunk)) rfl ⟨trivial, trivial⟩
       obtain ⟨y172, e173, hs⟩ := o_bind hs
       refine w_call fnOk78 rfl rfl (code_maker_expr_c N _ _ l171c sb (⟨y17, y19, y20⟩ : Maker) v16 v18 l171a l171b (h.rdC 1 8 rfl rfl) u38 x23.e (h.rdC 1 11 rfl rfl) b _ e173) ?_
       rintro _ w ⟨k177, u174, u176, rfl, h178, h179, g175⟩
       refine ⟨_, rfl, ?_⟩
       replace h := h.back 1 (C := (.two (.blk sb [v16, v18, (.int .i64 (y20))]) (.own rIns 90 v18 y19) : Chunk)) (C' := (.two (.blk sb [u174, u176, (.int .i64 (y172.2.regs))]) (.own rIns 90 u176 y172.2.code) : Chunk)) rfl ⟨trivial, trivial⟩ h178 k177 h179
       replace h := h.knowRd 28 (backRd g175)
       replace h := h.unpair 1 2 (by decide) rfl rfl
       refine wl_nil (then_normal (wc_seq (wc_region (wl_ok (r_fieldAddr Fld65x0 rfl) (wl_ok (r_ldB h 15 rfl One3 rfl rfl) (wl_ok (r_eql rfl rfl) (wl_nil (then_normal (wc_ifb hs rfl (fun c180 hs => ?_) (fun c180 hs => ?_))))))))))
       ·
        refine wc_seq (wc_region (wl_ok (r_move (v := (.pointer (some ⟨sb, 0, none⟩))) rfl) (wl_ok (r_ldBN (vs := [(.int .i64 (x23.kind)), (.int .i64 (x23.n)), u38, u40, u42, u44]) h 15 rfl Many65 rfl rfl rfl) (wl_ok (r_move (v := (.int .i64 ((y19.length : Int)))) rfl) (wl_ok (r_move (v := (.int .i64 (b))) rfl) (w_callIn (args := [(.pointer (some ⟨sb, 0, none⟩)), (.agg #[(.int .i64 (x23.kind)), (.int .i64 (x23.n)), u38, u40, u42, u44]), (.int .i64 ((y19.length : Int))), (.int .i64 (b))]) fnOk79 rfl rfl (calls_start (args := [(.pointer (some ⟨sb, 0, none⟩)), (.agg #[(.int .i64 (x23.kind)), (.int .i64 (x23.n)), u38, u40, u42, u44]), (.int .i64 ((y19.length : Int))), (.int .i64 (b))]) Tryz.func79 rfl Tryz.ntmps79 (Nat.le_of_ble_eq_true rfl) (wc_seq (wc_region (w_box (cs := [(.int .i64 (x23.kind)), (.int .i64 (x23.n)), u38, u40, u42, u44]) h 29 rfl rfl fun w b181 h => wl_nil (then_normal (wc_seq (wc_region (wl_ok (r_move (v := (.pointer (some ⟨sb, 0, none⟩))) rfl) (wl_ok (r_move (v := (.int .i64 (b))) rfl) (wl_ok (r_build (pv := [(0, (.int .i64 (13))), (1, (.int .i64 (b)))]) (out := [(.int .i64 (13)), (.int .i64 (b)), (.int .i64 (0)), (.int .i64 (0)), (.slice none 0 0)]) Struct90 rfl ⟨0, 1, [(.int .i64 (13))], rfl, rfl, rfl, Nat.le_of_ble_eq_true rfl, ⟨1, 1, [(.int .i64 (b))], rfl, rfl, rfl, Nat.le_of_ble_eq_true rfl, rfl⟩⟩) ?_))))))))))))))))
        replace h := h.pair 1 2 (by decide)
        obtain ⟨l182a, l182b, l182c⟩ := h.lendS 1 (C := (.two (.blk sb [u174, u176, (.int .i64 (y172.2.regs))]) (.own rIns 90 u176 y172.2.code) : Chunk)) rfl ⟨trivial, trivial⟩
        obtain ⟨y183, e184, hs⟩ := o_bind hs
        refine w_call fnOk46 rfl rfl (code_maker_put_c _ _ l182c sb y172.2 u174 u176 l182a l182b (h.rdC 1 28 rfl rfl) (⟨13, b, 0, 0, []⟩ : Ins) (.slice none 0 0) Rd2.nil _ e184) ?_
        rintro _ w ⟨k188, u185, u187, rfl, h189, h190, g186⟩
        refine ⟨_, rfl, ?_⟩
        replace h := h.back 1 (C := (.two (.blk sb [u174, u176, (.int .i64 (y172.2.regs))]) (.own rIns 90 u176 y172.2.code) : Chunk)) (C' := (.two (.blk sb [u185, u187, (.int .i64 (y183.2.regs))]) (.own rIns 90 u187 y183.2.code) : Chunk)) rfl ⟨trivial, trivial⟩ h189 k188 h190
        replace h := h.knowRd 30 (backRd g186)
        replace h := h.unpair 1 2 (by decide) rfl rfl
        refine wl_ok (r_assign (v := (.int .i64 (y183.1))) rfl) (wl_nil (then_normal (wc_seq (wc_region (wl_ok (r_move (v := (.pointer (some ⟨sb, 0, none⟩))) rfl) (wl_ok (r_fieldAddr Fld65x4 rfl) (wl_ok (r_ldB h 29 rfl One41 rfl rfl) (wl_ok (r_move (v := (.int .i64 (b))) rfl) ?_))))))))
        replace h := h.pair 1 2 (by decide)
        obtain ⟨l191a, l191b, l191c⟩ := h.lendS 1 (C := (.two (.blk sb [u185, u187, (.int .i64 (y183.2.regs))]) (.own rIns 90 u187 y183.2.code) : Chunk)) rfl ⟨trivial, trivial⟩
        obtain ⟨y192, e193, hs⟩ := o_bind hs
        refine w_call fnOk45 rfl rfl (ih _ _ l191c sb y183.2 u185 u187 l191a l191b (h.rdC 1 30 rfl rfl) u42 x23.a (h.rdC 1 13 rfl rfl) b _ e193) ?_
        rintro _ w ⟨k197, u194, u196, rfl, h198, h199, g195⟩
        refine ⟨_, rfl, ?_⟩
        replace h := h.back 1 (C := (.two (.blk sb [u185, u187, (.int .i64 (y183.2.regs))]) (.own rIns 90 u187 y183.2.code) : Chunk)) (C' := (.two (.blk sb [u194, u196, (.int .i64 (y192.regs))]) (.own rIns 90 u196 y192.code) : Chunk)) rfl ⟨trivial, trivial⟩ h198 k197 h199
        replace h := h.knowRd 31 (backRd g195)
        replace h := h.unpair 1 2 (by decide) rfl rfl
        refine wl_nil (then_normal (wc_seq (wc_region (wl_ok (r_move (v := (.pointer (some ⟨sb, 0, none⟩))) rfl) (wl_ok (r_move (v := (.int .i64 ((y19.length : Int)))) rfl) (wl_ok (r_build (pv := [(0, (.int .i64 (12))), (2, (.int .i64 ((y19.length : Int))))]) (out := [(.int .i64 (12)), (.int .i64 (0)), (.int .i64 ((y19.length : Int))), (.int .i64 (0)), (.slice none 0 0)]) Struct90 rfl ⟨0, 1, [(.int .i64 (12))], rfl, rfl, rfl, Nat.le_of_ble_eq_true rfl, ⟨2, 1, [(.int .i64 ((y19.length : Int)))], rfl, rfl, rfl, Nat.le_of_ble_eq_true rfl, rfl⟩⟩) ?_))))))
        replace h := h.pair 1 2 (by decide)
        obtain ⟨l200a, l200b, l200c⟩ := h.lendS 1 (C := (.two (.blk sb [u194, u196, (.int .i64 (y192.regs))]) (.own rIns 90 u196 y192.code) : Chunk)) rfl ⟨trivial, trivial⟩
        obtain ⟨y201, e202, hs⟩ := o_bind hs
        refine w_call fnOk46 rfl rfl (code_maker_put_c _ _ l200c sb y192 u194 u196 l200a l200b (h.rdC 1 31 rfl rfl) (⟨12, 0, (y19.length : Int), 0, []⟩ : Ins) (.slice none 0 0) Rd2.nil _ e202) ?_
        rintro _ w ⟨k206, u203, u205, rfl, h207, h208, g204⟩
        refine ⟨_, rfl, ?_⟩
        replace h := h.back 1 (C := (.two (.blk sb [u194, u196, (.int .i64 (y192.regs))]) (.own rIns 90 u196 y192.code) : Chunk)) (C' := (.two (.blk sb [u203, u205, (.int .i64 (y201.2.regs))]) (.own rIns 90 u205 y201.2.code) : Chunk)) rfl ⟨trivial, trivial⟩ h207 k206 h208
        replace h := h.knowRd 32 (backRd g204)
        replace h := h.unpair 1 2 (by decide) rfl rfl
        refine wl_nil (then_normal (wc_tail 12 mixed (by kernel_rfl) h fun w h => wk_ok (r_move (v := (.pointer (some ⟨sb, 0, none⟩))) rfl) (wk_ok (r_nilCheck rfl) (wk_ok (r_fieldAddr Fld85x1 rfl) (wk_ok (r_ldB h 1 rfl One38 rfl rfl) (wk_ok (r_move (v := (.int .i64 (y183.1))) rfl) (wk_ok (r_move (v := (.pointer (some ⟨sb, 0, none⟩))) rfl) (wk_ok (r_nilCheck rfl) (wk_ok (r_fieldAddr Fld85x1 rfl) (wk_ok (r_ldB h 1 rfl One38 rfl rfl) (wk_ok (r_len SliceOf38 rfl (h.ownS 2 rfl)) ?_)))))))))))
        obtain ⟨x209, e210, hs⟩ := o_bind hs
        obtain ⟨b212, q213, i211⟩ := h.ixO 2 rfl SliceOf38 rfl (o_idx e210).1 (o_idx e210).2
        refine wk_ok (i211 _ _ _ _ _ _ _ _ _ rfl rfl) (wk_ok (r_fieldAddr Fld90x2 rfl) (wk_go (w_stO (a' := { x209 with b := (y201.2.code.length : Int) }) h 2 rfl q213 rfl (o_idx e210).2 One3 rfl rfl rfl rfl (by rintro _ hq; obtain ⟨p4, rfl, q4⟩ := rIns_open hq; exact ⟨_, rfl, q4⟩) fun w h => wl_nil (fin0n Tryz.results79 (⟨_, rfl, ?_⟩)))))
        refine wl_nil (then_normal (wc_exit (then_exit (inBlock_eq (then_loop ?_)))))
        replace h := h.copyR 32 9 rfl
        exact jend (u203, y201.2.f, u205, (y201.2.code.set (y183.1).toNat { x209 with b := (y201.2.code.length : Int) }), y201.2.regs) ⟨h.cn _, hs⟩
       ·
        refine wc_skip (then_loop ?_)
        replace h := h.copyR 28 16 rfl
        exact jend (u174, y172.2.f, u176, y172.2.code, y172.2.regs) ⟨h.cn _, hs⟩
      ·
       refine wc_skip (then_loop ?_)
       replace h := h.copyR 8 16 rfl
       exact jend (v16, y17, v18, y19, y20) ⟨h.cn _, hs⟩
   ·
    rw [drop_ge (hik ▸ e26), each_nil] at hs
    refine wc_exit (then_exit (then_exit (inBlock_eq (fin0n Tryz.results45 ?_))))
    replace h := h.pair 1 2 (by decide)
    obtain rfl := Option.some.inj hs
    subst hK0
    obtain ⟨o1, o2, o3⟩ := h.outS 1 (C := (.two (.blk sb [v16, v18, (.int .i64 (y20))]) (.own rIns 90 v18 y19) : Chunk)) rfl ⟨trivial, trivial⟩
    exact ⟨o2, v16, v18, rfl, o1, o3, h.outRdC 1 8 rfl rfl⟩
def code_uses_j6 (x6 : Bool) : Bool × Bool × Bool × Bool :=
  bif x6 then (false, false, false, true) else (false, false, false, false)
def code_uses_j5 (a : Int) (x3 : Bool) : Bool × Bool × Bool × Bool :=
  bif x3 then (true, true, false, true) else bif decide ((a : Int) = 3) then (true, true, true, true) else bif decide ((a : Int) = 10) then code_uses_j6 (decide ((a : Int) = 10)) else code_uses_j6 (decide ((a : Int) = 12))
def code_uses_j4 (a : Int) (x1 : Bool) : Bool × Bool × Bool × Bool :=
  bif x1 then (true, false, false, true) else bif decide ((a : Int) = 2) then code_uses_j5 a (decide ((a : Int) = 2)) else bif decide ((a : Int) = 4) then code_uses_j5 a (decide ((a : Int) = 4)) else code_uses_j5 a (decide ((a : Int) = 6))
def code_uses (a : Int) : Bool × Bool × Bool × Bool :=
  bif decide ((a : Int) = 1) then code_uses_j4 a (decide ((a : Int) = 1)) else bif decide ((a : Int) = 5) then code_uses_j4 a (decide ((a : Int) = 5)) else bif decide ((a : Int) = 8) then code_uses_j4 a (decide ((a : Int) = 8)) else bif decide ((a : Int) = 9) then code_uses_j4 a (decide ((a : Int) = 9)) else bif decide ((a : Int) = 11) then code_uses_j4 a (decide ((a : Int) = 11)) else bif decide ((a : Int) = 13) then code_uses_j4 a (decide ((a : Int) = 13)) else code_uses_j4 a (decide ((a : Int) = 7))
theorem code_uses_c (w0 : World) (M : BS) (hM : ∀ b, M b → b < w0.heap.size) (a : Int) (r : Bool × Bool × Bool × Bool) (hs : code_uses a = r) :
    Calls Tryz.prog 80 #[(.int .i64 (a))] w0 (fun e w' => Grow w0 w' ∧ e = .returned (.tuple #[.bool r.1, .bool r.2.1, .bool r.2.2.1, .bool r.2.2.2])) := by
 refine calls_start (args := [(.int .i64 (a))]) Tryz.func80 rfl Tryz.ntmps80 (Nat.le_of_ble_eq_true rfl) ?_
 have h := SH.init hM
 refine wc_seq (wc_region (wl_ok (r_assign (v := (.bool (false))) rfl) (wl_ok (r_assign (v := (.bool (false))) rfl) (wl_ok (r_assign (v := (.bool (false))) rfl) (wl_ok (r_assign (v := (.bool (false))) rfl) (wl_nil (then_normal (wc_seq (wc_seq (wc_region (wl_ok (r_move (v := (.int .i64 (a))) rfl) (wl_nil (then_normal (wc_block (wc_join (σ := Bool) (inl [7, 8, 9, 10, 11, 12, 13, 14]) (fun x1 => [(7, (.bool (x1)))]) (fun x1 w => SH w0 M BE w (hset []) ∧ code_uses_j4 a x1 = r) ?_ ?_)))))))))))))))
 ·
  rintro x1 w junk ⟨h, hs⟩
  refine wc_ifb hs rfl (fun c2 hs => ?_) (fun c2 hs => ?_)
  ·
   refine wc_seq (wc_region (wl_ok (r_assign (v := (.bool (true))) rfl) (wl_ok (r_assign (v := (.bool (false))) rfl) (wl_ok (r_assign (v := (.bool (false))) rfl) (wl_ok (r_assign (v := (.bool (true))) rfl) (wl_nil (then_normal (wc_ret (inBlock_ret (then_ret (fin4 (v1 := (.bool (true))) (v2 := (.bool (false))) (v3 := (.bool (false))) (v4 := (.bool (true))) Tryz.results80 rfl rfl rfl rfl ?_)))))))))))
   obtain rfl := hs
   exact ⟨h.grown, rfl⟩
  ·
   refine wc_join (σ := Bool) (inl [15, 16, 17, 18]) (fun x3 => [(15, (.bool (x3)))]) (fun x3 w => SH w0 M BE w (hset []) ∧ code_uses_j5 a x3 = r) ?_ ?_
   ·
    rintro x3 w junk ⟨h, hs⟩
    refine wc_ifb hs rfl (fun c4 hs => ?_) (fun c4 hs => ?_)
    ·
     refine wc_seq (wc_region (wl_ok (r_assign (v := (.bool (true))) rfl) (wl_ok (r_assign (v := (.bool (true))) rfl) (wl_ok (r_assign (v := (.bool (false))) rfl) (wl_ok (r_assign (v := (.bool (true))) rfl) (wl_nil (then_normal (wc_ret (inBlock_ret (then_ret (fin4 (v1 := (.bool (true))) (v2 := (.bool (true))) (v3 := (.bool (false))) (v4 := (.bool (true))) Tryz.results80 rfl rfl rfl rfl ?_)))))))))))
     obtain rfl := hs
     exact ⟨h.grown, rfl⟩
    ·
     refine wc_seq (wc_region (wl_ok (r_eql rfl rfl) (wl_ok (r_assign (v := (.bool (decide ((a : Int) = 3)))) rfl) (wl_nil (then_normal (wc_ifb hs rfl (fun c5 hs => ?_) (fun c5 hs => ?_)))))))
     ·
      refine wc_seq (wc_region (wl_ok (r_assign (v := (.bool (true))) rfl) (wl_ok (r_assign (v := (.bool (true))) rfl) (wl_ok (r_assign (v := (.bool (true))) rfl) (wl_ok (r_assign (v := (.bool (true))) rfl) (wl_nil (then_normal (wc_ret (inBlock_ret (then_ret (fin4 (v1 := (.bool (true))) (v2 := (.bool (true))) (v3 := (.bool (true))) (v4 := (.bool (true))) Tryz.results80 rfl rfl rfl rfl ?_)))))))))))
      obtain rfl := hs
      exact ⟨h.grown, rfl⟩
     ·
      refine wc_join (σ := Bool) (inl [21, 22, 23]) (fun x6 => [(21, (.bool (x6)))]) (fun x6 w => SH w0 M BE w (hset []) ∧ code_uses_j6 x6 = r) ?_ ?_
      ·
       rintro x6 w junk ⟨h, hs⟩
       refine wc_ifb hs rfl (fun c7 hs => ?_) (fun c7 hs => ?_)
       ·
        refine wc_seq (wc_region (wl_ok (r_assign (v := (.bool (false))) rfl) (wl_ok (r_assign (v := (.bool (false))) rfl) (wl_ok (r_assign (v := (.bool (false))) rfl) (wl_ok (r_assign (v := (.bool (true))) rfl) (wl_nil (then_normal (wc_ret (inBlock_ret (then_ret (fin4 (v1 := (.bool (false))) (v2 := (.bool (false))) (v3 := (.bool (false))) (v4 := (.bool (true))) Tryz.results80 rfl rfl rfl rfl ?_)))))))))))
        obtain rfl := hs
        exact ⟨h.grown, rfl⟩
       ·
        refine wc_skip (inBlock_normal (then_normal (wc_seq (wc_region (wl_ok (r_assign (v := (.bool (false))) rfl) (wl_ok (r_assign (v := (.bool (false))) rfl) (wl_ok (r_assign (v := (.bool (false))) rfl) (wl_ok (r_assign (v := (.bool (false))) rfl) (wl_nil (then_normal (wc_ret (fin4 (v1 := (.bool (false))) (v2 := (.bool (false))) (v3 := (.bool (false))) (v4 := (.bool (false))) Tryz.results80 rfl rfl rfl rfl ?_))))))))))))
        obtain rfl := hs
        exact ⟨h.grown, rfl⟩
      ·
       refine wc_seq (wc_region (wl_ok (r_eql rfl rfl) (wl_ok (r_assign (v := (.bool (decide ((a : Int) = 10)))) rfl) (wl_nil (then_normal (wc_ifb hs rfl (fun c8 hs => ?_) (fun c8 hs => ?_)))))))
       ·
        refine wc_skip (then_loop ?_)
        exact jend (decide ((a : Int) = 10)) ⟨h.cn _, hs⟩
       ·
        refine wc_region (wl_ok (r_eql rfl rfl) (wl_ok (r_assign (v := (.bool (decide ((a : Int) = 12)))) rfl) (wl_nil (then_loop ?_))))
        exact jend (decide ((a : Int) = 12)) ⟨h.cn _, hs⟩
   ·
    refine wc_seq (wc_region (wl_ok (r_eql rfl rfl) (wl_ok (r_assign (v := (.bool (decide ((a : Int) = 2)))) rfl) (wl_nil (then_normal (wc_ifb hs rfl (fun c9 hs => ?_) (fun c9 hs => ?_)))))))
    ·
     refine wc_skip (then_loop ?_)
     exact jend (decide ((a : Int) = 2)) ⟨h.cn _, hs⟩
    ·
     refine wc_seq (wc_region (wl_ok (r_eql rfl rfl) (wl_ok (r_assign (v := (.bool (decide ((a : Int) = 4)))) rfl) (wl_nil (then_normal (wc_ifb hs rfl (fun c10 hs => ?_) (fun c10 hs => ?_)))))))
     ·
      refine wc_skip (then_loop ?_)
      exact jend (decide ((a : Int) = 4)) ⟨h.cn _, hs⟩
     ·
      refine wc_region (wl_ok (r_eql rfl rfl) (wl_ok (r_assign (v := (.bool (decide ((a : Int) = 6)))) rfl) (wl_nil (then_loop ?_))))
      exact jend (decide ((a : Int) = 6)) ⟨h.cn _, hs⟩
 ·
  refine wc_seq (wc_region (wl_ok (r_eql rfl rfl) (wl_ok (r_assign (v := (.bool (decide ((a : Int) = 1)))) rfl) (wl_nil (then_normal (wc_ifb hs rfl (fun c11 hs => ?_) (fun c11 hs => ?_)))))))
  ·
   refine wc_skip (then_loop ?_)
   exact jend (decide ((a : Int) = 1)) ⟨h.cn _, hs⟩
  ·
   refine wc_seq (wc_region (wl_ok (r_eql rfl rfl) (wl_ok (r_assign (v := (.bool (decide ((a : Int) = 5)))) rfl) (wl_nil (then_normal (wc_ifb hs rfl (fun c12 hs => ?_) (fun c12 hs => ?_)))))))
   ·
    refine wc_skip (then_loop ?_)
    exact jend (decide ((a : Int) = 5)) ⟨h.cn _, hs⟩
   ·
    refine wc_seq (wc_region (wl_ok (r_eql rfl rfl) (wl_ok (r_assign (v := (.bool (decide ((a : Int) = 8)))) rfl) (wl_nil (then_normal (wc_ifb hs rfl (fun c13 hs => ?_) (fun c13 hs => ?_)))))))
    ·
     refine wc_skip (then_loop ?_)
     exact jend (decide ((a : Int) = 8)) ⟨h.cn _, hs⟩
    ·
     refine wc_seq (wc_region (wl_ok (r_eql rfl rfl) (wl_ok (r_assign (v := (.bool (decide ((a : Int) = 9)))) rfl) (wl_nil (then_normal (wc_ifb hs rfl (fun c14 hs => ?_) (fun c14 hs => ?_)))))))
     ·
      refine wc_skip (then_loop ?_)
      exact jend (decide ((a : Int) = 9)) ⟨h.cn _, hs⟩
     ·
      refine wc_seq (wc_region (wl_ok (r_eql rfl rfl) (wl_ok (r_assign (v := (.bool (decide ((a : Int) = 11)))) rfl) (wl_nil (then_normal (wc_ifb hs rfl (fun c15 hs => ?_) (fun c15 hs => ?_)))))))
      ·
       refine wc_skip (then_loop ?_)
       exact jend (decide ((a : Int) = 11)) ⟨h.cn _, hs⟩
      ·
       refine wc_seq (wc_region (wl_ok (r_eql rfl rfl) (wl_ok (r_assign (v := (.bool (decide ((a : Int) = 13)))) rfl) (wl_nil (then_normal (wc_ifb hs rfl (fun c16 hs => ?_) (fun c16 hs => ?_)))))))
       ·
        refine wc_skip (then_loop ?_)
        exact jend (decide ((a : Int) = 13)) ⟨h.cn _, hs⟩
       ·
        refine wc_region (wl_ok (r_eql rfl rfl) (wl_ok (r_assign (v := (.bool (decide ((a : Int) = 7)))) rfl) (wl_nil (then_loop ?_))))
        exact jend (decide ((a : Int) = 7)) ⟨h.cn _, hs⟩
def code_check_1_ (a : Bool) (b : Int) (z0_0 : Int) : Bool :=
  ((!a) || (decide ((0 : Int) ≤ b) && decide ((b : Int) < z0_0)))
theorem code_check_1__c (w0 : World) (M : BS) (hM : ∀ b, M b → b < w0.heap.size) (a : Bool) (b : Int) (z0_0 : Int) (q0 : Nat) (hq0 : ∃ E, w0.heap[q0]? = some (.cells #[(.int .i64 (z0_0))] E (0, 0))) (r : Bool) (hs : code_check_1_ a b z0_0 = r) :
    Calls Tryz.prog 81 #[(.bool (a)), (.int .i64 (b)), (.pointer (some ⟨q0, 0, none⟩))] w0 (fun e w' => Grow w0 w' ∧ e = .returned (.bool r)) := by
 refine calls_start (args := [(.bool (a)), (.int .i64 (b)), (.pointer (some ⟨q0, 0, none⟩))]) Tryz.func81 rfl Tryz.ntmps81 (Nat.le_of_ble_eq_true rfl) ?_
 have h := SH.init hM
 replace h := h.argPt 1 (cs := [(.int .i64 (z0_0))]) hq0 none_own
 refine wc_seq (wc_region (wl_ok (r_assign (v := (.bool (false))) rfl) (wl_nil (then_normal (wc_seq (wc_region (wl_ok (r_move (v := (.bool (a))) rfl) (wl_ok (r_notb rfl) (wl_ok (r_move (v := (.bool ((!a)))) rfl) (wl_gd0 rfl rfl (fun q => r_move (v := (.int .i64 (b))) rfl) (wl_gd0 rfl rfl (fun q => r_geq (gvt q) rfl) (wl_gd0 rfl rfl (fun q => r_move (v := (.bool (decide ((0 : Int) ≤ b)))) (gvt q)) (wl_gd ((!a) == false) rfl rfl (fun q => r_move (v := (.int .i64 (b))) rfl) (wl_gd ((!a) == false) rfl rfl (fun q => r_ldP (k := 0) h 1 rfl One3 rfl rfl) (wl_gd ((!a) == false) rfl rfl (fun q => r_lss (gvt q) (gvt q)) (wl_gd0 rfl rfl (fun q => r_pand (gvt q) (gvn q) evc) (wl_ok (r_por rfl rfl evc) (wl_ok (r_assign (v := (.bool (((!a) || (decide ((0 : Int) ≤ b) && decide ((b : Int) < z0_0)))))) rfl) (wl_nil (then_normal (wc_ret (fin1 (v := (.bool (((!a) || (decide ((0 : Int) ≤ b) && decide ((b : Int) < z0_0)))))) Tryz.results81 rfl ?_))))))))))))))))))))))
 obtain rfl := hs
 exact ⟨h.grown, rfl⟩
def code_check_b8 (d : Int) (x20 : Int) (s : Unit) (nx22 : Unit → Option Int) : Option Int :=
  bif (!(decide ((0 : Int) ≤ x20) && decide ((x20 : Int) < d))) then some 3 else nx22 ()
def code_check_k9 (s : Unit) : Option Int :=
  some 0
def code_check_j5 (x9 : Bool) (a : Ins) (b : Int) (y12 : Int) (c : List Proc) (y13 : Int) (x10 : Int) (d : Int) (y14 : Int) : Option Int :=
  bif (!x9) then some 3 else bif (((decide ((a.a : Int) ≠ y14) || decide ((a.b : Int) ≠ y12)) || decide ((a.c : Int) ≠ y13)) || decide (((a.args.length : Int) : Int) ≠ x10)) then some 4 else bif decide ((a.op : Int) = 7) then each (code_check_b8 d) code_check_k9 a.args () else some 0
def code_check_j4 (a : Ins) (b : Int) (c : List Proc) (d : Int) (x9 : Bool) (x10 : Int) (y11 : Int) (y12 : Int) (y13 : Int) : Option Int :=
  bif decide ((a.op : Int) = 12) then code_check_j5 x9 a b y12 c y13 x10 d 0 else code_check_j5 x9 a b y12 c y13 x10 d y11
def code_check_j12 (a : Ins) (b : Int) (c : List Proc) (d : Int) (x63 : Bool) : Option Int :=
  bif x63 then code_check_j4 a b c d ((code_uses a.op).2.2.2) 0 a.a 0 0 else bif decide ((a.op : Int) = 10) then code_check_j4 a b c d ((code_uses a.op).2.2.2) 0 0 0 0 else code_check_j4 a b c d ((code_uses a.op).2.2.2) 0 a.a a.b 0
def code_check_j11 (a : Ins) (b : Int) (c : List Proc) (d : Int) (e : Int) (x50 : Bool) : Option Int :=
  bif x50 then code_check_j4 a b c d (decide ((0 : Int) ≤ a.b) && decide ((a.b : Int) < e)) 0 a.a a.b 0 else bif decide ((a.op : Int) = 7) then bif (decide ((a.b : Int) < 0) || decide (((c.length : Int) : Int) ≤ a.b)) then some 5 else (idx c a.b).bind fun x54 => code_check_j4 a b c d ((code_uses a.op).2.2.2) x54.params a.a a.b 0 else bif decide ((a.op : Int) = 8) then code_check_j12 a b c d (decide ((a.op : Int) = 8)) else bif decide ((a.op : Int) = 9) then code_check_j12 a b c d (decide ((a.op : Int) = 9)) else code_check_j12 a b c d (decide ((a.op : Int) = 11))
def code_check_j10 (a : Ins) (b : Int) (c : List Proc) (d : Int) (e : Int) (x34 : Bool) : Option Int :=
  bif x34 then code_check_j4 a b c d (decide ((0 : Int) ≤ a.c) && decide ((a.c : Int) < 4)) 0 a.a a.b a.c else bif decide ((a.op : Int) = 3) then bif decide (((a.args.length : Int) : Int) = 1) then (idx a.args 0).bind fun x38 => code_check_j4 a b c d (decide ((1 : Int) ≤ x38) && decide ((x38 : Int) ≤ 5)) 1 a.a a.b a.c else code_check_j4 a b c d false 1 a.a a.b a.c else bif decide ((a.op : Int) = 12) then code_check_j11 a b c d e (decide ((a.op : Int) = 12)) else code_check_j11 a b c d e (decide ((a.op : Int) = 13))
def code_check (a : Ins) (b : Int) (c : List Proc) (d : Int) (e : Int) : Option Int :=
  bif (!(code_uses a.op).2.2.2) then some 4 else bif (((!((!(code_uses a.op).1) || (decide ((0 : Int) ≤ a.a) && decide ((a.a : Int) < d)))) || (!(code_check_1_ ((code_uses a.op).2.1) a.b d))) || (!(code_check_1_ ((code_uses a.op).2.2.1) a.c d))) then some 3 else bif decide ((a.op : Int) = 1) then code_check_j4 a b c d (decide ((-1000000000 : Int) ≤ a.b) && decide ((a.b : Int) ≤ 1000000000)) 0 a.a a.b 0 else bif decide ((a.op : Int) = 5) then code_check_j4 a b c d (decide ((1 : Int) ≤ a.b) && decide ((a.b : Int) ≤ 4)) 0 a.a a.b 0 else bif decide ((a.op : Int) = 4) then code_check_j10 a b c d e (decide ((a.op : Int) = 4)) else code_check_j10 a b c d e (decide ((a.op : Int) = 6))
theorem code_check_c (w0 : World) (M : BS) (hM : ∀ b, M b → b < w0.heap.size) (a : Ins) (va4 : Value) (ha4 : Rd2 rInt w0 BE M va4 a.args) (b : Int) (vc : Value) (c : List Proc) (hc : Rd2 rProc w0 BE M vc c) (d : Int) (e : Int) (r : Int) (hs : code_check a b c d e = some r) :
    Calls Tryz.prog 47 #[(.agg #[(.int .i64 (a.op)), (.int .i64 (a.a)), (.int .i64 (a.b)), (.int .i64 (a.c)), va4]), (.int .i64 (b)), vc, (.int .i64 (d)), (.int .i64 (e))] w0 (fun e w' => Grow w0 w' ∧ e = .returned (.int .i64 r)) := by
 refine calls_start (args := [(.agg #[(.int .i64 (a.op)), (.int .i64 (a.a)), (.int .i64 (a.b)), (.int .i64 (a.c)), va4]), (.int .i64 (b)), vc, (.int .i64 (d)), (.int .i64 (e))]) Tryz.func47 rfl Tryz.ntmps47 (Nat.le_of_ble_eq_true rfl) ?_
 have h := SH.init hM
 replace h := h.argSr 1 ha4 none_own
 replace h := h.argSr 2 hc (hupd_own_sr none_own)
 have hl_c := hc.len_le
 refine wc_seq (wc_region (w_box (cs := [(.int .i64 (a.op)), (.int .i64 (a.a)), (.int .i64 (a.b)), (.int .i64 (a.c)), va4]) h 3 rfl rfl fun w b1 h => w_box (cs := [(.int .i64 (d))]) h 4 rfl rfl fun w b2 h => wl_ok (r_assign (v := (.int .i64 (0))) rfl) (wl_nil (then_normal (wc_seq (wc_region (wl_ok (r_fieldAddr Fld90x0 rfl) (wl_ok (r_ldB h 3 rfl One3 rfl rfl) (w_call fnOk80 rfl rfl (code_uses_c _ _ h.lt a.op _ rfl) ?_)))))))))
 rintro _ w ⟨k3, rfl⟩
 refine ⟨_, rfl, ?_⟩
 replace h := h.grow k3
 refine wl_ok (r_move (v := (.tuple #[(.bool ((code_uses a.op).1)), (.bool ((code_uses a.op).2.1)), (.bool ((code_uses a.op).2.2.1)), (.bool ((code_uses a.op).2.2.2))])) rfl) (wl_ok (r_extract rfl rfl) (wl_ok (r_extract rfl rfl) (wl_ok (r_extract rfl rfl) (wl_ok (r_extract rfl rfl) (wl_ok (r_assign (v := (.bool ((code_uses a.op).1))) rfl) (wl_ok (r_assign (v := (.bool ((code_uses a.op).2.1))) rfl) (wl_ok (r_assign (v := (.bool ((code_uses a.op).2.2.1))) rfl) (wl_ok (r_assign (v := (.bool ((code_uses a.op).2.2.2))) rfl) (wl_nil (then_normal (wc_seq (wc_seq (wc_region (wl_ok (r_move (v := (.bool ((code_uses a.op).2.2.2))) rfl) (wl_ok (r_notb rfl) (wl_nil (then_normal (wc_ifb hs rfl (fun c4 hs => ?_) (fun c4 hs => ?_)))))))))))))))))))
 ·
  refine wc_seq (wc_region (wl_ok (r_assign (v := (.int .i64 (4))) rfl) (wl_nil (then_normal (wc_ret (then_ret (fin1 (v := (.int .i64 (4))) Tryz.results47 rfl ?_)))))))
  obtain rfl := Option.some.inj hs
  exact ⟨h.grown, rfl⟩
 ·
  refine wc_skip (then_normal (wc_seq (wc_region (wl_ok (r_makeFunc (c1 := []) (c2 := [(.pointer (some ⟨b2, 0, none⟩))]) rfl rfl) (wl_ok (r_assign (v := (.func (.func 81) #[] #[(.pointer (some ⟨b2, 0, none⟩))])) rfl) (wl_nil (then_normal (wc_seq (wc_seq (wc_region (wl_ok (r_move (v := (.func (.func 81) #[] #[(.pointer (some ⟨b2, 0, none⟩))])) rfl) (wl_ok (r_move (v := (.bool ((code_uses a.op).1))) rfl) (wl_ok (r_fieldAddr Fld90x1 rfl) (wl_ok (r_ldB h 3 rfl One3 rfl rfl) (w_callIn (args := [(.bool ((code_uses a.op).1)), (.int .i64 (a.a)), (.pointer (some ⟨b2, 0, none⟩))]) fnOk81 rfl rfl (calls_start (args := [(.bool ((code_uses a.op).1)), (.int .i64 (a.a)), (.pointer (some ⟨b2, 0, none⟩))]) Tryz.func81 rfl Tryz.ntmps81 (Nat.le_of_ble_eq_true rfl) (wc_seq (wc_region (wl_ok (r_assign (v := (.bool (false))) rfl) (wl_nil (then_normal (wc_seq (wc_region ?_)))))))))))))))))))))))
  refine wl_ok (r_move (v := (.bool ((code_uses a.op).1))) rfl) (wl_ok (r_notb rfl) (wl_ok (r_move (v := (.bool ((!(code_uses a.op).1)))) rfl) (wl_gd0 rfl rfl (fun q => r_move (v := (.int .i64 (a.a))) rfl) (wl_gd0 rfl rfl (fun q => r_geq (gvt q) rfl) (wl_gd0 rfl rfl (fun q => r_move (v := (.bool (decide ((0 : Int) ≤ a.a)))) (gvt q)) (wl_gd ((!(code_uses a.op).1) == false) rfl rfl (fun q => r_move (v := (.int .i64 (a.a))) rfl) (wl_gd ((!(code_uses a.op).1) == false) rfl rfl (fun q => r_ldB h 4 rfl One3 rfl rfl) (wl_gd ((!(code_uses a.op).1) == false) rfl rfl (fun q => r_lss (gvt q) (gvt q)) (wl_gd0 rfl rfl (fun q => r_pand (gvt q) (gvn q) evc) (wl_ok (r_por rfl rfl evc) (wl_ok (r_assign (v := (.bool (((!(code_uses a.op).1) || (decide ((0 : Int) ≤ a.a) && decide ((a.a : Int) < d)))))) rfl) (wl_nil (then_normal (wc_ret (fin1 (v := (.bool (((!(code_uses a.op).1) || (decide ((0 : Int) ≤ a.a) && decide ((a.a : Int) < d)))))) Tryz.results81 rfl (⟨_, rfl, ?_⟩))))))))))))))))
  refine wl_ok (r_notb rfl) (wl_ok (r_move (v := (.bool ((!((!(code_uses a.op).1) || (decide ((0 : Int) ≤ a.a) && decide ((a.a : Int) < d))))))) rfl) (wl_gd0 rfl rfl (fun q => r_move (v := (.func (.func 81) #[] #[(.pointer (some ⟨b2, 0, none⟩))])) rfl) (wl_gd0 rfl rfl (fun q => r_move (v := (.bool ((code_uses a.op).2.1))) rfl) (wl_gd0 rfl rfl (fun q => r_fieldAddr Fld90x2 rfl) (wl_gd0 rfl rfl (fun q => r_ldB h 3 rfl One3 (gvt q) rfl) (w_callH0 [(.pointer (some ⟨b2, 0, none⟩))] rfl rfl fnOk81 (fun q => (gvt q)) (fun q => la_cons (gvt q) (la_cons (gvt q) rfl)) (code_check_1__c _ _ h.lt ((code_uses a.op).2.1) a.b d b2 (h.blkAt 4 rfl) _ rfl) fun w k5 => ?_))))))
  replace h := h.grow k5
  refine wl_gd0 rfl rfl (fun q => r_notb (gvt q)) (wl_ok (r_por rfl rfl evc) (wl_ok (r_move (v := (.bool (((!((!(code_uses a.op).1) || (decide ((0 : Int) ≤ a.a) && decide ((a.a : Int) < d)))) || (!(code_check_1_ ((code_uses a.op).2.1) a.b d)))))) rfl) (wl_gd0 rfl rfl (fun q => r_move (v := (.func (.func 81) #[] #[(.pointer (some ⟨b2, 0, none⟩))])) rfl) (wl_gd0 rfl rfl (fun q => r_move (v := (.bool ((code_uses a.op).2.2.1))) rfl) (wl_gd0 rfl rfl (fun q => r_fieldAddr Fld90x3 rfl) (wl_gd0 rfl rfl (fun q => r_ldB h 3 rfl One3 (gvt q) rfl) (w_callH0 [(.pointer (some ⟨b2, 0, none⟩))] rfl rfl fnOk81 (fun q => (gvt q)) (fun q => la_cons (gvt q) (la_cons (gvt q) rfl)) (code_check_1__c _ _ h.lt ((code_uses a.op).2.2.1) a.c d b2 (h.blkAt 4 rfl) _ rfl) fun w k6 => ?_)))))))
  replace h := h.grow k6
  refine wl_gd0 rfl rfl (fun q => r_notb (gvt q)) (wl_ok (r_por rfl rfl evc) (wl_nil (then_normal (wc_ifb hs rfl (fun c7 hs => ?_) (fun c7 hs => ?_)))))
  ·
   refine wc_seq (wc_region (wl_ok (r_assign (v := (.int .i64 (3))) rfl) (wl_nil (then_normal (wc_ret (then_ret (fin1 (v := (.int .i64 (3))) Tryz.results47 rfl ?_)))))))
   obtain rfl := Option.some.inj hs
   exact ⟨h.grown, rfl⟩
  ·
   refine wc_skip (then_normal (wc_seq (wc_region (wl_ok (r_fieldAddr Fld90x3 rfl) (wl_ok (r_ldB h 3 rfl One3 rfl rfl) (wl_ok (r_geq rfl rfl) (wl_ok (r_move (v := (.bool (decide ((0 : Int) ≤ a.c)))) rfl) (wl_gd0 rfl rfl (fun q => r_fieldAddr Fld90x3 rfl) (wl_gd0 rfl rfl (fun q => r_ldB h 3 rfl One3 (gvt q) rfl) (wl_gd0 rfl rfl (fun q => r_lss (gvt q) rfl) (wl_ok (r_pand rfl rfl evc) (wl_ok (r_assign (v := (.bool ((decide ((0 : Int) ≤ a.c) && decide ((a.c : Int) < 4))))) rfl) (wl_nil (then_normal (wc_seq (wc_region (wl_ok (r_assign (v := (.int .i64 (0))) rfl) (wl_nil (then_normal (wc_seq (wc_region (wl_ok (r_fieldAddr Fld90x0 rfl) (wl_ok (r_ldB h 3 rfl One3 rfl rfl) ?_)))))))))))))))))))))))
   refine wl_ok (r_fieldAddr Fld90x1 rfl) (wl_ok (r_ldB h 3 rfl One3 rfl rfl) (wl_ok (r_fieldAddr Fld90x2 rfl) (wl_ok (r_ldB h 3 rfl One3 rfl rfl) (wl_ok (r_build (pv := [(0, (.int .i64 (a.op))), (1, (.int .i64 (a.a))), (2, (.int .i64 (a.b)))]) (out := [(.int .i64 (a.op)), (.int .i64 (a.a)), (.int .i64 (a.b)), (.int .i64 (0)), (.slice none 0 0)]) Struct90 rfl ⟨0, 1, [(.int .i64 (a.op))], rfl, rfl, rfl, Nat.le_of_ble_eq_true rfl, ⟨1, 1, [(.int .i64 (a.a))], rfl, rfl, rfl, Nat.le_of_ble_eq_true rfl, ⟨2, 1, [(.int .i64 (a.b))], rfl, rfl, rfl, Nat.le_of_ble_eq_true rfl, rfl⟩⟩⟩) (w_allocN h 5 Many90 fun w b8 h => w_stN (vs := [(.int .i64 (a.op)), (.int .i64 (a.a)), (.int .i64 (a.b)), (.int .i64 (0)), (.slice none 0 0)]) h 5 [(.int .i64 (a.op)), (.int .i64 (a.a)), (.int .i64 (a.b)), (.int .i64 (0)), (.slice none 0 0)] rfl Many90 rfl rfl rfl rfl rfl (ones_cons rfl (ones_cons rfl (ones_cons rfl (ones_cons rfl (ones_cons rfl ones_nil))))) fun w h => wl_nil (then_normal (wc_join (σ := Bool × Int × Int × Int × Int) (inl [10, 14, 17, 69, 70, 71, 72, 73, 74, 75, 76, 77, 78, 79, 80, 81, 82, 83, 84, 85, 86, 87, 88, 89, 90, 91, 92, 93, 94, 95, 96, 97, 98, 99, 100, 101, 102, 103, 104, 105, 106, 107, 108, 109, 110, 111, 112, 113, 114, 115, 116, 117, 118, 119, 120, 121, 122, 123, 124, 125, 126, 127, 128, 129, 130, 131, 132, 133, 134, 135, 136, 137, 138, 139, 140, 141, 142, 143, 144, 145, 146, 147, 148, 149, 150, 151, 152, 153, 154, 155, 156, 157, 158, 159]) (fun ⟨x9, x10, y11, y12, y13⟩ => [(14, (.bool (x9))), (17, (.int .i64 (x10)))]) (fun ⟨x9, x10, y11, y12, y13⟩ w => SH w0 M BE w (hset [(1, .sr rInt va4 a.args), (3, .blk b1 [(.int .i64 (a.op)), (.int .i64 (a.a)), (.int .i64 (a.b)), (.int .i64 (a.c)), va4]), (4, .blk b2 [(.int .i64 (d))]), (5, .blk b8 [(.int .i64 (a.op)), (.int .i64 (y11)), (.int .i64 (y12)), (.int .i64 (y13)), (.slice none 0 0)])]) ∧ code_check_j4 a b c d x9 x10 y11 y12 y13 = some r) ?_ ?_)))))))
   ·
    rintro ⟨x9, x10, y11, y12, y13⟩ w junk ⟨h, hs⟩
    refine wc_join (σ := Int) (inl [160, 161, 162, 163]) (fun y14 => []) (fun y14 w => SH w0 M BE w (hset [(1, .sr rInt va4 a.args), (3, .blk b1 [(.int .i64 (a.op)), (.int .i64 (a.a)), (.int .i64 (a.b)), (.int .i64 (a.c)), va4]), (4, .blk b2 [(.int .i64 (d))]), (5, .blk b8 [(.int .i64 (a.op)), (.int .i64 (y14)), (.int .i64 (y12)), (.int .i64 (y13)), (.slice none 0 0)])]) ∧ code_check_j5 x9 a b y12 c y13 x10 d y14 = some r) ?_ ?_
    ·
     rintro y14 w junk ⟨h, hs⟩
     refine wc_seq (wc_seq (wc_region (wl_ok (r_move (v := (.bool (x9))) rfl) (wl_ok (r_notb rfl) (wl_nil (then_normal (wc_ifb hs rfl (fun c15 hs => ?_) (fun c15 hs => ?_))))))))
     ·
      refine wc_seq (wc_region (wl_ok (r_assign (v := (.int .i64 (3))) rfl) (wl_nil (then_normal (wc_ret (then_ret (fin1 (v := (.int .i64 (3))) Tryz.results47 rfl ?_)))))))
      obtain rfl := Option.some.inj hs
      exact ⟨h.grown, rfl⟩
     ·
      refine wc_skip (then_normal (wc_seq (wc_seq (wc_region (wl_ok (r_fieldAddr Fld90x1 rfl) (wl_ok (r_ldB h 3 rfl One3 rfl rfl) (wl_ok (r_fieldAddr Fld90x1 rfl) (wl_ok (r_ldB h 5 rfl One3 rfl rfl) (wl_ok (r_neq rfl rfl) (wl_ok (r_move (v := (.bool (decide ((a.a : Int) ≠ y14)))) rfl) (wl_gd0 rfl rfl (fun q => r_fieldAddr Fld90x2 rfl) (wl_gd0 rfl rfl (fun q => r_ldB h 3 rfl One3 (gvt q) rfl) (wl_gd0 rfl rfl (fun q => r_fieldAddr Fld90x2 rfl) (wl_gd0 rfl rfl (fun q => r_ldB h 5 rfl One3 (gvt q) rfl) (wl_gd0 rfl rfl (fun q => r_neq (gvt q) (gvt q)) (wl_ok (r_por rfl rfl evc) (wl_ok (r_move (v := (.bool ((decide ((a.a : Int) ≠ y14) || decide ((a.b : Int) ≠ y12))))) rfl) (wl_gd0 rfl rfl (fun q => r_fieldAddr Fld90x3 rfl) (wl_gd0 rfl rfl (fun q => r_ldB h 3 rfl One3 (gvt q) rfl) (wl_gd0 rfl rfl (fun q => r_fieldAddr Fld90x3 rfl) (wl_gd0 rfl rfl (fun q => r_ldB h 5 rfl One3 (gvt q) rfl) (wl_gd0 rfl rfl (fun q => r_neq (gvt q) (gvt q)) (wl_ok (r_por rfl rfl evc) ?_)))))))))))))))))))))))
      refine wl_ok (r_move (v := (.bool (((decide ((a.a : Int) ≠ y14) || decide ((a.b : Int) ≠ y12)) || decide ((a.c : Int) ≠ y13))))) rfl) (wl_gd0 rfl rfl (fun q => r_fieldAddr Fld90x4 rfl) (wl_gd0 rfl rfl (fun q => r_ldB h 3 rfl One51 (gvt q) rfl) (wl_gd0 rfl rfl (fun q => r_len SliceOf51 (gvt q) (h.srS 1 rfl)) (wl_gd0 rfl rfl (fun q => r_move (v := (.int .i64 (x10))) rfl) (wl_gd0 rfl rfl (fun q => r_neq (gvt q) (gvt q)) (wl_ok (r_por rfl rfl evc) (wl_nil (then_normal (wc_ifb hs rfl (fun c16 hs => ?_) (fun c16 hs => ?_))))))))))
      ·
       refine wc_seq (wc_region (wl_ok (r_assign (v := (.int .i64 (4))) rfl) (wl_nil (then_normal (wc_ret (then_ret (fin1 (v := (.int .i64 (4))) Tryz.results47 rfl ?_)))))))
       obtain rfl := Option.some.inj hs
       exact ⟨h.grown, rfl⟩
      ·
       refine wc_skip (then_normal (wc_seq (wc_seq (wc_region (wl_ok (r_fieldAddr Fld90x0 rfl) (wl_ok (r_ldB h 3 rfl One3 rfl rfl) (wl_ok (r_eql rfl rfl) (wl_nil (then_normal (wc_ifb hs rfl (fun c17 hs => ?_) (fun c17 hs => ?_)))))))))))
       ·
        refine wc_seq (wc_region (wl_ok (r_fieldAddr Fld90x4 rfl) (wl_ok (r_ldB h 3 rfl One51 rfl rfl) (wl_ok (r_len SliceOf51 rfl (h.srS 1 rfl)) (wl_ok (r_move (v := (.int .i64 (0))) rfl) (wl_nil (then_normal (wc_block (wc_lp (σ := Nat × Int) (inl [10, 20, 198, 199, 200, 201, 202, 203, 204, 205, 206]) (fun ⟨k18, i19⟩ => [(198, (.int .i64 (i19)))]) (fun ⟨k18, i19⟩ w => SH w0 M BE w (hset [(1, .sr rInt va4 a.args), (4, .blk b2 [(.int .i64 (d))])]) ∧ i19 = (k18 : Int) ∧ each (code_check_b8 d) code_check_k9 (a.args.drop k18) () = some r) (fun ⟨k18, i19⟩ => a.args.length - k18) ⟨0, 0⟩ ⟨rfl, trivial⟩ ?_ ?_)))))))))
        ·
         exact ⟨h.cn _, rfl, hs⟩
        ·
         rintro ⟨k18, i19⟩ w junk ⟨h, hik, hs⟩
         refine wc_seq (wc_region ?_)
         refine wl_ok (r_lss rfl rfl) (wl_nil (then_normal ?_))
         refine wc_seq (wc_if rfl (fun e23 => ?_) (fun e23 => ?_))
         ·
          refine wc_skip (then_normal ?_)
          obtain ⟨x20, e24a, e24b⟩ := drop_lt (hik ▸ e23)
          rw [e24b, each_cons] at hs
          generalize hnx22 : each (code_check_b8 d) code_check_k9 (a.args.drop (k18 + 1)) = nx22 at hs
          have e24r := nat_rng ((h.srS 1 rfl)).len_le hik e23
          refine wc_seq (wc_block (wc_seq (wc_region ?_)))
          obtain ⟨b26, o27, cs28, h, r29, i25⟩ := h.ixS 1 6 rfl SliceOf51 rfl (nat_nn hik) (get_nat hik e24a)
          obtain rfl := r29
          refine wl_ok (i25 _ _ _ _ _ _ _ _ _ rfl rfl) (wl_ok (r_ldP (k := 0) h 6 rfl One3 rfl rfl) (wl_ok (r_assign (v := (.int .i64 (x20))) rfl) (wl_nil (then_normal (wc_seq (wc_region (wl_ok (r_move (v := (.func (.func 81) #[] #[(.pointer (some ⟨b2, 0, none⟩))])) rfl) (wl_ok (r_move (v := (.int .i64 (x20))) rfl) (w_callIn (args := [(.bool (true)), (.int .i64 (x20)), (.pointer (some ⟨b2, 0, none⟩))]) fnOk81 rfl rfl (calls_start (args := [(.bool (true)), (.int .i64 (x20)), (.pointer (some ⟨b2, 0, none⟩))]) Tryz.func81 rfl Tryz.ntmps81 (Nat.le_of_ble_eq_true rfl) (wc_seq (wc_region (wl_ok (r_assign (v := (.bool (false))) rfl) (wl_nil (then_normal (wc_seq (wc_region (wl_ok (r_move (v := (.bool (true))) rfl) (wl_ok (r_notb rfl) (wl_ok (r_move (v := (.bool (false))) rfl) (wl_on rfl rfl (wl_ok (r_move (v := (.int .i64 (x20))) rfl) (wl_on rfl rfl ?_)))))))))))))))))))))))
          refine wl_ok (r_geq rfl rfl) (wl_on rfl rfl (wl_ok (r_move (v := (.bool (decide ((0 : Int) ≤ x20)))) rfl) (wl_gd0 rfl rfl (fun q => r_move (v := (.int .i64 (x20))) rfl) (wl_gd0 rfl rfl (fun q => r_ldB h 4 rfl One3 rfl rfl) (wl_gd0 rfl rfl (fun q => r_lss (gvt q) (gvt q)) (wl_on rfl rfl (wl_ok (r_pand rfl rfl evc) (wl_ok (r_pick (b := false) (v := (.bool ((decide ((0 : Int) ≤ x20) && decide ((x20 : Int) < d))))) rfl rfl) (wl_ok (r_assign (v := (.bool ((decide ((0 : Int) ≤ x20) && decide ((x20 : Int) < d))))) rfl) (wl_nil (then_normal (wc_ret (fin1 (v := (.bool ((decide ((0 : Int) ≤ x20) && decide ((x20 : Int) < d))))) Tryz.results81 rfl (⟨_, rfl, ?_⟩))))))))))))))
          refine wl_ok (r_notb rfl) (wl_nil (then_normal (wc_ifb hs rfl (fun c30 hs => ?_) (fun c30 hs => ?_))))
          ·
           refine wc_seq (wc_region (wl_ok (r_assign (v := (.int .i64 (3))) rfl) (wl_nil (then_normal (wc_ret (inBlock_ret (then_ret (then_ret (inBlock_ret (then_ret (fin1 (v := (.int .i64 (3))) Tryz.results47 rfl ?_)))))))))))
           obtain rfl := Option.some.inj hs
           exact ⟨h.grown, rfl⟩
          ·
           refine wc_skip (inBlock_normal (then_normal (wc_region (wl_ok (r_add rfl rfl e24r) (wl_ok (r_move (v := (.int .i64 ((i19 + 1)))) rfl) (wl_nil (then_loop ?_)))))))
           subst hnx22
           exact lend ⟨k18 + 1, i19 + 1⟩ ⟨h.cn _, by omega, hs⟩ (by have := of_decide_eq_true e23; dsimp only; omega)
         ·
          rw [drop_ge (hik ▸ e23), each_nil] at hs
          refine wc_exit (then_exit (then_exit (inBlock_eq (then_normal (wc_seq (wc_region (wl_ok (r_assign (v := (.int .i64 (0))) rfl) (wl_nil (then_normal (wc_ret (fin1 (v := (.int .i64 (0))) Tryz.results47 rfl ?_)))))))))))
          obtain rfl := Option.some.inj hs
          exact ⟨h.grown, rfl⟩
       ·
        refine wc_skip (then_normal (wc_seq (wc_region (wl_ok (r_assign (v := (.int .i64 (0))) rfl) (wl_nil (then_normal (wc_ret (fin1 (v := (.int .i64 (0))) Tryz.results47 rfl ?_))))))))
        obtain rfl := Option.some.inj hs
        exact ⟨h.grown, rfl⟩
    ·
     refine wc_seq (wc_region (wl_ok (r_fieldAddr Fld90x0 rfl) (wl_ok (r_ldB h 3 rfl One3 rfl rfl) (wl_ok (r_eql rfl rfl) (wl_nil (then_normal (wc_ifb hs rfl (fun c31 hs => ?_) (fun c31 hs => ?_))))))))
     ·
      refine wc_region (wl_ok (r_fieldAddr Fld90x1 rfl) (w_st1 h 5 [(.int .i64 (a.op)), (.int .i64 (0)), (.int .i64 (y12)), (.int .i64 (y13)), (.slice none 0 0)] rfl One3 rfl rfl rfl rfl rfl fun w h => wl_nil (then_loop ?_)))
      exact jend 0 ⟨h.cn _, hs⟩
     ·
      refine wc_skip (then_loop ?_)
      exact jend y11 ⟨h.cn _, hs⟩
   ·
    refine wc_seq (wc_region (wl_ok (r_fieldAddr Fld90x0 rfl) (wl_ok (r_ldB h 3 rfl One3 rfl rfl) (wl_nil (then_normal (wc_block (wc_seq (wc_region (wl_ok (r_eql rfl rfl) (wl_ok (r_assign (v := (.bool (decide ((a.op : Int) = 1)))) rfl) (wl_nil (then_normal (wc_ifb hs rfl (fun c32 hs => ?_) (fun c32 hs => ?_))))))))))))))
    ·
     refine wc_region (wl_ok (r_fieldAddr Fld90x2 rfl) (wl_ok (r_ldB h 3 rfl One3 rfl rfl) (wl_ok (r_geq rfl rfl) (wl_ok (r_move (v := (.bool (decide ((-1000000000 : Int) ≤ a.b)))) rfl) (wl_gd0 rfl rfl (fun q => r_fieldAddr Fld90x2 rfl) (wl_gd0 rfl rfl (fun q => r_ldB h 3 rfl One3 (gvt q) rfl) (wl_gd0 rfl rfl (fun q => r_leq (gvt q) rfl) (wl_ok (r_pand rfl rfl evc) (wl_ok (r_assign (v := (.bool ((decide ((-1000000000 : Int) ≤ a.b) && decide ((a.b : Int) ≤ 1000000000))))) rfl) (wl_nil (inBlock_normal (then_loop ?_))))))))))))
     exact jend ((decide ((-1000000000 : Int) ≤ a.b) && decide ((a.b : Int) ≤ 1000000000)), 0, a.a, a.b, 0) ⟨h.cn _, hs⟩
    ·
     refine wc_seq (wc_region (wl_ok (r_eql rfl rfl) (wl_ok (r_assign (v := (.bool (decide ((a.op : Int) = 5)))) rfl) (wl_nil (then_normal (wc_ifb hs rfl (fun c33 hs => ?_) (fun c33 hs => ?_)))))))
     ·
      refine wc_region (wl_ok (r_fieldAddr Fld90x2 rfl) (wl_ok (r_ldB h 3 rfl One3 rfl rfl) (wl_ok (r_geq rfl rfl) (wl_ok (r_move (v := (.bool (decide ((1 : Int) ≤ a.b)))) rfl) (wl_gd0 rfl rfl (fun q => r_fieldAddr Fld90x2 rfl) (wl_gd0 rfl rfl (fun q => r_ldB h 3 rfl One3 (gvt q) rfl) (wl_gd0 rfl rfl (fun q => r_leq (gvt q) rfl) (wl_ok (r_pand rfl rfl evc) (wl_ok (r_assign (v := (.bool ((decide ((1 : Int) ≤ a.b) && decide ((a.b : Int) ≤ 4))))) rfl) (wl_nil (inBlock_normal (then_loop ?_))))))))))))
      exact jend ((decide ((1 : Int) ≤ a.b) && decide ((a.b : Int) ≤ 4)), 0, a.a, a.b, 0) ⟨h.cn _, hs⟩
     ·
      refine wc_join (σ := Bool) (inl [91, 92, 93]) (fun x34 => [(91, (.bool (x34)))]) (fun x34 w => SH w0 M BE w (hset [(1, .sr rInt va4 a.args), (2, .sr rProc vc c), (3, .blk b1 [(.int .i64 (a.op)), (.int .i64 (a.a)), (.int .i64 (a.b)), (.int .i64 (a.c)), va4]), (4, .blk b2 [(.int .i64 (d))]), (5, .blk b8 [(.int .i64 (a.op)), (.int .i64 (a.a)), (.int .i64 (a.b)), (.int .i64 (0)), (.slice none 0 0)])]) ∧ code_check_j10 a b c d e x34 = some r) ?_ ?_
      ·
       rintro x34 w junk ⟨h, hs⟩
       refine wc_ifb hs rfl (fun c35 hs => ?_) (fun c35 hs => ?_)
       ·
        refine wc_tail 5 mixed (by kernel_rfl) h fun w h => wk_ok (r_move (v := (.bool ((decide ((0 : Int) ≤ a.c) && decide ((a.c : Int) < 4))))) rfl) (wk_ok (r_fieldAddr Fld90x3 rfl) (wk_ok (r_ldB h 3 rfl One3 rfl rfl) (wk_ok (r_assign (v := (.bool ((decide ((0 : Int) ≤ a.c) && decide ((a.c : Int) < 4))))) rfl) (wk_ok (r_fieldAddr Fld90x3 rfl) (wk_go (w_st1 h 5 [(.int .i64 (a.op)), (.int .i64 (a.a)), (.int .i64 (a.b)), (.int .i64 (a.c)), (.slice none 0 0)] rfl One3 rfl rfl rfl rfl rfl fun w h => wl_nil (inBlock_normal (then_loop ?_))))))))
        exact jend ((decide ((0 : Int) ≤ a.c) && decide ((a.c : Int) < 4)), 0, a.a, a.b, a.c) ⟨h.cn _, hs⟩
       ·
        refine wc_seq (wc_region (wl_ok (r_eql rfl rfl) (wl_ok (r_assign (v := (.bool (decide ((a.op : Int) = 3)))) rfl) (wl_nil (then_normal (wc_ifb hs rfl (fun c36 hs => ?_) (fun c36 hs => ?_)))))))
        ·
         refine wc_seq (wc_tail 4 mixed (by kernel_rfl) h fun w h => wk_ok (r_fieldAddr Fld90x3 rfl) (wk_ok (r_ldB h 3 rfl One3 rfl rfl) (wk_ok (r_assign (v := (.int .i64 (1))) rfl) (wk_ok (r_fieldAddr Fld90x3 rfl) (wk_go (w_st1 h 5 [(.int .i64 (a.op)), (.int .i64 (a.a)), (.int .i64 (a.b)), (.int .i64 (a.c)), (.slice none 0 0)] rfl One3 rfl rfl rfl rfl rfl fun w h => wl_nil (then_normal (wc_region (wl_ok (r_fieldAddr Fld90x4 rfl) (wl_ok (r_ldB h 3 rfl One51 rfl rfl) (wl_ok (r_len SliceOf51 rfl (h.srS 1 rfl)) (wl_ok (r_eql rfl rfl) (wl_ok (r_move (v := (.bool (decide (((a.args.length : Int) : Int) = 1)))) rfl) (c_split (b := decide (((a.args.length : Int) : Int) = 1)) hs (fun c37 hs => ?_) (fun c37 hs => ?_)))))))))))))))
         ·
          refine wl_on rfl (congrArg Value.bool c37) (wl_ok (r_fieldAddr Fld90x4 rfl) (wl_on rfl (congrArg Value.bool c37) (wl_ok (r_ldB h 3 rfl One51 rfl rfl) (wl_on rfl (congrArg Value.bool c37) ?_))))
          obtain ⟨x38, e39, hs⟩ := o_bind hs
          obtain ⟨b41, o42, cs43, h, r44, i40⟩ := h.ixS 1 7 rfl SliceOf51 rfl (o_idx e39).1 (o_idx e39).2
          obtain rfl := r44
          refine wl_ok (i40 _ _ _ _ _ _ _ _ _ rfl rfl) (wl_on rfl (congrArg Value.bool c37) (wl_ok (r_ldP (k := 0) h 7 rfl One3 rfl rfl) (wl_on rfl (congrArg Value.bool c37) (wl_ok (r_geq rfl rfl) (wl_ok (r_pick (b := true) (v := (.bool (decide ((1 : Int) ≤ x38)))) (congrArg Value.bool c37) rfl) (wl_ok (r_move (v := (.bool (decide ((1 : Int) ≤ x38)))) rfl) (wl_gd0 rfl rfl (fun q => r_fieldAddr Fld90x4 rfl) (wl_gd0 rfl rfl (fun q => r_ldB h 3 rfl One51 (gvt q) rfl) ?_))))))))
          obtain ⟨b46, o47, cs48, h, r49, i45⟩ := h.ixS 1 8 rfl SliceOf51 rfl (o_idx e39).1 (o_idx e39).2
          obtain rfl := r49
          refine wl_gd0 rfl rfl (fun q => i45 _ _ _ _ _ _ _ _ _ (gvt q) rfl) (wl_gd0 rfl rfl (fun q => r_ldP (k := 0) h 8 rfl One3 (gvt q) rfl) (wl_gd0 rfl rfl (fun q => r_leq (gvt q) rfl) (wl_ok (r_pand rfl rfl evc) (wl_ok (r_assign (v := (.bool ((decide ((1 : Int) ≤ x38) && decide ((x38 : Int) ≤ 5))))) rfl) (wl_nil (inBlock_normal (then_loop ?_)))))))
          exact jend ((decide ((1 : Int) ≤ x38) && decide ((x38 : Int) ≤ 5)), 1, a.a, a.b, a.c) ⟨h.cn _, hs⟩
         ·
          refine wl_off (b' := false) rfl (congrArg Value.bool c37) rfl (wl_off (b' := false) rfl (congrArg Value.bool c37) rfl (wl_off (b' := false) rfl (congrArg Value.bool c37) rfl (wl_off (b' := false) rfl (congrArg Value.bool c37) rfl (wl_off (b' := false) rfl (congrArg Value.bool c37) rfl (wl_ok (r_pick (b := false) (v := (.bool (false))) (congrArg Value.bool c37) rfl) (wl_ok (r_move (v := (.bool (false))) rfl) (wl_off (b' := false) rfl rfl rfl (wl_off (b' := false) rfl rfl rfl (wl_off (b' := false) rfl rfl rfl (wl_off (b' := false) rfl rfl rfl (wl_off (b' := false) rfl rfl rfl (wl_ok (r_pick (b := false) (v := (.bool (false))) rfl rfl) (wl_ok (r_assign (v := (.bool (false))) rfl) (wl_nil (inBlock_normal (then_loop ?_))))))))))))))))
          exact jend (false, 1, a.a, a.b, a.c) ⟨h.cn _, hs⟩
        ·
         refine wc_join (σ := Bool) (inl [121, 122, 123]) (fun x50 => [(121, (.bool (x50)))]) (fun x50 w => SH w0 M BE w (hset [(1, .sr rInt va4 a.args), (2, .sr rProc vc c), (3, .blk b1 [(.int .i64 (a.op)), (.int .i64 (a.a)), (.int .i64 (a.b)), (.int .i64 (a.c)), va4]), (4, .blk b2 [(.int .i64 (d))]), (5, .blk b8 [(.int .i64 (a.op)), (.int .i64 (a.a)), (.int .i64 (a.b)), (.int .i64 (0)), (.slice none 0 0)])]) ∧ code_check_j11 a b c d e x50 = some r) ?_ ?_
         ·
          rintro x50 w junk ⟨h, hs⟩
          refine wc_ifb hs rfl (fun c51 hs => ?_) (fun c51 hs => ?_)
          ·
           refine wc_region (wl_ok (r_fieldAddr Fld90x2 rfl) (wl_ok (r_ldB h 3 rfl One3 rfl rfl) (wl_ok (r_geq rfl rfl) (wl_ok (r_move (v := (.bool (decide ((0 : Int) ≤ a.b)))) rfl) (wl_gd0 rfl rfl (fun q => r_fieldAddr Fld90x2 rfl) (wl_gd0 rfl rfl (fun q => r_ldB h 3 rfl One3 (gvt q) rfl) (wl_gd0 rfl rfl (fun q => r_move (v := (.int .i64 (e))) rfl) (wl_gd0 rfl rfl (fun q => r_lss (gvt q) (gvt q)) (wl_ok (r_pand rfl rfl evc) (wl_ok (r_assign (v := (.bool ((decide ((0 : Int) ≤ a.b) && decide ((a.b : Int) < e))))) rfl) (wl_nil (inBlock_normal (then_loop ?_)))))))))))))
           exact jend ((decide ((0 : Int) ≤ a.b) && decide ((a.b : Int) < e)), 0, a.a, a.b, 0) ⟨h.cn _, hs⟩
          ·
           refine wc_seq (wc_region (wl_ok (r_eql rfl rfl) (wl_ok (r_assign (v := (.bool (decide ((a.op : Int) = 7)))) rfl) (wl_nil (then_normal (wc_ifb hs rfl (fun c52 hs => ?_) (fun c52 hs => ?_)))))))
           ·
            refine wc_seq (wc_seq (wc_region (wl_ok (r_fieldAddr Fld90x2 rfl) (wl_ok (r_ldB h 3 rfl One3 rfl rfl) (wl_ok (r_lss rfl rfl) (wl_ok (r_move (v := (.bool (decide ((a.b : Int) < 0)))) rfl) (wl_gd0 rfl rfl (fun q => r_fieldAddr Fld90x2 rfl) (wl_gd0 rfl rfl (fun q => r_ldB h 3 rfl One3 (gvt q) rfl) (wl_gd0 rfl rfl (fun q => r_move (v := vc) rfl) (wl_gd0 rfl rfl (fun q => r_len SliceOf33 (gvt q) (h.srS 2 rfl)) (wl_gd0 rfl rfl (fun q => r_geq (gvt q) (gvt q)) (wl_ok (r_por rfl rfl evc) (wl_nil (then_normal (wc_ifb hs rfl (fun c53 hs => ?_) (fun c53 hs => ?_))))))))))))))))
            ·
             refine wc_seq (wc_region (wl_ok (r_assign (v := (.int .i64 (5))) rfl) (wl_nil (then_normal (wc_ret (then_ret (inBlock_ret (then_ret (fin1 (v := (.int .i64 (5))) Tryz.results47 rfl ?_)))))))))
             obtain rfl := Option.some.inj hs
             exact ⟨h.grown, rfl⟩
            ·
             refine wc_skip (then_normal (wc_region (wl_ok (r_move (v := vc) rfl) (wl_ok (r_fieldAddr Fld90x2 rfl) (wl_ok (r_ldB h 3 rfl One3 rfl rfl) ?_)))))
             obtain ⟨x54, e55, hs⟩ := o_bind hs
             obtain ⟨b57, o58, cs59, h, r60, i56⟩ := h.ixS 2 9 rfl SliceOf33 rfl (o_idx e55).1 (o_idx e55).2
             obtain ⟨u61, rfl, g62⟩ := rProc_open r60
             replace h := h.knowRd 10 g62.up
             refine wl_ok (i56 _ _ _ _ _ _ _ _ _ rfl rfl) (wl_ok (r_fieldAddr Fld40x0 rfl) (wl_ok (r_ldP (k := 0) h 9 rfl One3 rfl rfl) (wl_ok (r_assign (v := (.int .i64 (x54.params))) rfl) (wl_nil (inBlock_normal (then_loop ?_))))))
             exact jend ((code_uses a.op).2.2.2, x54.params, a.a, a.b, 0) ⟨h.cn _, hs⟩
           ·
            refine wc_join (σ := Bool) (inl [151, 152, 153, 154]) (fun x63 => [(151, (.bool (x63)))]) (fun x63 w => SH w0 M BE w (hset [(1, .sr rInt va4 a.args), (3, .blk b1 [(.int .i64 (a.op)), (.int .i64 (a.a)), (.int .i64 (a.b)), (.int .i64 (a.c)), va4]), (4, .blk b2 [(.int .i64 (d))]), (5, .blk b8 [(.int .i64 (a.op)), (.int .i64 (a.a)), (.int .i64 (a.b)), (.int .i64 (0)), (.slice none 0 0)])]) ∧ code_check_j12 a b c d x63 = some r) ?_ ?_
            ·
             rintro x63 w junk ⟨h, hs⟩
             refine wc_ifb hs rfl (fun c64 hs => ?_) (fun c64 hs => ?_)
             ·
              refine wc_region (wl_ok (r_fieldAddr Fld90x2 rfl) (w_st1 h 5 [(.int .i64 (a.op)), (.int .i64 (a.a)), (.int .i64 (0)), (.int .i64 (0)), (.slice none 0 0)] rfl One3 rfl rfl rfl rfl rfl fun w h => wl_nil (inBlock_normal (then_loop ?_))))
              exact jend ((code_uses a.op).2.2.2, 0, a.a, 0, 0) ⟨h.cn _, hs⟩
             ·
              refine wc_seq (wc_region (wl_ok (r_eql rfl rfl) (wl_ok (r_assign (v := (.bool (decide ((a.op : Int) = 10)))) rfl) (wl_nil (then_normal (wc_ifb hs rfl (fun c65 hs => ?_) (fun c65 hs => ?_)))))))
              ·
               refine wc_region (wl_ok (r_fieldAddr Fld90x1 rfl) (w_st1 h 5 [(.int .i64 (a.op)), (.int .i64 (0)), (.int .i64 (a.b)), (.int .i64 (0)), (.slice none 0 0)] rfl One3 rfl rfl rfl rfl rfl fun w h => wl_ok (r_fieldAddr Fld90x2 rfl) (w_st1 h 5 [(.int .i64 (a.op)), (.int .i64 (0)), (.int .i64 (0)), (.int .i64 (0)), (.slice none 0 0)] rfl One3 rfl rfl rfl rfl rfl fun w h => wl_nil (inBlock_normal (then_loop ?_)))))
               exact jend ((code_uses a.op).2.2.2, 0, 0, 0, 0) ⟨h.cn _, hs⟩
              ·
               refine wc_skip (inBlock_normal (then_loop ?_))
               exact jend ((code_uses a.op).2.2.2, 0, a.a, a.b, 0) ⟨h.cn _, hs⟩
            ·
             refine wc_seq (wc_region (wl_ok (r_eql rfl rfl) (wl_ok (r_assign (v := (.bool (decide ((a.op : Int) = 8)))) rfl) (wl_nil (then_normal (wc_ifb hs rfl (fun c66 hs => ?_) (fun c66 hs => ?_)))))))
             ·
              refine wc_skip (then_loop ?_)
              exact jend (decide ((a.op : Int) = 8)) ⟨h.cn _, hs⟩
             ·
              refine wc_seq (wc_region (wl_ok (r_eql rfl rfl) (wl_ok (r_assign (v := (.bool (decide ((a.op : Int) = 9)))) rfl) (wl_nil (then_normal (wc_ifb hs rfl (fun c67 hs => ?_) (fun c67 hs => ?_)))))))
              ·
               refine wc_skip (then_loop ?_)
               exact jend (decide ((a.op : Int) = 9)) ⟨h.cn _, hs⟩
              ·
               refine wc_region (wl_ok (r_eql rfl rfl) (wl_ok (r_assign (v := (.bool (decide ((a.op : Int) = 11)))) rfl) (wl_nil (then_loop ?_))))
               exact jend (decide ((a.op : Int) = 11)) ⟨h.cn _, hs⟩
         ·
          refine wc_seq (wc_region (wl_ok (r_eql rfl rfl) (wl_ok (r_assign (v := (.bool (decide ((a.op : Int) = 12)))) rfl) (wl_nil (then_normal (wc_ifb hs rfl (fun c68 hs => ?_) (fun c68 hs => ?_)))))))
          ·
           refine wc_skip (then_loop ?_)
           exact jend (decide ((a.op : Int) = 12)) ⟨h.cn _, hs⟩
          ·
           refine wc_region (wl_ok (r_eql rfl rfl) (wl_ok (r_assign (v := (.bool (decide ((a.op : Int) = 13)))) rfl) (wl_nil (then_loop ?_))))
           exact jend (decide ((a.op : Int) = 13)) ⟨h.cn _, hs⟩
      ·
       refine wc_seq (wc_region (wl_ok (r_eql rfl rfl) (wl_ok (r_assign (v := (.bool (decide ((a.op : Int) = 4)))) rfl) (wl_nil (then_normal (wc_ifb hs rfl (fun c69 hs => ?_) (fun c69 hs => ?_)))))))
       ·
        refine wc_skip (then_loop ?_)
        exact jend (decide ((a.op : Int) = 4)) ⟨h.cn _, hs⟩
       ·
        refine wc_region (wl_ok (r_eql rfl rfl) (wl_ok (r_assign (v := (.bool (decide ((a.op : Int) = 6)))) rfl) (wl_nil (then_loop ?_))))
        exact jend (decide ((a.op : Int) = 6)) ⟨h.cn _, hs⟩
def code_Check_b35 (a : List Proc) (x21 : Proc) (i35 : Int) (x36 : Ins) (s : Unit) (nx38 : Unit → Option Int) : Option Int :=
  (code_check x36 i35 a x21.regs (x21.code.length : Int)).bind fun y49 => bif decide ((y49 : Int) ≠ 0) then some y49 else nx38 ()
def code_Check_k36 (x21 : Proc) (nx23 : Unit → Option Int) (s : Unit) : Option Int :=
  grd (I64 ((x21.code.length : Int) - 1)) ((idx x21.code ((x21.code.length : Int) - 1)).bind fun x54 => bif (decide ((x54.op : Int) ≠ 8) && decide ((x54.op : Int) ≠ 12)) then some 4 else nx23 ())
def code_Check_b37 (a : List Proc) (x21 : Proc) (s : Unit) (nx23 : Unit → Option Int) : Option Int :=
  eachI (code_Check_b35 a x21) (code_Check_k36 x21 nx23) 0 x21.code ()
def code_Check_k38 (s : Unit) : Option Int :=
  some 0
def code_Check_b39 (i3 : Int) (x4 : Proc) (s : Unit) (nx6 : Unit → Option Int) : Option Int :=
  bif (((((decide ((x4.params : Int) < 0) || decide ((3 : Int) < x4.params)) || decide ((x4.regs : Int) < 1)) || decide ((x4.regs : Int) < x4.params)) || decide ((40 : Int) < x4.regs)) || (decide ((i3 : Int) = 0) && decide ((0 : Int) < x4.params))) then some 3 else bif (decide (((x4.code.length : Int) : Int) = 0) || decide ((2000 : Int) < (x4.code.length : Int))) then some 2 else nx6 ()
def code_Check_k40 (a : List Proc) (s : Unit) : Option Int :=
  each (code_Check_b37 a) code_Check_k38 a ()
def code_Check (a : List Proc) : Option Int :=
  bif (decide (((a.length : Int) : Int) = 0) || decide ((4 : Int) < (a.length : Int))) then some 2 else eachI code_Check_b39 (code_Check_k40 a) 0 a ()
theorem code_Check_c (w0 : World) (M : BS) (hM : ∀ b, M b → b < w0.heap.size) (va : Value) (a : List Proc) (ha : Rd2 rProc w0 BE M va a) (r : Int) (hs : code_Check a = some r) :
    Calls Tryz.prog 14 #[va] w0 (fun e w' => Grow w0 w' ∧ e = .returned (.int .i64 r)) := by
 refine calls_start (args := [va]) Tryz.func14 rfl Tryz.ntmps14 (Nat.le_of_ble_eq_true rfl) ?_
 have h := SH.init hM
 replace h := h.argSr 1 ha none_own
 have hl_a := ha.len_le
 refine wc_seq (wc_region (wl_ok (r_assign (v := (.int .i64 (0))) rfl) (wl_nil (then_normal (wc_seq (wc_seq (wc_region (wl_ok (r_move (v := va) rfl) (wl_ok (r_len SliceOf33 rfl (h.srS 1 rfl)) (wl_ok (r_eql rfl rfl) (wl_ok (r_move (v := (.bool (decide (((a.length : Int) : Int) = 0)))) rfl) (wl_gd0 rfl rfl (fun q => r_move (v := va) rfl) (wl_gd0 rfl rfl (fun q => r_len SliceOf33 (gvt q) (h.srS 1 rfl)) (wl_gd0 rfl rfl (fun q => r_gtr (gvt q) rfl) (wl_ok (r_por rfl rfl evc) (wl_nil (then_normal (wc_ifb hs rfl (fun c1 hs => ?_) (fun c1 hs => ?_)))))))))))))))))))
 ·
  refine wc_seq (wc_region (wl_ok (r_assign (v := (.int .i64 (2))) rfl) (wl_nil (then_normal (wc_ret (then_ret (fin1 (v := (.int .i64 (2))) Tryz.results14 rfl ?_)))))))
  obtain rfl := Option.some.inj hs
  exact ⟨h.grown, rfl⟩
 ·
  refine wc_skip (then_normal (wc_seq (wc_seq (wc_region (wl_ok (r_move (v := va) rfl) (wl_ok (r_len SliceOf33 rfl (h.srS 1 rfl)) (wl_ok (r_move (v := (.int .i64 (0))) rfl) (wl_nil (then_normal (wc_block (wc_lp (σ := Nat × Int) (inl [2, 3, 4, 21, 22, 23, 24, 25, 26, 27, 28, 29, 30, 31, 32, 33, 34, 35, 36, 37, 38, 39, 40, 41, 42, 43, 44, 45, 46, 47, 48, 49, 50, 51, 52, 53, 54, 55, 56, 57, 58, 59, 60, 61, 62, 63, 64, 65, 66, 67, 68, 69, 70]) (fun ⟨k2, i3⟩ => [(21, (.int .i64 (i3)))]) (fun ⟨k2, i3⟩ w => SH w0 M BE w (hset [(1, .sr rProc va a)]) ∧ i3 = (k2 : Int) ∧ eachI code_Check_b39 (code_Check_k40 a) i3 (a.drop k2) () = some r) (fun ⟨k2, i3⟩ => a.length - k2) ⟨0, 0⟩ ⟨rfl, trivial⟩ ?_ ?_)))))))))))
  ·
   exact ⟨h.cn _, rfl, hs⟩
  ·
   rintro ⟨k2, i3⟩ w junk ⟨h, hik, hs⟩
   refine wc_seq (wc_region ?_)
   refine wl_ok (r_lss rfl rfl) (wl_nil (then_normal ?_))
   refine wc_seq (wc_if rfl (fun e7 => ?_) (fun e7 => ?_))
   ·
    refine wc_skip (then_normal ?_)
    obtain ⟨x4, e8a, e8b⟩ := drop_lt (hik ▸ e7)
    rw [e8b, eachI_cons] at hs
    generalize hnx6 : eachI code_Check_b39 (code_Check_k40 a) (i3 + 1) (a.drop (k2 + 1)) = nx6 at hs
    have e8r := nat_rng ((h.srS 1 rfl)).len_le hik e7
    refine wc_seq (wc_block (wc_seq (wc_region (wl_ok (r_move (v := (.int .i64 (i3))) rfl) ?_))))
    obtain ⟨b10, o11, cs12, h, r13, i9⟩ := h.ixS 1 2 rfl SliceOf33 rfl (nat_nn hik) (get_nat hik e8a)
    obtain ⟨u14, rfl, g15⟩ := rProc_open r13
    replace h := h.knowRd 3 g15.up
    refine wl_ok (i9 _ _ _ _ _ _ _ _ _ rfl rfl) (wl_ok (r_ldPN (k := 0) (vs := [(.int .i64 (x4.params)), (.int .i64 (x4.regs)), u14]) h 2 rfl Many40 rfl rfl rfl (Nat.le_of_ble_eq_true rfl)) (w_allocN h 4 Many40 fun w b16 h => wl_ok (r_assign (v := (.int .i64 (i3))) rfl) (w_stN (vs := [(.int .i64 (x4.params)), (.int .i64 (x4.regs)), u14]) h 4 [(.int .i64 (x4.params)), (.int .i64 (x4.regs)), u14] rfl Many40 rfl rfl rfl rfl rfl (ones_cons rfl (ones_cons rfl (ones_cons (h.rdAt 3 rfl).one ones_nil))) fun w h => wl_nil (then_normal (wc_seq (wc_seq (wc_region (wl_ok (r_fieldAddr Fld40x0 rfl) (wl_ok (r_ldB h 4 rfl One3 rfl rfl) (wl_ok (r_lss rfl rfl) (wl_ok (r_move (v := (.bool (decide ((x4.params : Int) < 0)))) rfl) (wl_gd0 rfl rfl (fun q => r_fieldAddr Fld40x0 rfl) (wl_gd0 rfl rfl (fun q => r_ldB h 4 rfl One3 (gvt q) rfl) (wl_gd0 rfl rfl (fun q => r_gtr (gvt q) rfl) (wl_ok (r_por rfl rfl evc) (wl_ok (r_move (v := (.bool ((decide ((x4.params : Int) < 0) || decide ((3 : Int) < x4.params))))) rfl) (wl_gd0 rfl rfl (fun q => r_fieldAddr Fld40x1 rfl) (wl_gd0 rfl rfl (fun q => r_ldB h 4 rfl One3 (gvt q) rfl) (wl_gd0 rfl rfl (fun q => r_lss (gvt q) rfl) (wl_ok (r_por rfl rfl evc) (wl_ok (r_move (v := (.bool (((decide ((x4.params : Int) < 0) || decide ((3 : Int) < x4.params)) || decide ((x4.regs : Int) < 1))))) rfl) ?_)))))))))))))))))))))
    refine wl_gd0 rfl rfl (fun q => r_fieldAddr Fld40x1 rfl) (wl_gd0 rfl rfl (fun q => r_ldB h 4 rfl One3 (gvt q) rfl) (wl_gd0 rfl rfl (fun q => r_fieldAddr Fld40x0 rfl) (wl_gd0 rfl rfl (fun q => r_ldB h 4 rfl One3 (gvt q) rfl) (wl_gd0 rfl rfl (fun q => r_lss (gvt q) (gvt q)) (wl_ok (r_por rfl rfl evc) (wl_ok (r_move (v := (.bool ((((decide ((x4.params : Int) < 0) || decide ((3 : Int) < x4.params)) || decide ((x4.regs : Int) < 1)) || decide ((x4.regs : Int) < x4.params))))) rfl) (wl_gd0 rfl rfl (fun q => r_fieldAddr Fld40x1 rfl) (wl_gd0 rfl rfl (fun q => r_ldB h 4 rfl One3 (gvt q) rfl) (wl_gd0 rfl rfl (fun q => r_gtr (gvt q) rfl) (wl_ok (r_por rfl rfl evc) (wl_ok (r_move (v := (.bool (((((decide ((x4.params : Int) < 0) || decide ((3 : Int) < x4.params)) || decide ((x4.regs : Int) < 1)) || decide ((x4.regs : Int) < x4.params)) || decide ((40 : Int) < x4.regs))))) rfl) (wl_gd0 rfl rfl (fun q => r_move (v := (.int .i64 (i3))) rfl) (wl_gd0 rfl rfl (fun q => r_eql (gvt q) rfl) (wl_gd0 rfl rfl (fun q => r_move (v := (.bool (decide ((i3 : Int) = 0)))) (gvt q)) (wl_gd (((((decide ((x4.params : Int) < 0) || decide ((3 : Int) < x4.params)) || decide ((x4.regs : Int) < 1)) || decide ((x4.regs : Int) < x4.params)) || decide ((40 : Int) < x4.regs)) == false) rfl rfl (fun q => r_fieldAddr Fld40x0 rfl) (wl_gd (((((decide ((x4.params : Int) < 0) || decide ((3 : Int) < x4.params)) || decide ((x4.regs : Int) < 1)) || decide ((x4.regs : Int) < x4.params)) || decide ((40 : Int) < x4.regs)) == false) rfl rfl (fun q => r_ldB h 4 rfl One3 (gvt q) rfl) (wl_gd (((((decide ((x4.params : Int) < 0) || decide ((3 : Int) < x4.params)) || decide ((x4.regs : Int) < 1)) || decide ((x4.regs : Int) < x4.params)) || decide ((40 : Int) < x4.regs)) == false) rfl rfl (fun q => r_gtr (gvt q) rfl) (wl_gd0 rfl rfl (fun q => r_pand (gvt q) (gvn q) evc) (wl_ok (r_por rfl rfl evc) (wl_nil (then_normal (wc_ifb hs rfl (fun c17 hs => ?_) (fun c17 hs => ?_)))))))))))))))))))))))
    ·
     refine wc_seq (wc_region (wl_ok (r_assign (v := (.int .i64 (3))) rfl) (wl_nil (then_normal (wc_ret (then_ret (inBlock_ret (then_ret (then_ret (inBlock_ret (then_ret (fin1 (v := (.int .i64 (3))) Tryz.results14 rfl ?_))))))))))))
     obtain rfl := Option.some.inj hs
     exact ⟨h.grown, rfl⟩
    ·
     refine wc_skip (then_normal (wc_seq (wc_region (wl_ok (r_fieldAddr Fld40x2 rfl) (wl_ok (r_ldB h 4 rfl One38 rfl rfl) (wl_ok (r_len SliceOf38 rfl (h.rdS 3 rfl)) (wl_ok (r_eql rfl rfl) (wl_ok (r_move (v := (.bool (decide (((x4.code.length : Int) : Int) = 0)))) rfl) (wl_gd0 rfl rfl (fun q => r_fieldAddr Fld40x2 rfl) (wl_gd0 rfl rfl (fun q => r_ldB h 4 rfl One38 (gvt q) rfl) (wl_gd0 rfl rfl (fun q => r_len SliceOf38 (gvt q) (h.rdS 3 rfl)) (wl_gd0 rfl rfl (fun q => r_gtr (gvt q) rfl) (wl_ok (r_por rfl rfl evc) (wl_nil (then_normal (wc_ifb hs rfl (fun c18 hs => ?_) (fun c18 hs => ?_)))))))))))))))))
     ·
      refine wc_seq (wc_region (wl_ok (r_assign (v := (.int .i64 (2))) rfl) (wl_nil (then_normal (wc_ret (inBlock_ret (then_ret (then_ret (inBlock_ret (then_ret (fin1 (v := (.int .i64 (2))) Tryz.results14 rfl ?_)))))))))))
      obtain rfl := Option.some.inj hs
      exact ⟨h.grown, rfl⟩
     ·
      refine wc_skip (inBlock_normal (then_normal (wc_region (wl_ok (r_add rfl rfl e8r) (wl_ok (r_move (v := (.int .i64 ((i3 + 1)))) rfl) (wl_nil (then_loop ?_)))))))
      subst hnx6
      exact lend ⟨k2 + 1, i3 + 1⟩ ⟨h.cn _, by omega, hs⟩ (by have := of_decide_eq_true e7; dsimp only; omega)
   ·
    rw [drop_ge (hik ▸ e7), eachI_nil] at hs
    refine wc_exit (then_exit (then_exit (inBlock_eq (then_normal (wc_seq (wc_seq (wc_region (wl_ok (r_move (v := va) rfl) (wl_ok (r_len SliceOf33 rfl (h.srS 1 rfl)) (wl_ok (r_move (v := (.int .i64 (0))) rfl) (wl_nil (then_normal (wc_block (wc_lp (σ := Nat × Int) (inl [2, 6, 7, 8, 9, 10, 73, 74, 75, 76, 77, 78, 79, 80, 81, 82, 83, 84, 85, 86, 87, 88, 89, 90, 91, 92, 93, 94, 95, 96, 97, 98, 99, 100, 101, 102, 103, 104, 105, 106, 107, 108, 109, 110, 111, 112, 113]) (fun ⟨k19, i20⟩ => [(73, (.int .i64 (i20)))]) (fun ⟨k19, i20⟩ w => SH w0 M BE w (hset [(1, .sr rProc va a)]) ∧ i20 = (k19 : Int) ∧ each (code_Check_b37 a) code_Check_k38 (a.drop k19) () = some r) (fun ⟨k19, i20⟩ => a.length - k19) ⟨0, 0⟩ ⟨rfl, trivial⟩ ?_ ?_))))))))))))))
    ·
     exact ⟨h.cn _, rfl, hs⟩
    ·
     rintro ⟨k19, i20⟩ w junk ⟨h, hik, hs⟩
     refine wc_seq (wc_region ?_)
     refine wl_ok (r_lss rfl rfl) (wl_nil (then_normal ?_))
     refine wc_seq (wc_if rfl (fun e24 => ?_) (fun e24 => ?_))
     ·
      refine wc_skip (then_normal ?_)
      obtain ⟨x21, e25a, e25b⟩ := drop_lt (hik ▸ e24)
      rw [e25b, each_cons] at hs
      generalize hnx23 : each (code_Check_b37 a) code_Check_k38 (a.drop (k19 + 1)) = nx23 at hs
      have e25r := nat_rng ((h.srS 1 rfl)).len_le hik e24
      refine wc_seq (wc_block (wc_seq (wc_region ?_)))
      obtain ⟨b27, o28, cs29, h, r30, i26⟩ := h.ixS 1 5 rfl SliceOf33 rfl (nat_nn hik) (get_nat hik e25a)
      obtain ⟨u31, rfl, g32⟩ := rProc_open r30
      replace h := h.knowRd 6 g32.up
      refine wl_ok (i26 _ _ _ _ _ _ _ _ _ rfl rfl) (wl_ok (r_ldPN (k := 0) (vs := [(.int .i64 (x21.params)), (.int .i64 (x21.regs)), u31]) h 5 rfl Many40 rfl rfl rfl (Nat.le_of_ble_eq_true rfl)) (w_allocN h 7 Many40 fun w b33 h => w_stN (vs := [(.int .i64 (x21.params)), (.int .i64 (x21.regs)), u31]) h 7 [(.int .i64 (x21.params)), (.int .i64 (x21.regs)), u31] rfl Many40 rfl rfl rfl rfl rfl (ones_cons rfl (ones_cons rfl (ones_cons (h.rdAt 6 rfl).one ones_nil))) fun w h => wl_nil (then_normal (wc_seq (wc_seq (wc_region (wl_ok (r_fieldAddr Fld40x2 rfl) (wl_ok (r_ldB h 7 rfl One38 rfl rfl) (wl_ok (r_len SliceOf38 rfl (h.rdS 6 rfl)) (wl_ok (r_move (v := (.int .i64 (0))) rfl) (wl_nil (then_normal (wc_block (wc_lp (σ := Nat × Int) (inl [2, 7, 8, 9, 80, 81, 82, 83, 84, 85, 86, 87, 88, 89, 90, 91, 92, 93, 94, 95, 96, 97]) (fun ⟨k34, i35⟩ => [(80, (.int .i64 (i35)))]) (fun ⟨k34, i35⟩ w => SH w0 M BE w (hset [(1, .sr rProc va a), (6, .rd rIns u31 x21.code), (7, .blk b33 [(.int .i64 (x21.params)), (.int .i64 (x21.regs)), u31])]) ∧ i35 = (k34 : Int) ∧ eachI (code_Check_b35 a x21) (code_Check_k36 x21 nx23) i35 (x21.code.drop k34) () = some r) (fun ⟨k34, i35⟩ => x21.code.length - k34) ⟨0, 0⟩ ⟨rfl, trivial⟩ ?_ ?_))))))))))))))
      ·
       exact ⟨h.cn _, rfl, hs⟩
      ·
       rintro ⟨k34, i35⟩ w junk ⟨h, hik, hs⟩
       refine wc_seq (wc_region ?_)
       refine wl_ok (r_lss rfl rfl) (wl_nil (then_normal ?_))
       refine wc_seq (wc_if rfl (fun e39 => ?_) (fun e39 => ?_))
       ·
        refine wc_skip (then_normal ?_)
        obtain ⟨x36, e40a, e40b⟩ := drop_lt (hik ▸ e39)
        rw [e40b, eachI_cons] at hs
        generalize hnx38 : eachI (code_Check_b35 a x21) (code_Check_k36 x21 nx23) (i35 + 1) (x21.code.drop (k34 + 1)) = nx38 at hs
        have e40r := nat_rng ((h.rdS 6 rfl)).len_le hik e39
        refine wc_seq (wc_block (wc_seq (wc_region (wl_ok (r_move (v := (.int .i64 (i35))) rfl) ?_))))
        obtain ⟨b42, o43, cs44, h, r45, i41⟩ := h.ixR 6 8 rfl SliceOf38 rfl (nat_nn hik) (get_nat hik e40a)
        obtain ⟨u46, rfl, g47⟩ := rIns_open r45
        replace h := h.knowRd 9 g47.up
        refine wl_ok (i41 _ _ _ _ _ _ _ _ _ rfl rfl) (wl_ok (r_ldPN (k := 0) (vs := [(.int .i64 (x36.op)), (.int .i64 (x36.a)), (.int .i64 (x36.b)), (.int .i64 (x36.c)), u46]) h 8 rfl Many90 rfl rfl rfl (Nat.le_of_ble_eq_true rfl)) (w_allocN h 10 Many90 fun w b48 h => wl_ok (r_assign (v := (.int .i64 (i35))) rfl) (w_stN (vs := [(.int .i64 (x36.op)), (.int .i64 (x36.a)), (.int .i64 (x36.b)), (.int .i64 (x36.c)), u46]) h 10 [(.int .i64 (x36.op)), (.int .i64 (x36.a)), (.int .i64 (x36.b)), (.int .i64 (x36.c)), u46] rfl Many90 rfl rfl rfl rfl rfl (ones_cons rfl (ones_cons rfl (ones_cons rfl (ones_cons rfl (ones_cons (h.rdAt 9 rfl).one ones_nil))))) fun w h => wl_nil (then_normal (wc_seq (wc_region (wl_ok (r_ldBN (vs := [(.int .i64 (x36.op)), (.int .i64 (x36.a)), (.int .i64 (x36.b)), (.int .i64 (x36.c)), u46]) h 10 rfl Many90 rfl rfl rfl) (wl_ok (r_move (v := (.int .i64 (i35))) rfl) (wl_ok (r_move (v := va) rfl) (wl_ok (r_fieldAddr Fld40x1 rfl) (wl_ok (r_ldB h 7 rfl One3 rfl rfl) (wl_ok (r_fieldAddr Fld40x2 rfl) (wl_ok (r_ldB h 7 rfl One38 rfl rfl) (wl_ok (r_len SliceOf38 rfl (h.rdS 6 rfl)) ?_))))))))))))))
        obtain ⟨y49, e50, hs⟩ := o_bind hs
        refine w_call fnOk47 rfl rfl (code_check_c _ _ h.lt x36 u46 (h.rdS 9 rfl) i35 va a (h.srS 1 rfl) x21.regs (x21.code.length : Int) _ e50) ?_
        rintro _ w ⟨k51, rfl⟩
        refine ⟨_, rfl, ?_⟩
        replace h := h.grow k51
        refine wl_ok (r_assign (v := (.int .i64 (y49))) rfl) (wl_nil (then_normal (wc_seq (wc_region (wl_ok (r_move (v := (.int .i64 (y49))) rfl) (wl_ok (r_neq rfl rfl) (wl_nil (then_normal (wc_ifb hs rfl (fun c52 hs => ?_) (fun c52 hs => ?_))))))))))
        ·
         refine wc_seq (wc_region (wl_ok (r_move (v := (.int .i64 (y49))) rfl) (wl_ok (r_assign (v := (.int .i64 (y49))) rfl) (wl_nil (then_normal (wc_ret (inBlock_ret (then_ret (then_ret (inBlock_ret (then_ret (inBlock_ret (then_ret (then_ret (inBlock_ret (then_ret (fin1 (v := (.int .i64 (y49))) Tryz.results14 rfl ?_)))))))))))))))))
         obtain rfl := Option.some.inj hs
         exact ⟨h.grown, rfl⟩
        ·
         refine wc_skip (inBlock_normal (then_normal (wc_region (wl_ok (r_add rfl rfl e40r) (wl_ok (r_move (v := (.int .i64 ((i35 + 1)))) rfl) (wl_nil (then_loop ?_)))))))
         subst hnx38
         exact lend ⟨k34 + 1, i35 + 1⟩ ⟨h.cn _, by omega, hs⟩ (by have := of_decide_eq_true e39; dsimp only; omega)
       ·
        rw [drop_ge (hik ▸ e39), eachI_nil] at hs
        refine wc_exit (then_exit (then_exit (inBlock_eq (then_normal (wc_seq (wc_region (wl_ok (r_fieldAddr Fld40x2 rfl) (wl_ok (r_ldB h 7 rfl One38 rfl rfl) (wl_ok (r_fieldAddr Fld40x2 rfl) (wl_ok (r_ldB h 7 rfl One38 rfl rfl) (wl_ok (r_len SliceOf38 rfl (h.rdS 6 rfl)) ?_)))))))))))
        obtain ⟨a53, hs⟩ := o_grd hs
        refine wl_ok (r_sub rfl rfl a53) ?_
        obtain ⟨x54, e55, hs⟩ := o_bind hs
        obtain ⟨b57, o58, cs59, h, r60, i56⟩ := h.ixR 6 11 rfl SliceOf38 rfl (o_idx e55).1 (o_idx e55).2
        obtain ⟨u61, rfl, g62⟩ := rIns_open r60
        replace h := h.knowRd 12 g62.up
        refine wl_ok (i56 _ _ _ _ _ _ _ _ _ rfl rfl) (wl_ok (r_fieldAddr Fld90x0 rfl) (wl_ok (r_ldP (k := 0) h 11 rfl One3 rfl rfl) (wl_ok (r_assign (v := (.int .i64 (x54.op))) rfl) (wl_nil (then_normal (wc_seq (wc_region (wl_ok (r_move (v := (.int .i64 (x54.op))) rfl) (wl_ok (r_neq rfl rfl) (wl_ok (r_move (v := (.bool (decide ((x54.op : Int) ≠ 8)))) rfl) (wl_gd0 rfl rfl (fun q => r_move (v := (.int .i64 (x54.op))) rfl) (wl_gd0 rfl rfl (fun q => r_neq (gvt q) rfl) (wl_ok (r_pand rfl rfl evc) (wl_nil (then_normal (wc_ifb hs rfl (fun c63 hs => ?_) (fun c63 hs => ?_)))))))))))))))))
        ·
         refine wc_seq (wc_region (wl_ok (r_assign (v := (.int .i64 (4))) rfl) (wl_nil (then_normal (wc_ret (inBlock_ret (then_ret (then_ret (inBlock_ret (then_ret (fin1 (v := (.int .i64 (4))) Tryz.results14 rfl ?_)))))))))))
         obtain rfl := Option.some.inj hs
         exact ⟨h.grown, rfl⟩
        ·
         refine wc_skip (inBlock_normal (then_normal (wc_region (wl_ok (r_add rfl rfl e25r) (wl_ok (r_move (v := (.int .i64 ((i20 + 1)))) rfl) (wl_nil (then_loop ?_)))))))
         subst hnx23
         exact lend ⟨k19 + 1, i20 + 1⟩ ⟨h.cn _, by omega, hs⟩ (by have := of_decide_eq_true e24; dsimp only; omega)
     ·
      rw [drop_ge (hik ▸ e24), each_nil] at hs
      refine wc_exit (then_exit (then_exit (inBlock_eq (then_normal (wc_seq (wc_region (wl_ok (r_assign (v := (.int .i64 (0))) rfl) (wl_nil (then_normal (wc_ret (fin1 (v := (.int .i64 (0))) Tryz.results14 rfl ?_)))))))))))
      obtain rfl := Option.some.inj hs
      exact ⟨h.grown, rfl⟩
def code_Compile_b3 (N : Nat) (a : List Fun) (x15 : Fun) (x12 : List Proc) (nx17 : List Proc → Option (List Proc × Int)) : Option (List Proc × Int) :=
  grd (I64 (x15.locals + 1)) ((code_maker_stmts N (code_maker_need (⟨a, ([] : List Ins), 0⟩ : Maker) (x15.locals + 1)) x15.body x15.locals).bind fun y38 => (code_maker_put y38 (⟨1, x15.locals, 0, 0, []⟩ : Ins)).bind fun y47 => (code_maker_put y47.2 (⟨8, x15.locals, 0, 0, []⟩ : Ins)).bind fun y56 => grd (Room 40 x12 [(⟨x15.params, y56.2.regs, y56.2.code⟩ : Proc)]) (nx17 (x12 ++ [(⟨x15.params, y56.2.regs, y56.2.code⟩ : Proc)])))
def code_Compile_k4 (x12 : List Proc) : Option (List Proc × Int) :=
  (code_Check x12).bind fun y70 => bif decide ((y70 : Int) ≠ 0) then some ([], y70) else some (x12, 0)
def code_Compile (N : Nat) (a : List Fun) : Option (List Proc × Int) :=
  (source_Check N a).bind fun y1 => bif decide ((y1 : Int) ≠ 0) then some ([], y1) else each (code_Compile_b3 N a) code_Compile_k4 a []
theorem code_Compile_c (N : Nat) (w0 : World) (M : BS) (hM : ∀ b, M b → b < w0.heap.size) (va : Value) (a : List Fun) (ha : RdSl rFun w0 M va a) (r : List Proc × Int) (hs : code_Compile N a = some r) :
    Calls Tryz.prog 12 #[va] w0 (fun e w' => Grow w0 w' ∧ ∃ u0, e = .returned (.tuple #[u0, .int .i64 r.2]) ∧ OwnSl rProc 40 w' M u0 r.1 ∧ (∀ b, ob u0 b → w0.heap.size ≤ b)) := by
 refine calls_start (args := [va]) Tryz.func12 rfl Tryz.ntmps12 (Nat.le_of_ble_eq_true rfl) ?_
 have h := SH.init hM
 replace h := h.argRd 1 ha none_own
 have hl_a := ha.len_le
 refine wc_seq (wc_region (wl_ok (r_assign (v := (.slice none 0 0)) rfl) (wl_ok (r_assign (v := (.int .i64 (0))) rfl) (wl_nil (then_normal (wc_seq (wc_seq (wc_region (wl_ok (r_move (v := va) rfl) ?_)))))))))
 obtain ⟨y1, e2, hs⟩ := o_bind hs
 refine w_call fnOk18 rfl rfl (source_Check_c N _ _ h.lt va a (h.rdS 1 rfl) _ e2) ?_
 rintro _ w ⟨k3, rfl⟩
 refine ⟨_, rfl, ?_⟩
 replace h := h.grow k3
 refine wl_ok (r_assign (v := (.int .i64 (y1))) rfl) (wl_nil (then_normal (wc_seq (wc_region (wl_ok (r_move (v := (.int .i64 (y1))) rfl) (wl_ok (r_neq rfl rfl) (wl_nil (then_normal (wc_ifb hs rfl (fun c4 hs => ?_) (fun c4 hs => ?_))))))))))
 ·
  refine wc_seq (wc_region (wl_ok (r_move (v := (.int .i64 (y1))) rfl) (wl_ok (r_assign (v := (.slice none 0 0)) rfl) (wl_ok (r_assign (v := (.int .i64 (y1))) rfl) (wl_nil (then_normal (wc_ret (then_ret (fin2 (v1 := (.slice none 0 0)) (v2 := (.int .i64 (y1))) Tryz.results12 rfl rfl ?_)))))))))
  obtain rfl := Option.some.inj hs
  exact ⟨h.grown, _, rfl, OwnSl.nil, fresh_nil⟩
 ·
  refine wc_skip (then_normal (wc_seq (wc_region (wl_ok (r_assign (v := (.slice none 0 0)) rfl) (wl_nil (then_normal (wc_seq (wc_seq (wc_region (wl_ok (r_move (v := va) rfl) (wl_ok (r_len SliceOf22 rfl (h.rdS 1 rfl)) (wl_ok (r_move (v := (.int .i64 (0))) rfl) (wl_nil (then_normal (wc_block ?_)))))))))))))))
  replace h := h.nilO (R := rProc) (E := 40) 5
  refine wc_lp (σ := Nat × Int × Value × List Proc) (inl [5, 7, 8, 17, 18, 19, 20, 21, 22, 23, 24, 25, 26, 27, 28, 29, 30, 31, 32, 33, 34, 35, 36, 37, 38, 39, 40, 41, 42, 43, 44, 45, 46, 47, 48, 49, 50, 51, 52, 53, 54, 55, 56, 57, 58, 59]) (fun ⟨k13, i14, v11, x12⟩ => [(5, v11), (17, (.int .i64 (i14)))]) (fun ⟨k13, i14, v11, x12⟩ w => SH w0 M BE w (hset [(1, .rd rFun va a), (5, .own rProc 40 v11 x12)]) ∧ i14 = (k13 : Int) ∧ each (code_Compile_b3 N a) code_Compile_k4 (a.drop k13) x12 = some r) (fun ⟨k13, i14, v11, x12⟩ => a.length - k13) ⟨0, 0, (.slice none 0 0), []⟩ ⟨rfl, rfl, trivial⟩ ?_ ?_
  ·
   exact ⟨h.cn _, rfl, hs⟩
  ·
   rintro ⟨k13, i14, v11, x12⟩ w junk ⟨h, hik, hs⟩
   refine wc_seq (wc_region ?_)
   refine wl_ok (r_lss rfl rfl) (wl_nil (then_normal ?_))
   refine wc_seq (wc_if rfl (fun e18 => ?_) (fun e18 => ?_))
   ·
    refine wc_skip (then_normal ?_)
    obtain ⟨x15, e19a, e19b⟩ := drop_lt (hik ▸ e18)
    rw [e19b, each_cons] at hs
    generalize hnx17 : each (code_Compile_b3 N a) code_Compile_k4 (a.drop (k13 + 1)) = nx17 at hs
    have e19r := nat_rng ((h.rdS 1 rfl)).len_le hik e18
    refine wc_seq (wc_block (wc_seq (wc_region ?_)))
    obtain ⟨b21, o22, cs23, h, r24, i20⟩ := h.ixR 1 6 rfl SliceOf22 rfl (nat_nn hik) (get_nat hik e19a)
    obtain ⟨u25, rfl, g26⟩ := rFun_open r24
    replace h := h.knowRd 7 g26.up
    refine wl_ok (i20 _ _ _ _ _ _ _ _ _ rfl rfl) (wl_ok (r_ldPN (k := 0) (vs := [(.int .i64 (x15.params)), (.int .i64 (x15.locals)), u25]) h 6 rfl Many43 rfl rfl rfl (Nat.le_of_ble_eq_true rfl)) (w_allocN h 8 Many43 fun w b27 h => w_stN (vs := [(.int .i64 (x15.params)), (.int .i64 (x15.locals)), u25]) h 8 [(.int .i64 (x15.params)), (.int .i64 (x15.locals)), u25] rfl Many43 rfl rfl rfl rfl rfl (ones_cons rfl (ones_cons rfl (ones_cons (h.rdAt 7 rfl).one ones_nil))) fun w h => wl_nil (then_normal (wc_seq (wc_region (wl_ok (r_move (v := va) rfl) (wl_ok (r_build (pv := [(0, va)]) (out := [va, (.slice none 0 0), (.int .i64 (0))]) Struct85 rfl ⟨0, 1, [va], rfl, (toList_of_one (h.rdAt 1 rfl).one), rfl, Nat.le_of_ble_eq_true rfl, rfl⟩) (w_box (cs := [va, (.slice none 0 0), (.int .i64 (0))]) h 9 rfl rfl fun w b28 h => wl_ok (r_assign (v := (.pointer (some ⟨b28, 0, none⟩))) rfl) (wl_nil (then_normal (wc_seq (wc_region (wl_ok (r_move (v := (.pointer (some ⟨b28, 0, none⟩))) rfl) (wl_ok (r_fieldAddr Fld43x1 rfl) (wl_ok (r_ldB h 8 rfl One3 rfl rfl) ?_)))))))))))))))
    obtain ⟨a29, hs⟩ := o_grd hs
    refine wl_ok (r_add rfl rfl a29) ?_
    replace h := h.nilO (R := rIns) (E := 90) 10
    replace h := h.pair 9 10 (by decide)
    obtain ⟨l30a, l30b, l30c⟩ := h.lendS 9 (C := (.two (.blk b28 [va, (.slice none 0 0), (.int .i64 (0))]) (.own rIns 90 (.slice none 0 0) ([] : List Ins)) : Chunk)) rfl ⟨trivial, trivial⟩
    refine w_call fnOk44 rfl rfl (code_maker_need_c _ _ l30c b28 (⟨a, ([] : List Ins), 0⟩ : Maker) va (.slice none 0 0) l30a l30b (h.rdC 9 1 rfl rfl) (x15.locals + 1) _ rfl) ?_
    rintro _ w ⟨k34, u31, u33, rfl, h35, h36, g32⟩
    refine ⟨_, rfl, ?_⟩
    replace h := h.back 9 (C := (.two (.blk b28 [va, (.slice none 0 0), (.int .i64 (0))]) (.own rIns 90 (.slice none 0 0) ([] : List Ins)) : Chunk)) (C' := (.two (.blk b28 [u31, u33, (.int .i64 ((code_maker_need (⟨a, ([] : List Ins), 0⟩ : Maker) (x15.locals + 1)).regs))]) (.own rIns 90 u33 ((code_maker_need (⟨a, ([] : List Ins), 0⟩ : Maker) (x15.locals + 1)).code)) : Chunk)) rfl ⟨trivial, trivial⟩ h35 k34 h36
    replace h := h.knowRd 11 (backRd g32)
    replace h := h.unpair 9 10 (by decide) rfl rfl
    refine wl_nil (then_normal (wc_seq (wc_region (wl_ok (r_move (v := (.pointer (some ⟨b28, 0, none⟩))) rfl) (wl_ok (r_fieldAddr Fld43x2 rfl) (wl_ok (r_ldB h 8 rfl One41 rfl rfl) (wl_ok (r_fieldAddr Fld43x1 rfl) (wl_ok (r_ldB h 8 rfl One3 rfl rfl) ?_))))))))
    replace h := h.pair 9 10 (by decide)
    obtain ⟨l37a, l37b, l37c⟩ := h.lendS 9 (C := (.two (.blk b28 [u31, u33, (.int .i64 ((code_maker_need (⟨a, ([] : List Ins), 0⟩ : Maker) (x15.locals + 1)).regs))]) (.own rIns 90 u33 ((code_maker_need (⟨a, ([] : List Ins), 0⟩ : Maker) (x15.locals + 1)).code)) : Chunk)) rfl ⟨trivial, trivial⟩
    obtain ⟨y38, e39, hs⟩ := o_bind hs
    refine w_call fnOk45 rfl rfl (code_maker_stmts_c N _ _ l37c b28 (code_maker_need (⟨a, ([] : List Ins), 0⟩ : Maker) (x15.locals + 1)) u31 u33 l37a l37b (h.rdC 9 11 rfl rfl) u25 x15.body (h.rdC 9 7 rfl rfl) x15.locals _ e39) ?_
    rintro _ w ⟨k43, u40, u42, rfl, h44, h45, g41⟩
    refine ⟨_, rfl, ?_⟩
    replace h := h.back 9 (C := (.two (.blk b28 [u31, u33, (.int .i64 ((code_maker_need (⟨a, ([] : List Ins), 0⟩ : Maker) (x15.locals + 1)).regs))]) (.own rIns 90 u33 ((code_maker_need (⟨a, ([] : List Ins), 0⟩ : Maker) (x15.locals + 1)).code)) : Chunk)) (C' := (.two (.blk b28 [u40, u42, (.int .i64 (y38.regs))]) (.own rIns 90 u42 y38.code) : Chunk)) rfl ⟨trivial, trivial⟩ h44 k43 h45
    replace h := h.knowRd 12 (backRd g41)
    replace h := h.unpair 9 10 (by decide) rfl rfl
    refine wl_nil (then_normal (wc_seq (wc_region (wl_ok (r_move (v := (.pointer (some ⟨b28, 0, none⟩))) rfl) (wl_ok (r_fieldAddr Fld43x1 rfl) (wl_ok (r_ldB h 8 rfl One3 rfl rfl) (wl_ok (r_build (pv := [(0, (.int .i64 (1))), (1, (.int .i64 (x15.locals)))]) (out := [(.int .i64 (1)), (.int .i64 (x15.locals)), (.int .i64 (0)), (.int .i64 (0)), (.slice none 0 0)]) Struct90 rfl ⟨0, 1, [(.int .i64 (1))], rfl, rfl, rfl, Nat.le_of_ble_eq_true rfl, ⟨1, 1, [(.int .i64 (x15.locals))], rfl, rfl, rfl, Nat.le_of_ble_eq_true rfl, rfl⟩⟩) ?_)))))))
    replace h := h.pair 9 10 (by decide)
    obtain ⟨l46a, l46b, l46c⟩ := h.lendS 9 (C := (.two (.blk b28 [u40, u42, (.int .i64 (y38.regs))]) (.own rIns 90 u42 y38.code) : Chunk)) rfl ⟨trivial, trivial⟩
    obtain ⟨y47, e48, hs⟩ := o_bind hs
    refine w_call fnOk46 rfl rfl (code_maker_put_c _ _ l46c b28 y38 u40 u42 l46a l46b (h.rdC 9 12 rfl rfl) (⟨1, x15.locals, 0, 0, []⟩ : Ins) (.slice none 0 0) Rd2.nil _ e48) ?_
    rintro _ w ⟨k52, u49, u51, rfl, h53, h54, g50⟩
    refine ⟨_, rfl, ?_⟩
    replace h := h.back 9 (C := (.two (.blk b28 [u40, u42, (.int .i64 (y38.regs))]) (.own rIns 90 u42 y38.code) : Chunk)) (C' := (.two (.blk b28 [u49, u51, (.int .i64 (y47.2.regs))]) (.own rIns 90 u51 y47.2.code) : Chunk)) rfl ⟨trivial, trivial⟩ h53 k52 h54
    replace h := h.knowRd 13 (backRd g50)
    replace h := h.unpair 9 10 (by decide) rfl rfl
    refine wl_nil (then_normal (wc_seq (wc_region (wl_ok (r_move (v := (.pointer (some ⟨b28, 0, none⟩))) rfl) (wl_ok (r_fieldAddr Fld43x1 rfl) (wl_ok (r_ldB h 8 rfl One3 rfl rfl) (wl_ok (r_build (pv := [(0, (.int .i64 (8))), (1, (.int .i64 (x15.locals)))]) (out := [(.int .i64 (8)), (.int .i64 (x15.locals)), (.int .i64 (0)), (.int .i64 (0)), (.slice none 0 0)]) Struct90 rfl ⟨0, 1, [(.int .i64 (8))], rfl, rfl, rfl, Nat.le_of_ble_eq_true rfl, ⟨1, 1, [(.int .i64 (x15.locals))], rfl, rfl, rfl, Nat.le_of_ble_eq_true rfl, rfl⟩⟩) ?_)))))))
    replace h := h.pair 9 10 (by decide)
    obtain ⟨l55a, l55b, l55c⟩ := h.lendS 9 (C := (.two (.blk b28 [u49, u51, (.int .i64 (y47.2.regs))]) (.own rIns 90 u51 y47.2.code) : Chunk)) rfl ⟨trivial, trivial⟩
    obtain ⟨y56, e57, hs⟩ := o_bind hs
    refine w_call fnOk46 rfl rfl (code_maker_put_c _ _ l55c b28 y47.2 u49 u51 l55a l55b (h.rdC 9 13 rfl rfl) (⟨8, x15.locals, 0, 0, []⟩ : Ins) (.slice none 0 0) Rd2.nil _ e57) ?_
    rintro _ w ⟨k61, u58, u60, rfl, h62, h63, g59⟩
    refine ⟨_, rfl, ?_⟩
    replace h := h.back 9 (C := (.two (.blk b28 [u49, u51, (.int .i64 (y47.2.regs))]) (.own rIns 90 u51 y47.2.code) : Chunk)) (C' := (.two (.blk b28 [u58, u60, (.int .i64 (y56.2.regs))]) (.own rIns 90 u60 y56.2.code) : Chunk)) rfl ⟨trivial, trivial⟩ h62 k61 h63
    replace h := h.knowRd 14 (backRd g59)
    replace h := h.unpair 9 10 (by decide) rfl rfl
    refine wl_nil (then_normal (wck_held (L := (ob v11)) mixed h fun w h => whk_ok 0 (Keep.refl _ _) rfl want_none (by kernel_rfl) (by kernel_rfl) (by kernel_rfl) (fun w hk => r_move (v := v11) rfl) (whk_ok 1 (Keep.refl _ _) rfl want_none (by kernel_rfl) (by kernel_rfl) (by kernel_rfl) (fun w hk => r_fieldAddr Fld43x0 rfl) (whk_ok 2 (Keep.refl _ _) rfl want_none (by kernel_rfl) (by kernel_rfl) (by kernel_rfl) (fun w hk => have h := h.loseC 5 rfl hk; r_ldB h 8 rfl One3 rfl rfl) (whk_ok 3 (Keep.refl _ _) rfl want_none (by kernel_rfl) (by kernel_rfl) (by kernel_rfl) (fun w hk => r_move (v := (.pointer (some ⟨b28, 0, none⟩))) rfl) (whk_ok 4 (Keep.refl _ _) rfl want_none (by kernel_rfl) (by kernel_rfl) (by kernel_rfl) (fun w hk => r_nilCheck rfl) (whk_ok 5 (Keep.refl _ _) rfl want_none (by kernel_rfl) (by kernel_rfl) (by kernel_rfl) (fun w hk => r_fieldAddr Fld85x2 rfl) (whk_ok 6 (Keep.refl _ _) rfl want_none (by kernel_rfl) (by kernel_rfl) (by kernel_rfl) (fun w hk => have h := h.loseC 5 rfl hk; r_ldB h 9 rfl One3 rfl rfl) (whk_ok 7 (Keep.refl _ _) rfl want_none (by kernel_rfl) (by kernel_rfl) (by kernel_rfl) (fun w hk => r_move (v := (.pointer (some ⟨b28, 0, none⟩))) rfl) (whk_ok 8 (Keep.refl _ _) rfl want_none (by kernel_rfl) (by kernel_rfl) (by kernel_rfl) (fun w hk => r_nilCheck rfl) (whk_ok 9 (Keep.refl _ _) rfl want_none (by kernel_rfl) (by kernel_rfl) (by kernel_rfl) (fun w hk => r_fieldAddr Fld85x1 rfl) (whk_ok 10 (Keep.refl _ _) rfl want_none (by kernel_rfl) (by kernel_rfl) (by kernel_rfl) (fun w hk => have h := h.loseC 5 rfl hk; r_ldB h 9 rfl One38 rfl rfl) (whk_ok 11 (Keep.refl _ _) rfl want_none (by kernel_rfl) (by kernel_rfl) (by kernel_rfl) (fun w hk => r_build (pv := [(0, (.int .i64 (x15.params))), (1, (.int .i64 (y56.2.regs))), (2, u60)]) (out := [(.int .i64 (x15.params)), (.int .i64 (y56.2.regs)), u60]) Struct40 rfl ⟨0, 1, [(.int .i64 (x15.params))], rfl, rfl, rfl, Nat.le_of_ble_eq_true rfl, ⟨1, 1, [(.int .i64 (y56.2.regs))], rfl, rfl, rfl, Nat.le_of_ble_eq_true rfl, ⟨2, 1, [u60], rfl, (toList_of_one (h.ownAt 10 rfl).one), rfl, Nat.le_of_ble_eq_true rfl, rfl⟩⟩⟩) ?_)))))))))))))
    obtain ⟨ws68, ws68e⟩ : ∃ x, x = w := ⟨_, rfl⟩
    have hg69 : Keep (ob v11) ws68 w := ws68e ▸ Keep.refl (ob v11) w
    refine whk_at ws68e.symm (whk_eff 12 (by kernel_rfl) rfl want_none ?_)
    replace h := h.freeze 10 rfl
    refine w_bsG (R := rProc) (vs := [(.agg #[(.int .i64 (x15.params)), (.int .i64 (y56.2.regs)), u60])]) (xs := [(⟨x15.params, y56.2.regs, y56.2.code⟩ : Proc)]) h 159 ElemOf33 rfl rfl rfl ⟨⟨_, rfl, (h.rdAt 10 rfl)⟩, trivial⟩ rfl fun w uq67x12_1 h uq67x12_1k uq67x12_1f => ?_
    have uq67x12_1q : ∀ b, ob uq67x12_1 b → ws68.heap.size ≤ b := fun b hb => Nat.le_trans hg69.size (uq67x12_1f b hb)
    replace hg69 := hg69.grow uq67x12_1k
    refine wl_nil (whk_back hg69 (whk_eff 13 (by kernel_rfl) rfl want_none ?_))
    obtain ⟨aq67x13_1, hs⟩ := o_grd hs
    have uq67x13_2z := hg69.size
    refine w_appGN (R := rProc) (m := [(⟨x15.params, y56.2.regs, y56.2.code⟩ : Proc)]) h 5 rfl (h.ownS 159 rfl) ElemOf33 rfl rfl rfl aq67x13_1.1 aq67x13_1.2 fun w uq67x13_2 h uq67x13_2k uq67x13_2n => ?_
    have uq67x13_2q : ∀ b, ob uq67x13_2 b → b < ws68.heap.size → ob v11 b := fun b hb hl => uq67x13_2n b hb (Nat.lt_of_lt_of_le hl (hg69).size)
    replace hg69 := hg69.same uq67x13_2k
    refine wl_nil (whk_back hg69 (whk_ok 14 hg69 rfl want_none (by kernel_rfl) (by kernel_rfl) (by kernel_rfl) (fun w hk => r_assign (v := uq67x13_2) rfl) (whk_done (by kernel_rfl) (inBlock_normal (then_normal (wc_region (wl_ok (r_add rfl rfl e19r) (wl_ok (r_move (v := (.int .i64 ((i14 + 1)))) rfl) (wl_nil (then_loop ?_))))))))))
    subst hnx17
    exact lend ⟨k13 + 1, i14 + 1, uq67x13_2, (x12 ++ [(⟨x15.params, y56.2.regs, y56.2.code⟩ : Proc)])⟩ ⟨h.cn _, by omega, hs⟩ (by have := of_decide_eq_true e18; dsimp only; omega)
   ·
    rw [drop_ge (hik ▸ e18), each_nil] at hs
    refine wc_exit (then_exit (then_exit (inBlock_eq (then_normal (wc_seq (wc_seq (wc_region (wl_ok (r_move (v := v11) rfl) ?_))))))))
    obtain ⟨y70, e71, hs⟩ := o_bind hs
    refine w_call fnOk14 rfl rfl (code_Check_c _ _ h.lt v11 x12 (h.ownS 5 rfl) _ e71) ?_
    rintro _ w ⟨k72, rfl⟩
    refine ⟨_, rfl, ?_⟩
    replace h := h.grow k72
    refine wl_ok (r_assign (v := (.int .i64 (y70))) rfl) (wl_nil (then_normal (wc_seq (wc_region (wl_ok (r_move (v := (.int .i64 (y70))) rfl) (wl_ok (r_neq rfl rfl) (wl_nil (then_normal (wc_ifb hs rfl (fun c73 hs => ?_) (fun c73 hs => ?_))))))))))
    ·
     refine wc_seq (wc_region (wl_ok (r_move (v := (.int .i64 (y70))) rfl) (wl_ok (r_assign (v := (.slice none 0 0)) rfl) (wl_ok (r_assign (v := (.int .i64 (y70))) rfl) (wl_nil (then_normal (wc_ret (then_ret (fin2 (v1 := (.slice none 0 0)) (v2 := (.int .i64 (y70))) Tryz.results12 rfl rfl ?_)))))))))
     obtain rfl := Option.some.inj hs
     exact ⟨h.grown, _, rfl, OwnSl.nil, fresh_nil⟩
    ·
     refine wc_skip (then_normal (wc_seq (wc_region (wl_ok (r_move (v := v11) rfl) (wl_ok (r_assign (v := v11) rfl) (wl_ok (r_assign (v := (.int .i64 (0))) rfl) (wl_nil (then_normal (wc_ret (fin2 (v1 := v11) (v2 := (.int .i64 (0))) Tryz.results12 rfl rfl ?_))))))))))
     obtain rfl := Option.some.inj hs
     exact ⟨h.grown, _, rfl, (h.outOwn 5 rfl).1, (h.outOwn 5 rfl).2⟩
def wandererref_in (a : Int) (b : Int) (c : Int) : Bool :=
  (decide ((b : Int) ≤ a) && decide ((a : Int) ≤ c))
theorem wandererref_in_c (w0 : World) (M : BS) (hM : ∀ b, M b → b < w0.heap.size) (a : Int) (b : Int) (c : Int) (r : Bool) (hs : wandererref_in a b c = r) :
    Calls Tryz.prog 27 #[(.int .i64 (a)), (.int .i64 (b)), (.int .i64 (c))] w0 (fun e w' => Grow w0 w' ∧ e = .returned (.bool r)) := by
 refine calls_start (args := [(.int .i64 (a)), (.int .i64 (b)), (.int .i64 (c))]) Tryz.func27 rfl Tryz.ntmps27 (Nat.le_of_ble_eq_true rfl) ?_
 have h := SH.init hM
 refine wc_seq (wc_region (wl_ok (r_assign (v := (.bool (false))) rfl) (wl_nil (then_normal (wc_seq (wc_region (wl_ok (r_move (v := (.int .i64 (b))) rfl) (wl_ok (r_move (v := (.int .i64 (a))) rfl) (wl_ok (r_leq rfl rfl) (wl_ok (r_move (v := (.bool (decide ((b : Int) ≤ a)))) rfl) (wl_gd0 rfl rfl (fun q => r_move (v := (.int .i64 (a))) rfl) (wl_gd0 rfl rfl (fun q => r_move (v := (.int .i64 (c))) rfl) (wl_gd0 rfl rfl (fun q => r_leq (gvt q) (gvt q)) (wl_ok (r_pand rfl rfl evc) (wl_ok (r_assign (v := (.bool ((decide ((b : Int) ≤ a) && decide ((a : Int) ≤ c))))) rfl) (wl_nil (then_normal (wc_ret (fin1 (v := (.bool ((decide ((b : Int) ≤ a) && decide ((a : Int) ≤ c))))) Tryz.results27 rfl ?_)))))))))))))))))))
 obtain rfl := hs
 exact ⟨h.grown, rfl⟩
def wandererref_sized_j120 (nx37 : Int → Option (Int × Bool)) (x40 : Int) : Option (Int × Bool) :=
  nx37 x40
def wandererref_sized_b121 (F0 : List GStmt → Int → Option (Int × Bool)) (b : Int) (x35 : List GStmt) (x32 : Int) (nx37 : Int → Option (Int × Bool)) : Option (Int × Bool) :=
  bif decide ((0 : Int) < (x35.length : Int)) then grd (I64 (b - 1)) ((F0 x35 (b - 1)).bind fun y50 => grd (I64 (x32 + y50.1)) (bif ((!y50.2) || decide ((30 : Int) < (x32 + y50.1))) then some (0, false) else wandererref_sized_j120 nx37 (x32 + y50.1))) else wandererref_sized_j120 nx37 x32
def wandererref_sized_k122 (nx10 : Int → Option (Int × Bool)) (x32 : Int) : Option (Int × Bool) :=
  bif decide ((30 : Int) < x32) then some (0, false) else nx10 x32
def wandererref_sized_b123 (F0 : List GStmt → Int → Option (Int × Bool)) (b : Int) (a : List GStmt) (x8 : GStmt) (x5 : Int) (nx10 : Int → Option (Int × Bool)) : Option (Int × Bool) :=
  grd (I64 (x5 + 1)) (each (wandererref_sized_b121 F0 b) (wandererref_sized_k122 nx10) [x8.a, x8.b] (x5 + 1))
def wandererref_sized_k124 (x5 : Int) : Option (Int × Bool) :=
  some (x5, true)
def wandererref_sized_r (F0 : List GStmt → Int → Option (Int × Bool)) (a : List GStmt) (b : Int) : Option (Int × Bool) :=
  bif decide ((b : Int) < 1) then some (0, false) else each (wandererref_sized_b123 F0 b a) wandererref_sized_k124 a 0
def wandererref_sized : Nat → List GStmt → Int → Option (Int × Bool)
  | 0 => fun _ _ => none
  | N + 1 => wandererref_sized_r (wandererref_sized N)
end Go.Proofs.YtckocfgmnlhcmaaGreatDoor
