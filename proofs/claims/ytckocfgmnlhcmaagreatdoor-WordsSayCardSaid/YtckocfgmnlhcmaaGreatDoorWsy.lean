/-
  Functions of the program, each as plain Lean, and that the code does just that.
-/
import Derived.Test.YtckocfgmnlhcmaaGreatDoorProg
import Derived.Test.YtckocfgmnlhcmaaGreatDoorLiftE
import Derived.Test.YtckocfgmnlhcmaaGreatDoorWsyStrs
import Derived.Test.YtckocfgmnlhcmaaGreatDoorWsyShelf
set_option linter.unusedSimpArgs false
set_option linter.unusedVariables false
set_option maxRecDepth 10000
namespace Go.Proofs.YtckocfgmnlhcmaaGreatDoor
open Go Go.Proofs Go.LX
noncomputable section
theorem Arr2124 : Arr2 Tryz.prog 124 41 := ⟨Tryz.underlying124, ⟨(.slice none 0 0), (.slice none 0 0), by kernel_rfl⟩, by kernel_rfl, ⟨_, Tryz.underlying41⟩⟩
theorem ArrS129 : ArrS Tryz.prog 129 9 6 := ⟨Tryz.underlying129, by kernel_rfl, by kernel_rfl, Tryz.underlying9⟩
theorem ArrS98 : ArrS Tryz.prog 98 9 9 := ⟨Tryz.underlying98, by kernel_rfl, by kernel_rfl, Tryz.underlying9⟩
theorem ElemOf107 : ElemOf Tryz.prog 107 41 1 24 := ⟨Tryz.underlying107, elem_of (z := (.slice none 0 0)) (by kernel_rfl) rfl⟩
theorem ElemOf22 : ElemOf Tryz.prog 22 43 3 40 := ⟨Tryz.underlying22, elem_of (z := (.agg #[(.int .i64 (0)), (.int .i64 (0)), (.slice none 0 0)])) (by kernel_rfl) rfl⟩
theorem ElemOf41 : ElemOf Tryz.prog 41 65 6 112 := ⟨Tryz.underlying41, elem_of (z := (.agg #[(.int .i64 (0)), (.int .i64 (0)), (.slice none 0 0), (.slice none 0 0), (.slice none 0 0), (.slice none 0 0)])) (by kernel_rfl) rfl⟩
theorem ElemOf45 : ElemOf Tryz.prog 45 9 1 16 := ⟨Tryz.underlying45, elem_of (z := (strV [])) (by kernel_rfl) rfl⟩
theorem ElemOf51 : ElemOf Tryz.prog 51 3 1 8 := ⟨Tryz.underlying51, elem_of (z := (.int .i64 (0))) (by kernel_rfl) rfl⟩
theorem ElemOf63 : ElemOf Tryz.prog 63 71 2 16 := ⟨Tryz.underlying63, elem_of (z := (.agg #[(.int .i64 (0)), (.int .i64 (0))])) (by kernel_rfl) rfl⟩
theorem Fld43x0 : FieldAt Tryz.prog 43 0 0 := ⟨_, _, 0, Tryz.underlying43, rfl, rfl, by kernel_rfl⟩
theorem Fld43x1 : FieldAt Tryz.prog 43 1 1 := ⟨_, _, 0, Tryz.underlying43, rfl, rfl, by kernel_rfl⟩
theorem Fld43x2 : FieldAt Tryz.prog 43 2 2 := ⟨_, _, 0, Tryz.underlying43, rfl, rfl, by kernel_rfl⟩
theorem Fld54x0 : FieldAt Tryz.prog 54 0 0 := ⟨_, _, 0, Tryz.underlying54, rfl, rfl, by kernel_rfl⟩
theorem Fld54x1 : FieldAt Tryz.prog 54 1 1 := ⟨_, _, 0, Tryz.underlying54, rfl, rfl, by kernel_rfl⟩
theorem Fld54x2 : FieldAt Tryz.prog 54 2 2 := ⟨_, _, 0, Tryz.underlying54, rfl, rfl, by kernel_rfl⟩
theorem Fld65x0 : FieldAt Tryz.prog 65 0 0 := ⟨_, _, 0, Tryz.underlying65, rfl, rfl, by kernel_rfl⟩
theorem Fld65x1 : FieldAt Tryz.prog 65 1 1 := ⟨_, _, 0, Tryz.underlying65, rfl, rfl, by kernel_rfl⟩
theorem Fld65x2 : FieldAt Tryz.prog 65 2 2 := ⟨_, _, 0, Tryz.underlying65, rfl, rfl, by kernel_rfl⟩
theorem Fld65x3 : FieldAt Tryz.prog 65 3 3 := ⟨_, _, 0, Tryz.underlying65, rfl, rfl, by kernel_rfl⟩
theorem Fld65x4 : FieldAt Tryz.prog 65 4 4 := ⟨_, _, 0, Tryz.underlying65, rfl, rfl, by kernel_rfl⟩
theorem Fld65x5 : FieldAt Tryz.prog 65 5 5 := ⟨_, _, 0, Tryz.underlying65, rfl, rfl, by kernel_rfl⟩
theorem Fld71x0 : FieldAt Tryz.prog 71 0 0 := ⟨_, _, 0, Tryz.underlying71, rfl, rfl, by kernel_rfl⟩
theorem Fld71x1 : FieldAt Tryz.prog 71 1 1 := ⟨_, _, 0, Tryz.underlying71, rfl, rfl, by kernel_rfl⟩
theorem fnOk10 : FnOk Tryz.prog 10 := ⟨_, Tryz.func10, by kernel_rfl, rfl⟩
theorem fnOk100 : FnOk Tryz.prog 100 := ⟨_, Tryz.func100, by kernel_rfl, rfl⟩
theorem fnOk102 : FnOk Tryz.prog 102 := ⟨_, Tryz.func102, by kernel_rfl, rfl⟩
theorem fnOk11 : FnOk Tryz.prog 11 := ⟨_, Tryz.func11, by kernel_rfl, rfl⟩
theorem fnOk118 : FnOk Tryz.prog 118 := ⟨_, Tryz.func118, by kernel_rfl, rfl⟩
theorem fnOk119 : FnOk Tryz.prog 119 := ⟨_, Tryz.func119, by kernel_rfl, rfl⟩
theorem fnOk120 : FnOk Tryz.prog 120 := ⟨_, Tryz.func120, by kernel_rfl, rfl⟩
theorem fnOk133 : FnOk Tryz.prog 133 := ⟨_, Tryz.func133, by kernel_rfl, rfl⟩
theorem fnOk18 : FnOk Tryz.prog 18 := ⟨_, Tryz.func18, by kernel_rfl, rfl⟩
theorem fnOk19 : FnOk Tryz.prog 19 := ⟨_, Tryz.func19, by kernel_rfl, rfl⟩
theorem fnOk20 : FnOk Tryz.prog 20 := ⟨_, Tryz.func20, by kernel_rfl, rfl⟩
theorem fnOk21 : FnOk Tryz.prog 21 := ⟨_, Tryz.func21, by kernel_rfl, rfl⟩
theorem fnOk22 : FnOk Tryz.prog 22 := ⟨_, Tryz.func22, by kernel_rfl, rfl⟩
theorem fnOk23 : FnOk Tryz.prog 23 := ⟨_, Tryz.func23, by kernel_rfl, rfl⟩
theorem fnOk24 : FnOk Tryz.prog 24 := ⟨_, Tryz.func24, by kernel_rfl, rfl⟩
theorem fnOk25 : FnOk Tryz.prog 25 := ⟨_, Tryz.func25, by kernel_rfl, rfl⟩
theorem fnOk26 : FnOk Tryz.prog 26 := ⟨_, Tryz.func26, by kernel_rfl, rfl⟩
theorem fnOk27 : FnOk Tryz.prog 27 := ⟨_, Tryz.func27, by kernel_rfl, rfl⟩
theorem fnOk28 : FnOk Tryz.prog 28 := ⟨_, Tryz.func28, by kernel_rfl, rfl⟩
theorem fnOk29 : FnOk Tryz.prog 29 := ⟨_, Tryz.func29, by kernel_rfl, rfl⟩
theorem fnOk30 : FnOk Tryz.prog 30 := ⟨_, Tryz.func30, by kernel_rfl, rfl⟩
theorem fnOk31 : FnOk Tryz.prog 31 := ⟨_, Tryz.func31, by kernel_rfl, rfl⟩
theorem fnOk32 : FnOk Tryz.prog 32 := ⟨_, Tryz.func32, by kernel_rfl, rfl⟩
theorem fnOk33 : FnOk Tryz.prog 33 := ⟨_, Tryz.func33, by kernel_rfl, rfl⟩
theorem fnOk34 : FnOk Tryz.prog 34 := ⟨_, Tryz.func34, by kernel_rfl, rfl⟩
theorem fnOk35 : FnOk Tryz.prog 35 := ⟨_, Tryz.func35, by kernel_rfl, rfl⟩
theorem fnOk36 : FnOk Tryz.prog 36 := ⟨_, Tryz.func36, by kernel_rfl, rfl⟩
theorem fnOk37 : FnOk Tryz.prog 37 := ⟨_, Tryz.func37, by kernel_rfl, rfl⟩
theorem fnOk38 : FnOk Tryz.prog 38 := ⟨_, Tryz.func38, by kernel_rfl, rfl⟩
theorem fnOk39 : FnOk Tryz.prog 39 := ⟨_, Tryz.func39, by kernel_rfl, rfl⟩
theorem fnOk40 : FnOk Tryz.prog 40 := ⟨_, Tryz.func40, by kernel_rfl, rfl⟩
theorem fnOk41 : FnOk Tryz.prog 41 := ⟨_, Tryz.func41, by kernel_rfl, rfl⟩
theorem fnOk42 : FnOk Tryz.prog 42 := ⟨_, Tryz.func42, by kernel_rfl, rfl⟩
theorem fnOk43 : FnOk Tryz.prog 43 := ⟨_, Tryz.func43, by kernel_rfl, rfl⟩
theorem fnOk5 : FnOk Tryz.prog 5 := ⟨_, Tryz.func5, by kernel_rfl, rfl⟩
theorem fnOk56 : FnOk Tryz.prog 56 := ⟨_, Tryz.func56, by kernel_rfl, rfl⟩
theorem fnOk57 : FnOk Tryz.prog 57 := ⟨_, Tryz.func57, by kernel_rfl, rfl⟩
theorem fnOk59 : FnOk Tryz.prog 59 := ⟨_, Tryz.func59, by kernel_rfl, rfl⟩
theorem fnOk6 : FnOk Tryz.prog 6 := ⟨_, Tryz.func6, by kernel_rfl, rfl⟩
theorem fnOk64 : FnOk Tryz.prog 64 := ⟨_, Tryz.func64, by kernel_rfl, rfl⟩
theorem fnOk65 : FnOk Tryz.prog 65 := ⟨_, Tryz.func65, by kernel_rfl, rfl⟩
theorem fnOk66 : FnOk Tryz.prog 66 := ⟨_, Tryz.func66, by kernel_rfl, rfl⟩
theorem fnOk67 : FnOk Tryz.prog 67 := ⟨_, Tryz.func67, by kernel_rfl, rfl⟩
theorem fnOk68 : FnOk Tryz.prog 68 := ⟨_, Tryz.func68, by kernel_rfl, rfl⟩
theorem fnOk69 : FnOk Tryz.prog 69 := ⟨_, Tryz.func69, by kernel_rfl, rfl⟩
theorem fnOk7 : FnOk Tryz.prog 7 := ⟨_, Tryz.func7, by kernel_rfl, rfl⟩
theorem fnOk70 : FnOk Tryz.prog 70 := ⟨_, Tryz.func70, by kernel_rfl, rfl⟩
theorem fnOk73 : FnOk Tryz.prog 73 := ⟨_, Tryz.func73, by kernel_rfl, rfl⟩
theorem fnOk74 : FnOk Tryz.prog 74 := ⟨_, Tryz.func74, by kernel_rfl, rfl⟩
theorem fnOk77 : FnOk Tryz.prog 77 := ⟨_, Tryz.func77, by kernel_rfl, rfl⟩
theorem fnOk8 : FnOk Tryz.prog 8 := ⟨_, Tryz.func8, by kernel_rfl, rfl⟩
theorem fnOk82 : FnOk Tryz.prog 82 := ⟨_, Tryz.func82, by kernel_rfl, rfl⟩
theorem fnOk84 : FnOk Tryz.prog 84 := ⟨_, Tryz.func84, by kernel_rfl, rfl⟩
theorem fnOk9 : FnOk Tryz.prog 9 := ⟨_, Tryz.func9, by kernel_rfl, rfl⟩
theorem fnOk90 : FnOk Tryz.prog 90 := ⟨_, Tryz.func90, by kernel_rfl, rfl⟩
theorem fnOk91 : FnOk Tryz.prog 91 := ⟨_, Tryz.func91, by kernel_rfl, rfl⟩
theorem fnOk92 : FnOk Tryz.prog 92 := ⟨_, Tryz.func92, by kernel_rfl, rfl⟩
theorem fnOk93 : FnOk Tryz.prog 93 := ⟨_, Tryz.func93, by kernel_rfl, rfl⟩
theorem fnOk94 : FnOk Tryz.prog 94 := ⟨_, Tryz.func94, by kernel_rfl, rfl⟩
theorem IfaceT67 : IfaceT Tryz.prog 67 := ⟨by kernel_rfl⟩
theorem Many129 : Many Tryz.prog 129 [(strV []), (strV []), (strV []), (strV []), (strV []), (strV [])] := ⟨⟨_, Tryz.underlying129, trivial⟩, by kernel_rfl⟩
theorem Many43 : Many Tryz.prog 43 [(.int .i64 (0)), (.int .i64 (0)), (.slice none 0 0)] := ⟨⟨_, Tryz.underlying43, trivial⟩, by kernel_rfl⟩
theorem Many65 : Many Tryz.prog 65 [(.int .i64 (0)), (.int .i64 (0)), (.slice none 0 0), (.slice none 0 0), (.slice none 0 0), (.slice none 0 0)] := ⟨⟨_, Tryz.underlying65, trivial⟩, by kernel_rfl⟩
theorem Many71 : Many Tryz.prog 71 [(.int .i64 (0)), (.int .i64 (0))] := ⟨⟨_, Tryz.underlying71, trivial⟩, by kernel_rfl⟩
theorem MapOf72 : MapOf Tryz.prog 72 (strV []) := ⟨_, _, Tryz.underlying72, Tryz.underlying3, by kernel_rfl⟩
theorem One22 : One Tryz.prog 22 (.slice none 0 0) := ⟨⟨_, Tryz.underlying22, trivial⟩, by kernel_rfl, rfl⟩
theorem One3 : One Tryz.prog 3 (.int .i64 (0)) := ⟨⟨_, Tryz.underlying3, trivial⟩, by kernel_rfl, rfl⟩
theorem One4 : One Tryz.prog 4 (.bool (false)) := ⟨⟨_, Tryz.underlying4, trivial⟩, by kernel_rfl, rfl⟩
theorem One41 : One Tryz.prog 41 (.slice none 0 0) := ⟨⟨_, Tryz.underlying41, trivial⟩, by kernel_rfl, rfl⟩
theorem One45 : One Tryz.prog 45 (.slice none 0 0) := ⟨⟨_, Tryz.underlying45, trivial⟩, by kernel_rfl, rfl⟩
theorem One51 : One Tryz.prog 51 (.slice none 0 0) := ⟨⟨_, Tryz.underlying51, trivial⟩, by kernel_rfl, rfl⟩
theorem One55 : One Tryz.prog 55 .nilFunc := ⟨⟨_, Tryz.underlying55, trivial⟩, by kernel_rfl, rfl⟩
theorem One57 : One Tryz.prog 57 .nilFunc := ⟨⟨_, Tryz.underlying57, trivial⟩, by kernel_rfl, rfl⟩
theorem One63 : One Tryz.prog 63 (.slice none 0 0) := ⟨⟨_, Tryz.underlying63, trivial⟩, by kernel_rfl, rfl⟩
theorem One77 : One Tryz.prog 77 .nilFunc := ⟨⟨_, Tryz.underlying77, trivial⟩, by kernel_rfl, rfl⟩
theorem One9 : One Tryz.prog 9 (strV []) := ⟨⟨_, Tryz.underlying9, trivial⟩, by kernel_rfl, rfl⟩
theorem PairI71 : PairI Tryz.prog 71 := ⟨⟨_, _, Tryz.underlying71, by decide, by decide, rfl, rfl, Tryz.underlying3, Tryz.underlying3, by kernel_rfl, by kernel_rfl⟩, by kernel_rfl, by kernel_rfl⟩
theorem SliceOf107 : SliceOf Tryz.prog 107 41 1 := ⟨Tryz.underlying107, by kernel_rfl⟩
theorem SliceOf22 : SliceOf Tryz.prog 22 43 3 := ⟨Tryz.underlying22, by kernel_rfl⟩
theorem SliceOf41 : SliceOf Tryz.prog 41 65 6 := ⟨Tryz.underlying41, by kernel_rfl⟩
theorem SliceOf45 : SliceOf Tryz.prog 45 9 1 := ⟨Tryz.underlying45, by kernel_rfl⟩
theorem SliceOf51 : SliceOf Tryz.prog 51 3 1 := ⟨Tryz.underlying51, by kernel_rfl⟩
theorem SliceOf63 : SliceOf Tryz.prog 63 71 2 := ⟨Tryz.underlying63, by kernel_rfl⟩
theorem Struct43 : Struct Tryz.prog 43 [(.int .i64 (0)), (.int .i64 (0)), (.slice none 0 0)] [(0, 1), (1, 1), (2, 1)] := ⟨by kernel_rfl, _, Tryz.underlying43, by kernel_rfl⟩
theorem Struct54 : Struct Tryz.prog 54 [(.slice none 0 0), (.slice none 0 0), (.bool (false))] [(0, 1), (1, 1), (2, 1)] := ⟨by kernel_rfl, _, Tryz.underlying54, by kernel_rfl⟩
theorem Struct65 : Struct Tryz.prog 65 [(.int .i64 (0)), (.int .i64 (0)), (.slice none 0 0), (.slice none 0 0), (.slice none 0 0), (.slice none 0 0)] [(0, 1), (1, 1), (2, 1), (3, 1), (4, 1), (5, 1)] := ⟨by kernel_rfl, _, Tryz.underlying65, by kernel_rfl⟩
theorem Struct71 : Struct Tryz.prog 71 [(.int .i64 (0)), (.int .i64 (0))] [(0, 1), (1, 1)] := ⟨by kernel_rfl, _, Tryz.underlying71, by kernel_rfl⟩
theorem mixed : Tryz.prog.follows .mixedOrders = true := by kernel_rfl
def source_count_j26 (nx10 : Int → Option (Int × Bool)) (x30 : Int) : Option (Int × Bool) :=
  nx10 x30
def source_count_j25 (F0 : List GStmt → Int → Option (Int × Bool)) (x8 : GStmt) (b : Int) (nx10 : Int → Option (Int × Bool)) (x29 : Int) : Option (Int × Bool) :=
  bif decide (((x8.b.length : Int) : Int) = 0) then source_count_j26 nx10 x29 else grd (I64 (b + 1)) ((F0 x8.b (b + 1)).bind fun y33 => grd (I64 (x29 + y33.1)) (bif ((!y33.2) || decide ((30 : Int) < (x29 + y33.1))) then some (0, false) else source_count_j26 nx10 (x29 + y33.1)))
def source_count_b27 (F0 : List GStmt → Int → Option (Int × Bool)) (a : List GStmt) (b : Int) (x8 : GStmt) (x5 : Int) (nx10 : Int → Option (Int × Bool)) : Option (Int × Bool) :=
  grd (I64 (x5 + 1)) (bif decide ((30 : Int) < (x5 + 1)) then some (0, false) else bif decide (((x8.a.length : Int) : Int) = 0) then source_count_j25 F0 x8 b nx10 (x5 + 1) else grd (I64 (b + 1)) ((F0 x8.a (b + 1)).bind fun y40 => grd (I64 ((x5 + 1) + y40.1)) (bif ((!y40.2) || decide ((30 : Int) < ((x5 + 1) + y40.1))) then some (0, false) else source_count_j25 F0 x8 b nx10 ((x5 + 1) + y40.1))))
def source_count_k28 (x5 : Int) : Option (Int × Bool) :=
  some (x5, true)
def source_count_r (F0 : List GStmt → Int → Option (Int × Bool)) (a : List GStmt) (b : Int) : Option (Int × Bool) :=
  bif decide ((4 : Int) < b) then some (0, false) else each (source_count_b27 F0 a b) source_count_k28 a 0
def source_count : Nat → List GStmt → Int → Option (Int × Bool)
  | 0 => fun _ _ => none
  | N + 1 => source_count_r (source_count N)
theorem source_count_c : ∀ (N : Nat) (w0 : World) (M : BS) (hM : ∀ b, M b → b < w0.heap.size) (va : Value) (a : List GStmt) (ha : Rd2 rStmt w0 BE M va a) (b : Int) (r : Int × Bool) (hs : source_count N a b = some r),
    Calls Tryz.prog 56 #[va, (.int .i64 (b))] w0 (fun e w' => Grow w0 w' ∧ e = .returned (.tuple #[.int .i64 r.1, .bool r.2])) := by
  intro N
  induction N with
  | zero => intro w0 M hM va a ha b r hs; cases hs
  | succ N ih =>
  intro w0 M hM va a ha b r hs
  replace hs : source_count_r (source_count N) a b = some r := hs
  generalize source_count N = F0 at hs ih
  refine calls_start (args := [va, (.int .i64 (b))]) Tryz.func56 rfl Tryz.ntmps56 (Nat.le_of_ble_eq_true rfl) ?_
  have h := SH.init hM
  replace h := h.argSr 1 ha none_own
  have hl_a := ha.len_le
  refine wc_seq (wc_region (wl_ok (r_assign (v := (.int .i64 (0))) rfl) (wl_ok (r_assign (v := (.bool (false))) rfl) (wl_nil (then_normal (wc_seq (wc_seq (wc_region (wl_ok (r_move (v := (.int .i64 (b))) rfl) (wl_ok (r_gtr rfl rfl) (wl_nil (then_normal (wc_ifb hs rfl (fun c1 hs => ?_) (fun c1 hs => ?_))))))))))))))
  ·
   refine wc_seq (wc_region (wl_ok (r_assign (v := (.int .i64 (0))) rfl) (wl_ok (r_assign (v := (.bool (false))) rfl) (wl_nil (then_normal (wc_ret (then_ret (fin2 (v1 := (.int .i64 (0))) (v2 := (.bool (false))) Tryz.results56 rfl rfl ?_))))))))
   obtain rfl := Option.some.inj hs
   exact ⟨h.grown, rfl⟩
  ·
   refine wc_skip (then_normal (wc_seq (wc_region (wl_ok (r_assign (v := (.int .i64 (0))) rfl) (wl_nil (then_normal (wc_seq (wc_seq (wc_region (wl_ok (r_move (v := va) rfl) (wl_ok (r_len SliceOf41 rfl (h.srS 1 rfl)) (wl_ok (r_move (v := (.int .i64 (0))) rfl) (wl_nil (then_normal (wc_block (wc_lp (σ := Nat × Int × Int) (inl [4, 5, 6, 8, 10, 11, 12, 17, 18, 19, 20, 21, 22, 23, 24, 25, 26, 27, 28, 29, 30, 31, 32, 33, 34, 35, 36, 37, 38, 39, 40, 41, 42, 43, 44, 45, 46, 47, 48, 49, 50, 51, 52, 53]) (fun ⟨k6, i7, x5⟩ => [(6, (.int .i64 (x5))), (17, (.int .i64 (i7)))]) (fun ⟨k6, i7, x5⟩ w => SH w0 M BE w (hset [(1, .sr rStmt va a)]) ∧ i7 = (k6 : Int) ∧ each (source_count_b27 F0 a b) source_count_k28 (a.drop k6) x5 = some r) (fun ⟨k6, i7, x5⟩ => a.length - k6) ⟨0, 0, 0⟩ ⟨rfl, rfl, trivial⟩ ?_ ?_))))))))))))))))
   ·
    exact ⟨h.cn _, rfl, hs⟩
   ·
    rintro ⟨k6, i7, x5⟩ w junk ⟨h, hik, hs⟩
    refine wc_seq (wc_region ?_)
    refine wl_ok (r_lss rfl rfl) (wl_nil (then_normal ?_))
    refine wc_seq (wc_if rfl (fun e11 => ?_) (fun e11 => ?_))
    ·
     refine wc_skip (then_normal ?_)
     obtain ⟨x8, e12a, e12b⟩ := drop_lt (hik ▸ e11)
     rw [e12b, each_cons] at hs
     generalize hnx10 : each (source_count_b27 F0 a b) source_count_k28 (a.drop (k6 + 1)) = nx10 at hs
     have e12r := nat_rng ((h.srS 1 rfl)).len_le hik e11
     refine wc_seq (wc_block (wc_seq (wc_region ?_)))
     obtain ⟨b14, o15, cs16, h, r17, i13⟩ := h.ixS 1 2 rfl SliceOf41 rfl (nat_nn hik) (get_nat hik e12a)
     obtain ⟨u18, u20, u22, u24, rfl, g19, g21, g23, g25⟩ := rStmt_open r17
     replace h := h.knowRd 3 g19.up
     replace h := h.knowRd 4 g21.up.up
     replace h := h.knowRd 5 g23.up.up.up
     replace h := h.knowRd 6 g25.up.up.up.up
     refine wl_ok (i13 _ _ _ _ _ _ _ _ _ rfl rfl) (wl_ok (r_ldPN (k := 0) (vs := [(.int .i64 (x8.kind)), (.int .i64 (x8.n)), u18, u20, u22, u24]) h 2 rfl Many65 rfl rfl rfl (Nat.le_of_ble_eq_true rfl)) (w_allocN h 7 Many65 fun w b26 h => w_stN (vs := [(.int .i64 (x8.kind)), (.int .i64 (x8.n)), u18, u20, u22, u24]) h 7 [(.int .i64 (x8.kind)), (.int .i64 (x8.n)), u18, u20, u22, u24] rfl Many65 rfl rfl rfl rfl rfl (ones_cons rfl (ones_cons rfl (ones_cons (h.rdAt 3 rfl).one (ones_cons (h.rdAt 4 rfl).one (ones_cons (h.rdAt 5 rfl).one (ones_cons (h.rdAt 6 rfl).one ones_nil)))))) fun w h => wl_nil (then_normal (wc_seq (wc_seq (wc_region (wl_ok (r_move (v := (.int .i64 (x5))) rfl) ?_)))))))
     obtain ⟨a27, hs⟩ := o_grd hs
     refine wl_ok (r_add rfl rfl a27) (wl_ok (r_assign (v := (.int .i64 ((x5 + 1)))) rfl) (wl_nil (then_normal (wc_seq (wc_region (wl_ok (r_move (v := (.int .i64 ((x5 + 1)))) rfl) (wl_ok (r_gtr rfl rfl) (wl_nil (then_normal (wc_ifb hs rfl (fun c28 hs => ?_) (fun c28 hs => ?_)))))))))))
     ·
      refine wc_seq (wc_region (wl_ok (r_assign (v := (.int .i64 (0))) rfl) (wl_ok (r_assign (v := (.bool (false))) rfl) (wl_nil (then_normal (wc_ret (then_ret (inBlock_ret (then_ret (then_ret (inBlock_ret (then_ret (fin2 (v1 := (.int .i64 (0))) (v2 := (.bool (false))) Tryz.results56 rfl rfl ?_)))))))))))))
      obtain rfl := Option.some.inj hs
      exact ⟨h.grown, rfl⟩
     ·
      refine wc_skip (then_normal (wc_seq (wc_region (wl_ok (r_fieldAddr Fld65x4 rfl) (wl_ok (r_ldB h 7 rfl One41 rfl rfl) (wl_ok (r_fieldAddr Fld65x5 rfl) (wl_ok (r_ldB h 7 rfl One41 rfl rfl) (wl_ok (r_build2 Arr2124 rfl rfl (h.rdAt 5 rfl).one (h.rdAt 6 rfl).one) (wl_ok (r_move (v := (.int .i64 (0))) rfl) (wl_nil (then_normal (wc_block (wc_rounds 2 (wc_seq (wc_region (wl_ok (r_lss rfl rfl) (wl_nil (then_normal (wc_seq (wc_ift rfl (wc_skip (then_normal (wc_join (σ := Int) (inl [4, 5, 6, 10, 11, 12, 32, 33, 34, 35, 36, 37, 38, 39, 40, 41, 42, 43, 44, 45, 46, 47, 48, 49, 50, 51]) (fun x29 => [(6, (.int .i64 (x29)))]) (fun x29 w => SH w0 M BE w (hset [(1, .sr rStmt va a), (5, .rd rStmt u22 x8.a), (6, .rd rStmt u24 x8.b)]) ∧ source_count_j25 F0 x8 b nx10 x29 = some r) ?_ ?_)))))))))))))))))))))))
      ·
       rintro x29 w junk ⟨h, hs⟩
       refine wc_region (wl_ok (r_add rfl rfl (by decide)) (wl_ok (r_move (v := (.int .i64 (1))) rfl) (wl_nil (then_round (wc_seq (wc_region (wl_ok (r_lss rfl rfl) (wl_nil (then_normal (wc_seq (wc_ift rfl (wc_skip (then_normal (wc_join (σ := Int) (inl [4, 5, 6, 10, 11, 12, 32, 33, 34, 35, 36, 37, 38, 39, 40, 41, 42, 43, 44, 45, 46, 47, 48, 49, 50, 51]) (fun x30 => [(6, (.int .i64 (x30)))]) (fun x30 w => SH w0 M BE w (hset [(1, .sr rStmt va a), (5, .rd rStmt u22 x8.a), (6, .rd rStmt u24 x8.b)]) ∧ source_count_j26 nx10 x30 = some r) ?_ ?_))))))))))))))
       ·
        rintro x30 w junk ⟨h, hs⟩
        refine wc_region (wl_ok (r_add rfl rfl (by decide)) (wl_ok (r_move (v := (.int .i64 (2))) rfl) (wl_nil (then_round (wc_seq (wc_region (wl_ok (r_lss rfl rfl) (wl_nil (then_normal (wc_seq (wc_iff rfl (wc_exit (then_exit (then_exit (inBlock_eq (inBlock_normal (then_normal (wc_region (wl_ok (r_add rfl rfl e12r) (wl_ok (r_move (v := (.int .i64 ((i7 + 1)))) rfl) (wl_nil (then_loop ?_))))))))))))))))))))))
        subst hnx10
        exact lend ⟨k6 + 1, i7 + 1, x30⟩ ⟨h.cn _, by omega, hs⟩ (by have := of_decide_eq_true e11; dsimp only; omega)
       ·
        refine wc_block (wc_seq (wc_region (wl_ok (r_index2 (k := 1) Arr2124 rfl rfl rfl) (wl_ok (r_assign (v := u24) rfl) (wl_nil (then_normal (wc_seq (wc_seq (wc_region (wl_ok (r_move (v := u24) rfl) (wl_ok (r_len SliceOf41 rfl (h.rdS 6 rfl)) (wl_ok (r_eql rfl rfl) (wl_nil (then_normal (wc_ifb hs rfl (fun c31 hs => ?_) (fun c31 hs => ?_))))))))))))))))
        ·
         refine wc_exit (then_exit (inBlock_eq (then_loop ?_)))
         exact jend x29 ⟨h.cn _, hs⟩
        ·
         refine wc_skip (then_normal (wc_seq (wc_region (wl_ok (r_move (v := u24) rfl) (wl_ok (r_move (v := (.int .i64 (b))) rfl) ?_)))))
         obtain ⟨a32, hs⟩ := o_grd hs
         refine wl_ok (r_add rfl rfl a32) ?_
         obtain ⟨y33, e34, hs⟩ := o_bind hs
         refine w_call fnOk56 rfl rfl (ih _ _ h.lt u24 x8.b (h.rdS 6 rfl) (b + 1) _ e34) ?_
         rintro _ w ⟨k35, rfl⟩
         refine ⟨_, rfl, ?_⟩
         replace h := h.grow k35
         refine wl_ok (r_move (v := (.tuple #[(.int .i64 (y33.1)), (.bool (y33.2))])) rfl) (wl_ok (r_extract rfl rfl) (wl_ok (r_extract rfl rfl) (wl_ok (r_assign (v := (.int .i64 (y33.1))) rfl) (wl_ok (r_assign (v := (.bool (y33.2))) rfl) (wl_nil (then_normal (wc_seq (wc_region (wl_ok (r_move (v := (.int .i64 (x29))) rfl) (wl_ok (r_move (v := (.int .i64 (y33.1))) rfl) ?_))))))))))
         obtain ⟨a36, hs⟩ := o_grd hs
         refine wl_ok (r_add rfl rfl a36) (wl_ok (r_assign (v := (.int .i64 ((x29 + y33.1)))) rfl) (wl_nil (then_normal (wc_seq (wc_region (wl_ok (r_move (v := (.bool (y33.2))) rfl) (wl_ok (r_notb rfl) (wl_ok (r_move (v := (.bool ((!y33.2)))) rfl) (wl_gd0 rfl rfl (fun q => r_move (v := (.int .i64 ((x29 + y33.1)))) rfl) (wl_gd0 rfl rfl (fun q => r_gtr (gvt q) rfl) (wl_ok (r_por rfl rfl evc) (wl_nil (then_normal (wc_ifb hs rfl (fun c37 hs => ?_) (fun c37 hs => ?_)))))))))))))))
         ·
          refine wc_seq (wc_region (wl_ok (r_assign (v := (.int .i64 (0))) rfl) (wl_ok (r_assign (v := (.bool (false))) rfl) (wl_nil (then_normal (wc_ret (inBlock_ret (then_ret (then_ret (inBlock_ret (inBlock_ret (then_ret (then_ret (inBlock_ret (then_ret (fin2 (v1 := (.int .i64 (0))) (v2 := (.bool (false))) Tryz.results56 rfl rfl ?_))))))))))))))))
          obtain rfl := Option.some.inj hs
          exact ⟨h.grown, rfl⟩
         ·
          refine wc_skip (inBlock_normal (then_loop ?_))
          exact jend (x29 + y33.1) ⟨h.cn _, hs⟩
      ·
       refine wc_block (wc_seq (wc_region (wl_ok (r_index2 (k := 0) Arr2124 rfl rfl rfl) (wl_ok (r_assign (v := u22) rfl) (wl_nil (then_normal (wc_seq (wc_seq (wc_region (wl_ok (r_move (v := u22) rfl) (wl_ok (r_len SliceOf41 rfl (h.rdS 5 rfl)) (wl_ok (r_eql rfl rfl) (wl_nil (then_normal (wc_ifb hs rfl (fun c38 hs => ?_) (fun c38 hs => ?_))))))))))))))))
       ·
        refine wc_exit (then_exit (inBlock_eq (then_loop ?_)))
        exact jend (x5 + 1) ⟨h.cn _, hs⟩
       ·
        refine wc_skip (then_normal (wc_seq (wc_region (wl_ok (r_move (v := u22) rfl) (wl_ok (r_move (v := (.int .i64 (b))) rfl) ?_)))))
        obtain ⟨a39, hs⟩ := o_grd hs
        refine wl_ok (r_add rfl rfl a39) ?_
        obtain ⟨y40, e41, hs⟩ := o_bind hs
        refine w_call fnOk56 rfl rfl (ih _ _ h.lt u22 x8.a (h.rdS 5 rfl) (b + 1) _ e41) ?_
        rintro _ w ⟨k42, rfl⟩
        refine ⟨_, rfl, ?_⟩
        replace h := h.grow k42
        refine wl_ok (r_move (v := (.tuple #[(.int .i64 (y40.1)), (.bool (y40.2))])) rfl) (wl_ok (r_extract rfl rfl) (wl_ok (r_extract rfl rfl) (wl_ok (r_assign (v := (.int .i64 (y40.1))) rfl) (wl_ok (r_assign (v := (.bool (y40.2))) rfl) (wl_nil (then_normal (wc_seq (wc_region (wl_ok (r_move (v := (.int .i64 ((x5 + 1)))) rfl) (wl_ok (r_move (v := (.int .i64 (y40.1))) rfl) ?_))))))))))
        obtain ⟨a43, hs⟩ := o_grd hs
        refine wl_ok (r_add rfl rfl a43) (wl_ok (r_assign (v := (.int .i64 (((x5 + 1) + y40.1)))) rfl) (wl_nil (then_normal (wc_seq (wc_region (wl_ok (r_move (v := (.bool (y40.2))) rfl) (wl_ok (r_notb rfl) (wl_ok (r_move (v := (.bool ((!y40.2)))) rfl) (wl_gd0 rfl rfl (fun q => r_move (v := (.int .i64 (((x5 + 1) + y40.1)))) rfl) (wl_gd0 rfl rfl (fun q => r_gtr (gvt q) rfl) (wl_ok (r_por rfl rfl evc) (wl_nil (then_normal (wc_ifb hs rfl (fun c44 hs => ?_) (fun c44 hs => ?_)))))))))))))))
        ·
         refine wc_seq (wc_region (wl_ok (r_assign (v := (.int .i64 (0))) rfl) (wl_ok (r_assign (v := (.bool (false))) rfl) (wl_nil (then_normal (wc_ret (inBlock_ret (then_ret (then_ret (inBlock_ret (inBlock_ret (then_ret (then_ret (inBlock_ret (then_ret (fin2 (v1 := (.int .i64 (0))) (v2 := (.bool (false))) Tryz.results56 rfl rfl ?_))))))))))))))))
         obtain rfl := Option.some.inj hs
         exact ⟨h.grown, rfl⟩
        ·
         refine wc_skip (inBlock_normal (then_loop ?_))
         exact jend ((x5 + 1) + y40.1) ⟨h.cn _, hs⟩
    ·
     rw [drop_ge (hik ▸ e11), each_nil] at hs
     refine wc_exit (then_exit (then_exit (inBlock_eq (then_normal (wc_seq (wc_region (wl_ok (r_move (v := (.int .i64 (x5))) rfl) (wl_ok (r_assign (v := (.int .i64 (x5))) rfl) (wl_ok (r_assign (v := (.bool (true))) rfl) (wl_nil (then_normal (wc_ret (fin2 (v1 := (.int .i64 (x5))) (v2 := (.bool (true))) Tryz.results56 rfl rfl ?_)))))))))))))
     obtain rfl := Option.some.inj hs
     exact ⟨h.grown, rfl⟩
def source_tok_j1 (x2 : Bool) (x3 : Int) : Option (Int × Int) :=
  bif (!x2) then some (0, 3) else some (x3, 0)
def source_tok (a : Tok) (b : List Fun) (c : Int) : Option (Int × Int) :=
  bif decide ((a.kind : Int) = 1) then source_tok_j1 (decide ((-1000000000 : Int) ≤ a.n) && decide ((a.n : Int) ≤ 1000000000)) 0 else bif decide ((a.kind : Int) = 2) then source_tok_j1 (decide ((0 : Int) ≤ a.n) && decide ((a.n : Int) < c)) 0 else bif decide ((a.kind : Int) = 3) then source_tok_j1 (decide ((1 : Int) ≤ a.n) && decide ((a.n : Int) ≤ 5)) 2 else bif decide ((a.kind : Int) = 4) then source_tok_j1 (decide ((0 : Int) ≤ a.n) && decide ((a.n : Int) < 4)) 1 else bif decide ((a.kind : Int) = 5) then source_tok_j1 (decide ((1 : Int) ≤ a.n) && decide ((a.n : Int) ≤ 4)) 0 else bif decide ((a.kind : Int) = 6) then bif (decide ((a.n : Int) < 0) || decide (((b.length : Int) : Int) ≤ a.n)) then some (0, 5) else (idx b a.n).bind fun x12 => some (x12.params, 0) else some (0, 4)
theorem source_tok_c (w0 : World) (M : BS) (hM : ∀ b, M b → b < w0.heap.size) (a : Tok) (vb : Value) (b : List Fun) (hb : Rd2 rFun w0 BE M vb b) (c : Int) (r : Int × Int) (hs : source_tok a b c = some r) :
    Calls Tryz.prog 120 #[(.agg #[(.int .i64 (a.kind)), (.int .i64 (a.n))]), vb, (.int .i64 (c))] w0 (fun e w' => Grow w0 w' ∧ e = .returned (.tuple #[.int .i64 r.1, .int .i64 r.2])) := by
 refine calls_start (args := [(.agg #[(.int .i64 (a.kind)), (.int .i64 (a.n))]), vb, (.int .i64 (c))]) Tryz.func120 rfl Tryz.ntmps120 (Nat.le_of_ble_eq_true rfl) ?_
 have h := SH.init hM
 replace h := h.argSr 1 hb none_own
 have hl_b := hb.len_le
 refine wc_seq (wc_region (w_box (cs := [(.int .i64 (a.kind)), (.int .i64 (a.n))]) h 2 rfl rfl fun w b1 h => wl_ok (r_assign (v := (.int .i64 (0))) rfl) (wl_ok (r_assign (v := (.int .i64 (0))) rfl) (wl_nil (then_normal (wc_seq (wc_region (wl_ok (r_assign (v := (.bool (false))) rfl) (wl_ok (r_assign (v := (.int .i64 (0))) rfl) (wl_nil (then_normal (wc_join (σ := Bool × Int) (inl [6, 7, 8, 9, 10, 11, 12, 13, 14, 15, 16, 17, 18, 19, 20, 21, 22, 23, 24, 25, 26, 27, 28, 29, 30, 31, 32, 33, 34, 35, 36, 37, 38, 39, 40, 41, 42, 43, 44, 45, 46, 47, 48, 49, 50, 51, 52, 53, 54, 55, 56, 57, 58, 59, 60, 61, 62, 63, 64, 65, 66, 67, 68, 69, 70, 71, 72, 73, 74, 75, 76, 77, 78, 79, 80]) (fun ⟨x2, x3⟩ => [(8, (.bool (x2))), (9, (.int .i64 (x3)))]) (fun ⟨x2, x3⟩ w => SH w0 M BE w (hset []) ∧ source_tok_j1 x2 x3 = some r) ?_ ?_))))))))))))
 ·
  rintro ⟨x2, x3⟩ w junk ⟨h, hs⟩
  refine wc_seq (wc_seq (wc_region (wl_ok (r_move (v := (.bool (x2))) rfl) (wl_ok (r_notb rfl) (wl_nil (then_normal (wc_ifb hs rfl (fun c4 hs => ?_) (fun c4 hs => ?_))))))))
  ·
   refine wc_seq (wc_region (wl_ok (r_assign (v := (.int .i64 (0))) rfl) (wl_ok (r_assign (v := (.int .i64 (3))) rfl) (wl_nil (then_normal (wc_ret (then_ret (fin2 (v1 := (.int .i64 (0))) (v2 := (.int .i64 (3))) Tryz.results120 rfl rfl ?_))))))))
   obtain rfl := Option.some.inj hs
   exact ⟨h.grown, rfl⟩
  ·
   refine wc_skip (then_normal (wc_seq (wc_region (wl_ok (r_move (v := (.int .i64 (x3))) rfl) (wl_ok (r_assign (v := (.int .i64 (x3))) rfl) (wl_ok (r_assign (v := (.int .i64 (0))) rfl) (wl_nil (then_normal (wc_ret (fin2 (v1 := (.int .i64 (x3))) (v2 := (.int .i64 (0))) Tryz.results120 rfl rfl ?_))))))))))
   obtain rfl := Option.some.inj hs
   exact ⟨h.grown, rfl⟩
 ·
  refine wc_seq (wc_region (wl_ok (r_fieldAddr Fld71x0 rfl) (wl_ok (r_ldB h 2 rfl One3 rfl rfl) (wl_nil (then_normal (wc_block (wc_seq (wc_region (wl_ok (r_eql rfl rfl) (wl_ok (r_assign (v := (.bool (decide ((a.kind : Int) = 1)))) rfl) (wl_nil (then_normal (wc_ifb hs rfl (fun c5 hs => ?_) (fun c5 hs => ?_))))))))))))))
  ·
   refine wc_region (wl_ok (r_fieldAddr Fld71x1 rfl) (wl_ok (r_ldB h 2 rfl One3 rfl rfl) (wl_ok (r_geq rfl rfl) (wl_ok (r_move (v := (.bool (decide ((-1000000000 : Int) ≤ a.n)))) rfl) (wl_gd0 rfl rfl (fun q => r_fieldAddr Fld71x1 rfl) (wl_gd0 rfl rfl (fun q => r_ldB h 2 rfl One3 (gvt q) rfl) (wl_gd0 rfl rfl (fun q => r_leq (gvt q) rfl) (wl_ok (r_pand rfl rfl evc) (wl_ok (r_assign (v := (.bool ((decide ((-1000000000 : Int) ≤ a.n) && decide ((a.n : Int) ≤ 1000000000))))) rfl) (wl_nil (inBlock_normal (then_loop ?_))))))))))))
   exact jend ((decide ((-1000000000 : Int) ≤ a.n) && decide ((a.n : Int) ≤ 1000000000)), 0) ⟨h.cn _, hs⟩
  ·
   refine wc_seq (wc_region (wl_ok (r_eql rfl rfl) (wl_ok (r_assign (v := (.bool (decide ((a.kind : Int) = 2)))) rfl) (wl_nil (then_normal (wc_ifb hs rfl (fun c6 hs => ?_) (fun c6 hs => ?_)))))))
   ·
    refine wc_region (wl_ok (r_fieldAddr Fld71x1 rfl) (wl_ok (r_ldB h 2 rfl One3 rfl rfl) (wl_ok (r_geq rfl rfl) (wl_ok (r_move (v := (.bool (decide ((0 : Int) ≤ a.n)))) rfl) (wl_gd0 rfl rfl (fun q => r_fieldAddr Fld71x1 rfl) (wl_gd0 rfl rfl (fun q => r_ldB h 2 rfl One3 (gvt q) rfl) (wl_gd0 rfl rfl (fun q => r_move (v := (.int .i64 (c))) rfl) (wl_gd0 rfl rfl (fun q => r_lss (gvt q) (gvt q)) (wl_ok (r_pand rfl rfl evc) (wl_ok (r_assign (v := (.bool ((decide ((0 : Int) ≤ a.n) && decide ((a.n : Int) < c))))) rfl) (wl_nil (inBlock_normal (then_loop ?_)))))))))))))
    exact jend ((decide ((0 : Int) ≤ a.n) && decide ((a.n : Int) < c)), 0) ⟨h.cn _, hs⟩
   ·
    refine wc_seq (wc_region (wl_ok (r_eql rfl rfl) (wl_ok (r_assign (v := (.bool (decide ((a.kind : Int) = 3)))) rfl) (wl_nil (then_normal (wc_ifb hs rfl (fun c7 hs => ?_) (fun c7 hs => ?_)))))))
    ·
     refine wc_region (wl_ok (r_fieldAddr Fld71x1 rfl) (wl_ok (r_ldB h 2 rfl One3 rfl rfl) (wl_ok (r_geq rfl rfl) (wl_ok (r_move (v := (.bool (decide ((1 : Int) ≤ a.n)))) rfl) (wl_gd0 rfl rfl (fun q => r_fieldAddr Fld71x1 rfl) (wl_gd0 rfl rfl (fun q => r_ldB h 2 rfl One3 (gvt q) rfl) (wl_gd0 rfl rfl (fun q => r_leq (gvt q) rfl) (wl_ok (r_pand rfl rfl evc) (wl_ok (r_assign (v := (.bool ((decide ((1 : Int) ≤ a.n) && decide ((a.n : Int) ≤ 5))))) rfl) (wl_ok (r_assign (v := (.int .i64 (2))) rfl) (wl_nil (inBlock_normal (then_loop ?_)))))))))))))
     exact jend ((decide ((1 : Int) ≤ a.n) && decide ((a.n : Int) ≤ 5)), 2) ⟨h.cn _, hs⟩
    ·
     refine wc_seq (wc_region (wl_ok (r_eql rfl rfl) (wl_ok (r_assign (v := (.bool (decide ((a.kind : Int) = 4)))) rfl) (wl_nil (then_normal (wc_ifb hs rfl (fun c8 hs => ?_) (fun c8 hs => ?_)))))))
     ·
      refine wc_region (wl_ok (r_fieldAddr Fld71x1 rfl) (wl_ok (r_ldB h 2 rfl One3 rfl rfl) (wl_ok (r_geq rfl rfl) (wl_ok (r_move (v := (.bool (decide ((0 : Int) ≤ a.n)))) rfl) (wl_gd0 rfl rfl (fun q => r_fieldAddr Fld71x1 rfl) (wl_gd0 rfl rfl (fun q => r_ldB h 2 rfl One3 (gvt q) rfl) (wl_gd0 rfl rfl (fun q => r_lss (gvt q) rfl) (wl_ok (r_pand rfl rfl evc) (wl_ok (r_assign (v := (.bool ((decide ((0 : Int) ≤ a.n) && decide ((a.n : Int) < 4))))) rfl) (wl_ok (r_assign (v := (.int .i64 (1))) rfl) (wl_nil (inBlock_normal (then_loop ?_)))))))))))))
      exact jend ((decide ((0 : Int) ≤ a.n) && decide ((a.n : Int) < 4)), 1) ⟨h.cn _, hs⟩
     ·
      refine wc_seq (wc_region (wl_ok (r_eql rfl rfl) (wl_ok (r_assign (v := (.bool (decide ((a.kind : Int) = 5)))) rfl) (wl_nil (then_normal (wc_ifb hs rfl (fun c9 hs => ?_) (fun c9 hs => ?_)))))))
      ·
       refine wc_region (wl_ok (r_fieldAddr Fld71x1 rfl) (wl_ok (r_ldB h 2 rfl One3 rfl rfl) (wl_ok (r_geq rfl rfl) (wl_ok (r_move (v := (.bool (decide ((1 : Int) ≤ a.n)))) rfl) (wl_gd0 rfl rfl (fun q => r_fieldAddr Fld71x1 rfl) (wl_gd0 rfl rfl (fun q => r_ldB h 2 rfl One3 (gvt q) rfl) (wl_gd0 rfl rfl (fun q => r_leq (gvt q) rfl) (wl_ok (r_pand rfl rfl evc) (wl_ok (r_assign (v := (.bool ((decide ((1 : Int) ≤ a.n) && decide ((a.n : Int) ≤ 4))))) rfl) (wl_nil (inBlock_normal (then_loop ?_))))))))))))
       exact jend ((decide ((1 : Int) ≤ a.n) && decide ((a.n : Int) ≤ 4)), 0) ⟨h.cn _, hs⟩
      ·
       refine wc_seq (wc_region (wl_ok (r_eql rfl rfl) (wl_ok (r_assign (v := (.bool (decide ((a.kind : Int) = 6)))) rfl) (wl_nil (then_normal (wc_ifb hs rfl (fun c10 hs => ?_) (fun c10 hs => ?_)))))))
       ·
        refine wc_seq (wc_seq (wc_region (wl_ok (r_fieldAddr Fld71x1 rfl) (wl_ok (r_ldB h 2 rfl One3 rfl rfl) (wl_ok (r_lss rfl rfl) (wl_ok (r_move (v := (.bool (decide ((a.n : Int) < 0)))) rfl) (wl_gd0 rfl rfl (fun q => r_fieldAddr Fld71x1 rfl) (wl_gd0 rfl rfl (fun q => r_ldB h 2 rfl One3 (gvt q) rfl) (wl_gd0 rfl rfl (fun q => r_move (v := vb) rfl) (wl_gd0 rfl rfl (fun q => r_len SliceOf22 (gvt q) (h.srS 1 rfl)) (wl_gd0 rfl rfl (fun q => r_geq (gvt q) (gvt q)) (wl_ok (r_por rfl rfl evc) (wl_nil (then_normal (wc_ifb hs rfl (fun c11 hs => ?_) (fun c11 hs => ?_))))))))))))))))
        ·
         refine wc_seq (wc_region (wl_ok (r_assign (v := (.int .i64 (0))) rfl) (wl_ok (r_assign (v := (.int .i64 (5))) rfl) (wl_nil (then_normal (wc_ret (then_ret (inBlock_ret (then_ret (fin2 (v1 := (.int .i64 (0))) (v2 := (.int .i64 (5))) Tryz.results120 rfl rfl ?_))))))))))
         obtain rfl := Option.some.inj hs
         exact ⟨h.grown, rfl⟩
        ·
         refine wc_skip (then_normal (wc_seq (wc_region (wl_ok (r_move (v := vb) rfl) (wl_ok (r_fieldAddr Fld71x1 rfl) (wl_ok (r_ldB h 2 rfl One3 rfl rfl) ?_))))))
         obtain ⟨x12, e13, hs⟩ := o_bind hs
         obtain ⟨b15, o16, cs17, h, r18, i14⟩ := h.ixS 1 3 rfl SliceOf22 rfl (o_idx e13).1 (o_idx e13).2
         obtain ⟨u19, rfl, g20⟩ := rFun_open r18
         replace h := h.knowRd 4 g20.up
         refine wl_ok (i14 _ _ _ _ _ _ _ _ _ rfl rfl) (wl_ok (r_fieldAddr Fld43x0 rfl) (wl_ok (r_ldP (k := 0) h 3 rfl One3 rfl rfl) (wl_ok (r_assign (v := (.int .i64 (x12.params))) rfl) (wl_ok (r_assign (v := (.int .i64 (0))) rfl) (wl_nil (then_normal (wc_ret (inBlock_ret (then_ret (fin2 (v1 := (.int .i64 (x12.params))) (v2 := (.int .i64 (0))) Tryz.results120 rfl rfl ?_))))))))))
         obtain rfl := Option.some.inj hs
         exact ⟨h.grown, rfl⟩
       ·
        refine wc_seq (wc_region (wl_ok (r_assign (v := (.int .i64 (0))) rfl) (wl_ok (r_assign (v := (.int .i64 (4))) rfl) (wl_nil (then_normal (wc_ret (inBlock_ret (then_ret (fin2 (v1 := (.int .i64 (0))) (v2 := (.int .i64 (4))) Tryz.results120 rfl rfl ?_)))))))))
        obtain rfl := Option.some.inj hs
        exact ⟨h.grown, rfl⟩
def source_Expr_b29 (b : List Fun) (c : Int) (x10 : Tok) (x7 : Int) (nx12 : Int → Option Int) : Option Int :=
  (source_tok x10 b c).bind fun y21 => bif decide ((y21.2 : Int) ≠ 0) then some y21.2 else bif decide ((x7 : Int) = 0) then some 4 else grd (I64 (y21.1 - 1)) (grd (I64 (x7 + (y21.1 - 1))) (nx12 (x7 + (y21.1 - 1))))
def source_Expr_k30 (x7 : Int) : Option Int :=
  bif decide ((0 : Int) < x7) then some 4 else some 0
def source_Expr_j26 (b : List Fun) (c : Int) (a : List Tok) (x2 : Bool) : Option Int :=
  bif x2 then some 3 else each (source_Expr_b29 b c) source_Expr_k30 a 1
def source_Expr_b37 (b : List Fun) (c : Int) (a : List Tok) (i30 : Int) (s : Unit) (nx33 : Unit → Option Int) : Option Int :=
  (idx b i30).bind fun x36 => bif (decide ((x36.params : Int) < 0) || decide ((3 : Int) < x36.params)) then source_Expr_j26 b c a (decide ((0 : Int) ≤ i30)) else nx33 ()
def source_Expr_k38 (b : List Fun) (c : Int) (a : List Tok) (s : Unit) : Option Int :=
  source_Expr_j26 b c a false
def source_Expr (a : List Tok) (b : List Fun) (c : Int) : Option Int :=
  bif decide ((24 : Int) < (a.length : Int)) then some 2 else upto (source_Expr_b37 b c a) (source_Expr_k38 b c a) 0 ((b.length : Int)).toNat ()
theorem source_Expr_c (w0 : World) (M : BS) (hM : ∀ b, M b → b < w0.heap.size) (va : Value) (a : List Tok) (ha : Rd2 rTok w0 BE M va a) (vb : Value) (b : List Fun) (hb : Rd2 rFun w0 BE M vb b) (c : Int) (r : Int) (hs : source_Expr a b c = some r) :
    Calls Tryz.prog 102 #[va, vb, (.int .i64 (c))] w0 (fun e w' => Grow w0 w' ∧ e = .returned (.int .i64 r)) := by
 refine calls_start (args := [va, vb, (.int .i64 (c))]) Tryz.func102 rfl Tryz.ntmps102 (Nat.le_of_ble_eq_true rfl) ?_
 have h := SH.init hM
 replace h := h.argSr 1 ha none_own
 replace h := h.argSr 2 hb (hupd_own_sr none_own)
 have hl_a := ha.len_le
 have hl_b := hb.len_le
 refine wc_seq (wc_region (wl_ok (r_assign (v := (.int .i64 (0))) rfl) (wl_nil (then_normal (wc_seq (wc_seq (wc_region (wl_ok (r_move (v := va) rfl) (wl_ok (r_len SliceOf63 rfl (h.srS 1 rfl)) (wl_ok (r_gtr rfl rfl) (wl_nil (then_normal (wc_ifb hs rfl (fun c1 hs => ?_) (fun c1 hs => ?_))))))))))))))
 ·
  refine wc_seq (wc_region (wl_ok (r_assign (v := (.int .i64 (2))) rfl) (wl_nil (then_normal (wc_ret (then_ret (fin1 (v := (.int .i64 (2))) Tryz.results102 rfl ?_)))))))
  obtain rfl := Option.some.inj hs
  exact ⟨h.grown, rfl⟩
 ·
  refine wc_skip (then_normal (wc_seq (wc_join (σ := Bool) (inl [15, 16]) (fun x2 => [(16, (.bool (x2)))]) (fun x2 w => SH w0 M BE w (hset [(1, .sr rTok va a), (2, .sr rFun vb b)]) ∧ source_Expr_j26 b c a x2 = some r) ?_ ?_)))
  ·
   rintro x2 w junk ⟨h, hs⟩
   refine wc_ifb hs rfl (fun c3 hs => ?_) (fun c3 hs => ?_)
   ·
    refine wc_seq (wc_region (wl_ok (r_assign (v := (.int .i64 (3))) rfl) (wl_nil (then_normal (wc_ret (then_ret (fin1 (v := (.int .i64 (3))) Tryz.results102 rfl ?_)))))))
    obtain rfl := Option.some.inj hs
    exact ⟨h.grown, rfl⟩
   ·
    refine wc_skip (then_normal (wc_seq (wc_region (wl_ok (r_assign (v := (.int .i64 (1))) rfl) (wl_nil (then_normal (wc_seq (wc_seq (wc_region (wl_ok (r_move (v := va) rfl) (wl_ok (r_len SliceOf63 rfl (h.srS 1 rfl)) (wl_ok (r_move (v := (.int .i64 (0))) rfl) (wl_nil (then_normal (wc_block (wc_lp (σ := Nat × Int × Int) (inl [6, 7, 9, 10, 11, 19, 20, 21, 22, 23, 24, 25, 26, 27, 28, 29, 30, 31, 32, 33, 34, 35, 36, 37, 38, 39]) (fun ⟨k8, i9, x7⟩ => [(7, (.int .i64 (x7))), (19, (.int .i64 (i9)))]) (fun ⟨k8, i9, x7⟩ w => SH w0 M BE w (hset [(1, .sr rTok va a), (2, .sr rFun vb b)]) ∧ i9 = (k8 : Int) ∧ each (source_Expr_b29 b c) source_Expr_k30 (a.drop k8) x7 = some r) (fun ⟨k8, i9, x7⟩ => a.length - k8) ⟨0, 0, 1⟩ ⟨rfl, rfl, trivial⟩ ?_ ?_))))))))))))))))
    ·
     exact ⟨h.cn _, rfl, hs⟩
    ·
     rintro ⟨k8, i9, x7⟩ w junk ⟨h, hik, hs⟩
     refine wc_seq (wc_region ?_)
     refine wl_ok (r_lss rfl rfl) (wl_nil (then_normal ?_))
     refine wc_seq (wc_if rfl (fun e13 => ?_) (fun e13 => ?_))
     ·
      refine wc_skip (then_normal ?_)
      obtain ⟨x10, e14a, e14b⟩ := drop_lt (hik ▸ e13)
      rw [e14b, each_cons] at hs
      generalize hnx12 : each (source_Expr_b29 b c) source_Expr_k30 (a.drop (k8 + 1)) = nx12 at hs
      have e14r := nat_rng ((h.srS 1 rfl)).len_le hik e13
      refine wc_seq (wc_block (wc_seq (wc_region ?_)))
      obtain ⟨b16, o17, cs18, h, r19, i15⟩ := h.ixS 1 3 rfl SliceOf63 rfl (nat_nn hik) (get_nat hik e14a)
      obtain rfl := r19
      refine wl_ok (i15 _ _ _ _ _ _ _ _ _ rfl rfl) (wl_ok (r_ldPN (k := 0) (vs := [(.int .i64 (x10.kind)), (.int .i64 (x10.n))]) h 3 rfl Many71 rfl rfl rfl (Nat.le_of_ble_eq_true rfl)) (w_allocN h 4 Many71 fun w b20 h => w_stN (vs := [(.int .i64 (x10.kind)), (.int .i64 (x10.n))]) h 4 [(.int .i64 (x10.kind)), (.int .i64 (x10.n))] rfl Many71 rfl rfl rfl rfl rfl (ones_cons rfl (ones_cons rfl ones_nil)) fun w h => wl_nil (then_normal (wc_seq (wc_region (wl_ok (r_ldBN (vs := [(.int .i64 (x10.kind)), (.int .i64 (x10.n))]) h 4 rfl Many71 rfl rfl rfl) (wl_ok (r_move (v := vb) rfl) (wl_ok (r_move (v := (.int .i64 (c))) rfl) ?_))))))))
      obtain ⟨y21, e22, hs⟩ := o_bind hs
      refine w_call fnOk120 rfl rfl (source_tok_c _ _ h.lt x10 vb b (h.srS 2 rfl) c _ e22) ?_
      rintro _ w ⟨k23, rfl⟩
      refine ⟨_, rfl, ?_⟩
      replace h := h.grow k23
      refine wl_ok (r_move (v := (.tuple #[(.int .i64 (y21.1)), (.int .i64 (y21.2))])) rfl) (wl_ok (r_extract rfl rfl) (wl_ok (r_extract rfl rfl) (wl_ok (r_assign (v := (.int .i64 (y21.1))) rfl) (wl_ok (r_assign (v := (.int .i64 (y21.2))) rfl) (wl_nil (then_normal (wc_seq (wc_seq (wc_region (wl_ok (r_move (v := (.int .i64 (y21.2))) rfl) (wl_ok (r_neq rfl rfl) (wl_nil (then_normal (wc_ifb hs rfl (fun c24 hs => ?_) (fun c24 hs => ?_)))))))))))))))
      ·
       refine wc_seq (wc_region (wl_ok (r_move (v := (.int .i64 (y21.2))) rfl) (wl_ok (r_assign (v := (.int .i64 (y21.2))) rfl) (wl_nil (then_normal (wc_ret (then_ret (inBlock_ret (then_ret (then_ret (inBlock_ret (then_ret (fin1 (v := (.int .i64 (y21.2))) Tryz.results102 rfl ?_)))))))))))))
       obtain rfl := Option.some.inj hs
       exact ⟨h.grown, rfl⟩
      ·
       refine wc_skip (then_normal (wc_seq (wc_seq (wc_region (wl_ok (r_move (v := (.int .i64 (x7))) rfl) (wl_ok (r_eql rfl rfl) (wl_nil (then_normal (wc_ifb hs rfl (fun c25 hs => ?_) (fun c25 hs => ?_))))))))))
       ·
        refine wc_seq (wc_region (wl_ok (r_assign (v := (.int .i64 (4))) rfl) (wl_nil (then_normal (wc_ret (then_ret (inBlock_ret (then_ret (then_ret (inBlock_ret (then_ret (fin1 (v := (.int .i64 (4))) Tryz.results102 rfl ?_))))))))))))
        obtain rfl := Option.some.inj hs
        exact ⟨h.grown, rfl⟩
       ·
        refine wc_skip (then_normal (wc_region (wl_ok (r_move (v := (.int .i64 (x7))) rfl) (wl_ok (r_move (v := (.int .i64 (y21.1))) rfl) ?_))))
        obtain ⟨a26, hs⟩ := o_grd hs
        refine wl_ok (r_sub rfl rfl a26) ?_
        obtain ⟨a27, hs⟩ := o_grd hs
        refine wl_ok (r_add rfl rfl a27) (wl_ok (r_assign (v := (.int .i64 ((x7 + (y21.1 - 1))))) rfl) (wl_nil (inBlock_normal (then_normal (wc_region (wl_ok (r_add rfl rfl e14r) (wl_ok (r_move (v := (.int .i64 ((i9 + 1)))) rfl) (wl_nil (then_loop ?_)))))))))
        subst hnx12
        exact lend ⟨k8 + 1, i9 + 1, (x7 + (y21.1 - 1))⟩ ⟨h.cn _, by omega, hs⟩ (by have := of_decide_eq_true e13; dsimp only; omega)
     ·
      rw [drop_ge (hik ▸ e13), each_nil] at hs
      refine wc_exit (then_exit (then_exit (inBlock_eq (then_normal (wc_seq (wc_seq (wc_region (wl_ok (r_move (v := (.int .i64 (x7))) rfl) (wl_ok (r_gtr rfl rfl) (wl_nil (then_normal (wc_ifb hs rfl (fun c28 hs => ?_) (fun c28 hs => ?_)))))))))))))
      ·
       refine wc_seq (wc_region (wl_ok (r_assign (v := (.int .i64 (4))) rfl) (wl_nil (then_normal (wc_ret (then_ret (fin1 (v := (.int .i64 (4))) Tryz.results102 rfl ?_)))))))
       obtain rfl := Option.some.inj hs
       exact ⟨h.grown, rfl⟩
      ·
       refine wc_skip (then_normal (wc_seq (wc_region (wl_ok (r_assign (v := (.int .i64 (0))) rfl) (wl_nil (then_normal (wc_ret (fin1 (v := (.int .i64 (0))) Tryz.results102 rfl ?_))))))))
       obtain rfl := Option.some.inj hs
       exact ⟨h.grown, rfl⟩
  ·
   refine wc_region (wl_ok (r_move (v := vb) rfl) (w_callIn (args := [vb, (.func (.func 119) #[] #[])]) fnOk118 rfl rfl (calls_start (args := [vb, (.func (.func 119) #[] #[])]) Tryz.func118 rfl Tryz.ntmps118 (Nat.le_of_ble_eq_true rfl) (wc_seq (wc_region (wl_ok (r_assign (v := (.bool (false))) rfl) (wl_nil (then_normal (wc_seq (wc_region (wl_ok (r_move (v := vb) rfl) (wl_ok (r_move (v := (.func (.func 119) #[] #[])) rfl) (w_callIn (args := [vb, (.func (.func 119) #[] #[])]) fnOk133 rfl rfl (calls_start (args := [vb, (.func (.func 119) #[] #[])]) Tryz.func133 rfl Tryz.ntmps133 (Nat.le_of_ble_eq_true rfl) (wc_seq (wc_region (wl_ok (r_assign (v := (.int .i64 (0))) rfl) (wl_nil (then_normal (wc_seq (wc_seq (wc_region (wl_ok (r_move (v := vb) rfl) ?_)))))))))))))))))))))))
   refine wl_ok (r_len SliceOf22 rfl (h.srS 2 rfl)) (wl_ok (r_move (v := (.int .i64 (0))) rfl) (wl_nil (then_normal (wc_block ?_))))
   have hli30 := (h.srS 2 rfl).len_le
   refine wc_lp (σ := Nat × Int) (inl [4, 5, 8, 9, 10, 11, 12, 13, 14, 15, 16, 17, 18]) (fun ⟨k29, i30⟩ => [(8, (.int .i64 (i30)))]) (fun ⟨k29, i30⟩ w => SH w0 M BE w (hset [(1, .sr rTok va a), (2, .sr rFun vb b)]) ∧ i30 = (k29 : Int) ∧ upto (source_Expr_b37 b c a) (source_Expr_k38 b c a) i30 (((b.length : Int)).toNat - k29) () = some r) (fun ⟨k29, i30⟩ => ((b.length : Int)).toNat - k29) ⟨0, 0⟩ ⟨rfl, trivial⟩ ?_ ?_
   ·
    exact ⟨h.cn _, rfl, hs⟩
   ·
    rintro ⟨k29, i30⟩ w junk ⟨h, hik, hs⟩
    refine wc_seq (wc_region ?_)
    refine wl_ok (r_lss rfl rfl) (wl_nil (then_normal ?_))
    refine wc_seq (wc_if rfl (fun e34 => ?_) (fun e34 => ?_))
    ·
     refine wc_skip (then_normal ?_)
     rw [upto_lt (by have := of_decide_eq_true e34; omega)] at hs
     generalize hnx33 : upto (source_Expr_b37 b c a) (source_Expr_k38 b c a) (i30 + 1) (((b.length : Int)).toNat - (k29 + 1)) = nx33 at hs
     have e35r : I64 (i30 + 1) := (by have := of_decide_eq_true e34; have := hli30; exact I64.mk (by omega) (by omega))
     refine wc_seq (wc_block (wc_seq (wc_region (wl_ok (r_move (v := (.int .i64 (i30))) rfl) (wl_ok (r_assign (v := (.int .i64 (i30))) rfl) (wl_nil (then_normal (wc_seq (wc_region (wl_ok (r_move (v := (.func (.func 119) #[] #[])) rfl) (wl_ok (r_move (v := vb) rfl) (wl_ok (r_move (v := (.int .i64 (i30))) rfl) ?_))))))))))))
     obtain ⟨x36, e37, hs⟩ := o_bind hs
     obtain ⟨b39, o40, cs41, h, r42, i38⟩ := h.ixS 2 5 rfl SliceOf22 rfl (o_idx e37).1 (o_idx e37).2
     obtain ⟨u43, rfl, g44⟩ := rFun_open r42
     replace h := h.knowRd 6 g44.up
     refine wl_ok (i38 _ _ _ _ _ _ _ _ _ rfl rfl) (wl_ok (r_ldPN (k := 0) (vs := [(.int .i64 (x36.params)), (.int .i64 (x36.locals)), u43]) h 5 rfl Many43 rfl rfl rfl (Nat.le_of_ble_eq_true rfl)) (w_callIn (args := [(.agg #[(.int .i64 (x36.params)), (.int .i64 (x36.locals)), u43])]) fnOk119 rfl rfl (calls_start (args := [(.agg #[(.int .i64 (x36.params)), (.int .i64 (x36.locals)), u43])]) Tryz.func119 rfl Tryz.ntmps119 (Nat.le_of_ble_eq_true rfl) (wc_seq (wc_region (w_box (cs := [(.int .i64 (x36.params)), (.int .i64 (x36.locals)), u43]) h 7 rfl rfl fun w b45 h => wl_ok (r_assign (v := (.bool (false))) rfl) (wl_nil (then_normal (wc_seq (wc_region (wl_ok (r_fieldAddr Fld43x0 rfl) (wl_ok (r_ldB h 7 rfl One3 rfl rfl) (wl_ok (r_lss rfl rfl) (wl_ok (r_move (v := (.bool (decide ((x36.params : Int) < 0)))) rfl) (wl_gd0 rfl rfl (fun q => r_fieldAddr Fld43x0 rfl) (wl_gd0 rfl rfl (fun q => r_ldB h 7 rfl One3 (gvt q) rfl) (wl_gd0 rfl rfl (fun q => r_gtr (gvt q) rfl) (wl_ok (r_por rfl rfl evc) (wl_ok (r_assign (v := (.bool ((decide ((x36.params : Int) < 0) || decide ((3 : Int) < x36.params))))) rfl) (wl_nil (then_normal (wc_ret ?_))))))))))))))))))))))
     refine fin1 (v := (.bool ((decide ((x36.params : Int) < 0) || decide ((3 : Int) < x36.params))))) Tryz.results119 rfl (⟨_, rfl, ?_⟩)
     refine wl_nil (then_normal (wc_ifb hs rfl (fun c46 hs => ?_) (fun c46 hs => ?_)))
     ·
      refine wc_seq (wc_region (wl_ok (r_move (v := (.int .i64 (i30))) rfl) (wl_ok (r_assign (v := (.int .i64 (i30))) rfl) (wl_nil (then_normal (wc_ret (inBlock_ret (then_ret (then_ret (inBlock_ret (then_ret (fin1 (v := (.int .i64 (i30))) Tryz.results133 rfl (⟨_, rfl, ?_⟩)))))))))))))
      refine wl_ok (r_geq rfl rfl) (wl_ok (r_assign (v := (.bool (decide ((0 : Int) ≤ i30)))) rfl) (wl_nil (then_normal (wc_ret (fin1 (v := (.bool (decide ((0 : Int) ≤ i30)))) Tryz.results118 rfl (⟨_, rfl, ?_⟩))))))
      refine wl_nil (then_loop ?_)
      exact jend (decide ((0 : Int) ≤ i30)) ⟨h.cn _, hs⟩
     ·
      refine wc_skip (inBlock_normal (then_normal (wc_region (wl_ok (r_add rfl rfl e35r) (wl_ok (r_move (v := (.int .i64 ((i30 + 1)))) rfl) (wl_nil (then_loop ?_)))))))
      subst hnx33
      exact lend ⟨k29 + 1, i30 + 1⟩ ⟨h.cn _, by omega, hs⟩ (by have := of_decide_eq_true e34; dsimp only; omega)
    ·
     rw [upto_ge (by have := of_decide_eq_false e34; omega)] at hs
     refine wc_exit (then_exit (then_exit (inBlock_eq (then_normal (wc_seq (wc_region (wl_ok (r_assign (v := (.int .i64 (-1))) rfl) (wl_nil (then_normal (wc_ret (fin1 (v := (.int .i64 (-1))) Tryz.results133 rfl (⟨_, rfl, ?_⟩))))))))))))
     refine wl_ok (r_geq rfl rfl) (wl_ok (r_assign (v := (.bool (false))) rfl) (wl_nil (then_normal (wc_ret (fin1 (v := (.bool (false))) Tryz.results118 rfl (⟨_, rfl, ?_⟩))))))
     refine wl_nil (then_loop ?_)
     exact jend false ⟨h.cn _, hs⟩
def source_stmt_j3 (x4 : Bool) (a : GStmt) (b : List Fun) (c : Int) : Option Int :=
  bif x4 then (source_Expr a.f b c).bind fun y10 => some y10 else some 0
def source_stmt_j2 (a : GStmt) (b : List Fun) (c : Int) (x2 : Bool) (x3 : Bool) (x4 : Bool) (x5 : Bool) (x6 : Bool) : Option Int :=
  bif ((((((!x2) && decide ((a.n : Int) ≠ 0)) || ((!x3) && decide ((0 : Int) < (a.e.length : Int)))) || ((!x4) && decide ((0 : Int) < (a.f.length : Int)))) || ((!x5) && decide ((0 : Int) < (a.a.length : Int)))) || ((!x6) && decide ((0 : Int) < (a.b.length : Int)))) then some 4 else bif ((decide ((a.kind : Int) = 1) && (decide ((a.n : Int) < 0) || decide ((c : Int) ≤ a.n))) || (decide ((a.kind : Int) = 2) && (decide ((a.n : Int) < 0) || decide ((4 : Int) ≤ a.n)))) then some 3 else bif x3 then (source_Expr a.e b c).bind fun y14 => bif decide ((y14 : Int) ≠ 0) then some y14 else source_stmt_j3 x4 a b c else source_stmt_j3 x4 a b c
def source_stmt_j4 (a : GStmt) (b : List Fun) (c : Int) (x20 : Bool) : Option Int :=
  bif x20 then source_stmt_j2 a b c false true false false false else bif decide ((a.kind : Int) = 4) then source_stmt_j2 a b c false false false false false else bif decide ((a.kind : Int) = 6) then source_stmt_j2 a b c false true false true true else bif decide ((a.kind : Int) = 7) then source_stmt_j2 a b c false true false true false else some 4
def source_stmt (a : GStmt) (b : List Fun) (c : Int) : Option Int :=
  bif decide ((a.kind : Int) = 1) then source_stmt_j2 a b c true true false false false else bif decide ((a.kind : Int) = 2) then source_stmt_j2 a b c true true true false false else bif decide ((a.kind : Int) = 3) then source_stmt_j4 a b c (decide ((a.kind : Int) = 3)) else bif decide ((a.kind : Int) = 5) then source_stmt_j4 a b c (decide ((a.kind : Int) = 5)) else source_stmt_j4 a b c (decide ((a.kind : Int) = 8))
theorem source_stmt_c (w0 : World) (M : BS) (hM : ∀ b, M b → b < w0.heap.size) (a : GStmt) (va2 va3 va4 va5 : Value) (ha2 : Rd2 rTok w0 BE M va2 a.e) (ha3 : Rd2 rTok w0 BE M va3 a.f) (ha4 : Rd2 rStmt w0 BE M va4 a.a) (ha5 : Rd2 rStmt w0 BE M va5 a.b) (vb : Value) (b : List Fun) (hb : Rd2 rFun w0 BE M vb b) (c : Int) (r : Int) (hs : source_stmt a b c = some r) :
    Calls Tryz.prog 82 #[(.agg #[(.int .i64 (a.kind)), (.int .i64 (a.n)), va2, va3, va4, va5]), vb, (.int .i64 (c))] w0 (fun e w' => Grow w0 w' ∧ e = .returned (.int .i64 r)) := by
 refine calls_start (args := [(.agg #[(.int .i64 (a.kind)), (.int .i64 (a.n)), va2, va3, va4, va5]), vb, (.int .i64 (c))]) Tryz.func82 rfl Tryz.ntmps82 (Nat.le_of_ble_eq_true rfl) ?_
 have h := SH.init hM
 replace h := h.argSr 1 ha2 none_own
 replace h := h.argSr 2 ha3 (hupd_own_sr none_own)
 replace h := h.argSr 3 ha4 (hupd_own_sr (hupd_own_sr none_own))
 replace h := h.argSr 4 ha5 (hupd_own_sr (hupd_own_sr (hupd_own_sr none_own)))
 replace h := h.argSr 5 hb (hupd_own_sr (hupd_own_sr (hupd_own_sr (hupd_own_sr none_own))))
 have hl_b := hb.len_le
 refine wc_seq (wc_region (w_box (cs := [(.int .i64 (a.kind)), (.int .i64 (a.n)), va2, va3, va4, va5]) h 6 rfl rfl fun w b1 h => wl_ok (r_assign (v := (.int .i64 (0))) rfl) (wl_nil (then_normal (wc_seq (wc_region (wl_ok (r_assign (v := (.bool (false))) rfl) (wl_ok (r_assign (v := (.bool (true))) rfl) (wl_ok (r_assign (v := (.bool (false))) rfl) (wl_nil (then_normal (wc_seq (wc_region (wl_ok (r_assign (v := (.bool (false))) rfl) (wl_ok (r_assign (v := (.bool (false))) rfl) (wl_nil (then_normal (wc_join (σ := Bool × Bool × Bool × Bool × Bool) (inl [6, 7, 8, 9, 10, 11, 13, 14, 15, 16, 17, 18, 19, 20, 21, 22, 23, 24, 25, 26, 27, 28]) (fun ⟨x2, x3, x4, x5, x6⟩ => [(7, (.bool (x2))), (8, (.bool (x3))), (9, (.bool (x4))), (10, (.bool (x5))), (11, (.bool (x6)))]) (fun ⟨x2, x3, x4, x5, x6⟩ w => SH w0 M BE w (hset [(1, .sr rTok va2 a.e), (2, .sr rTok va3 a.f), (3, .sr rStmt va4 a.a), (4, .sr rStmt va5 a.b), (5, .sr rFun vb b), (6, .blk b1 [(.int .i64 (a.kind)), (.int .i64 (a.n)), va2, va3, va4, va5])]) ∧ source_stmt_j2 a b c x2 x3 x4 x5 x6 = some r) ?_ ?_))))))))))))))))))
 ·
  rintro ⟨x2, x3, x4, x5, x6⟩ w junk ⟨h, hs⟩
  refine wc_seq (wc_seq (wc_region (wl_ok (r_move (v := (.bool (x2))) rfl) (wl_ok (r_notb rfl) (wl_ok (r_move (v := (.bool ((!x2)))) rfl) (wl_gd0 rfl rfl (fun q => r_fieldAddr Fld65x1 rfl) (wl_gd0 rfl rfl (fun q => r_ldB h 6 rfl One3 (gvt q) rfl) (wl_gd0 rfl rfl (fun q => r_neq (gvt q) rfl) (wl_ok (r_pand rfl rfl evc) (wl_ok (r_move (v := (.bool (((!x2) && decide ((a.n : Int) ≠ 0))))) rfl) (wl_gd0 rfl rfl (fun q => r_move (v := (.bool (x3))) rfl) (wl_gd0 rfl rfl (fun q => r_notb (gvt q)) (wl_gd0 rfl rfl (fun q => r_move (v := (.bool ((!x3)))) (gvt q)) (wl_gd (((!x2) && decide ((a.n : Int) ≠ 0)) == false) rfl rfl (fun q => r_fieldAddr Fld65x2 rfl) (wl_gd (((!x2) && decide ((a.n : Int) ≠ 0)) == false) rfl rfl (fun q => r_ldB h 6 rfl One63 (gvt q) rfl) (wl_gd (((!x2) && decide ((a.n : Int) ≠ 0)) == false) rfl rfl (fun q => r_len SliceOf63 (gvt q) (h.srS 1 rfl)) (wl_gd (((!x2) && decide ((a.n : Int) ≠ 0)) == false) rfl rfl (fun q => r_gtr (gvt q) rfl) (wl_gd0 rfl rfl (fun q => r_pand (gvt q) (gvn q) evc) (wl_ok (r_por rfl rfl evc) (wl_ok (r_move (v := (.bool ((((!x2) && decide ((a.n : Int) ≠ 0)) || ((!x3) && decide ((0 : Int) < (a.e.length : Int))))))) rfl) (wl_gd0 rfl rfl (fun q => r_move (v := (.bool (x4))) rfl) (wl_gd0 rfl rfl (fun q => r_notb (gvt q)) (wl_gd0 rfl rfl (fun q => r_move (v := (.bool ((!x4)))) (gvt q)) ?_)))))))))))))))))))))))
  refine wl_gd ((((!x2) && decide ((a.n : Int) ≠ 0)) || ((!x3) && decide ((0 : Int) < (a.e.length : Int)))) == false) rfl rfl (fun q => r_fieldAddr Fld65x3 rfl) (wl_gd ((((!x2) && decide ((a.n : Int) ≠ 0)) || ((!x3) && decide ((0 : Int) < (a.e.length : Int)))) == false) rfl rfl (fun q => r_ldB h 6 rfl One63 (gvt q) rfl) (wl_gd ((((!x2) && decide ((a.n : Int) ≠ 0)) || ((!x3) && decide ((0 : Int) < (a.e.length : Int)))) == false) rfl rfl (fun q => r_len SliceOf63 (gvt q) (h.srS 2 rfl)) (wl_gd ((((!x2) && decide ((a.n : Int) ≠ 0)) || ((!x3) && decide ((0 : Int) < (a.e.length : Int)))) == false) rfl rfl (fun q => r_gtr (gvt q) rfl) (wl_gd0 rfl rfl (fun q => r_pand (gvt q) (gvn q) evc) (wl_ok (r_por rfl rfl evc) (wl_ok (r_move (v := (.bool (((((!x2) && decide ((a.n : Int) ≠ 0)) || ((!x3) && decide ((0 : Int) < (a.e.length : Int)))) || ((!x4) && decide ((0 : Int) < (a.f.length : Int))))))) rfl) (wl_gd0 rfl rfl (fun q => r_move (v := (.bool (x5))) rfl) (wl_gd0 rfl rfl (fun q => r_notb (gvt q)) (wl_gd0 rfl rfl (fun q => r_move (v := (.bool ((!x5)))) (gvt q)) (wl_gd (((((!x2) && decide ((a.n : Int) ≠ 0)) || ((!x3) && decide ((0 : Int) < (a.e.length : Int)))) || ((!x4) && decide ((0 : Int) < (a.f.length : Int)))) == false) rfl rfl (fun q => r_fieldAddr Fld65x4 rfl) (wl_gd (((((!x2) && decide ((a.n : Int) ≠ 0)) || ((!x3) && decide ((0 : Int) < (a.e.length : Int)))) || ((!x4) && decide ((0 : Int) < (a.f.length : Int)))) == false) rfl rfl (fun q => r_ldB h 6 rfl One41 (gvt q) rfl) (wl_gd (((((!x2) && decide ((a.n : Int) ≠ 0)) || ((!x3) && decide ((0 : Int) < (a.e.length : Int)))) || ((!x4) && decide ((0 : Int) < (a.f.length : Int)))) == false) rfl rfl (fun q => r_len SliceOf41 (gvt q) (h.srS 3 rfl)) (wl_gd (((((!x2) && decide ((a.n : Int) ≠ 0)) || ((!x3) && decide ((0 : Int) < (a.e.length : Int)))) || ((!x4) && decide ((0 : Int) < (a.f.length : Int)))) == false) rfl rfl (fun q => r_gtr (gvt q) rfl) (wl_gd0 rfl rfl (fun q => r_pand (gvt q) (gvn q) evc) (wl_ok (r_por rfl rfl evc) (wl_ok (r_move (v := (.bool ((((((!x2) && decide ((a.n : Int) ≠ 0)) || ((!x3) && decide ((0 : Int) < (a.e.length : Int)))) || ((!x4) && decide ((0 : Int) < (a.f.length : Int)))) || ((!x5) && decide ((0 : Int) < (a.a.length : Int))))))) rfl) (wl_gd0 rfl rfl (fun q => r_move (v := (.bool (x6))) rfl) (wl_gd0 rfl rfl (fun q => r_notb (gvt q)) (wl_gd0 rfl rfl (fun q => r_move (v := (.bool ((!x6)))) (gvt q)) (wl_gd ((((((!x2) && decide ((a.n : Int) ≠ 0)) || ((!x3) && decide ((0 : Int) < (a.e.length : Int)))) || ((!x4) && decide ((0 : Int) < (a.f.length : Int)))) || ((!x5) && decide ((0 : Int) < (a.a.length : Int)))) == false) rfl rfl (fun q => r_fieldAddr Fld65x5 rfl) (wl_gd ((((((!x2) && decide ((a.n : Int) ≠ 0)) || ((!x3) && decide ((0 : Int) < (a.e.length : Int)))) || ((!x4) && decide ((0 : Int) < (a.f.length : Int)))) || ((!x5) && decide ((0 : Int) < (a.a.length : Int)))) == false) rfl rfl (fun q => r_ldB h 6 rfl One41 (gvt q) rfl) (wl_gd ((((((!x2) && decide ((a.n : Int) ≠ 0)) || ((!x3) && decide ((0 : Int) < (a.e.length : Int)))) || ((!x4) && decide ((0 : Int) < (a.f.length : Int)))) || ((!x5) && decide ((0 : Int) < (a.a.length : Int)))) == false) rfl rfl (fun q => r_len SliceOf41 (gvt q) (h.srS 4 rfl)) (wl_gd ((((((!x2) && decide ((a.n : Int) ≠ 0)) || ((!x3) && decide ((0 : Int) < (a.e.length : Int)))) || ((!x4) && decide ((0 : Int) < (a.f.length : Int)))) || ((!x5) && decide ((0 : Int) < (a.a.length : Int)))) == false) rfl rfl (fun q => r_gtr (gvt q) rfl) ?_)))))))))))))))))))))))
  refine wl_gd0 rfl rfl (fun q => r_pand (gvt q) (gvn q) evc) (wl_ok (r_por rfl rfl evc) (wl_nil (then_normal (wc_ifb hs rfl (fun c7 hs => ?_) (fun c7 hs => ?_)))))
  ·
   refine wc_seq (wc_region (wl_ok (r_assign (v := (.int .i64 (4))) rfl) (wl_nil (then_normal (wc_ret (then_ret (fin1 (v := (.int .i64 (4))) Tryz.results82 rfl ?_)))))))
   obtain rfl := Option.some.inj hs
   exact ⟨h.grown, rfl⟩
  ·
   refine wc_skip (then_normal (wc_seq (wc_seq (wc_region (wl_ok (r_fieldAddr Fld65x0 rfl) (wl_ok (r_ldB h 6 rfl One3 rfl rfl) (wl_ok (r_eql rfl rfl) (wl_ok (r_move (v := (.bool (decide ((a.kind : Int) = 1)))) rfl) (wl_gd0 rfl rfl (fun q => r_fieldAddr Fld65x1 rfl) (wl_gd0 rfl rfl (fun q => r_ldB h 6 rfl One3 (gvt q) rfl) (wl_gd0 rfl rfl (fun q => r_lss (gvt q) rfl) (wl_gd0 rfl rfl (fun q => r_move (v := (.bool (decide ((a.n : Int) < 0)))) (gvt q)) (wl_gd (decide ((a.kind : Int) = 1) == true) rfl rfl (fun q => r_fieldAddr Fld65x1 rfl) (wl_gd (decide ((a.kind : Int) = 1) == true) rfl rfl (fun q => r_ldB h 6 rfl One3 (gvt q) rfl) (wl_gd (decide ((a.kind : Int) = 1) == true) rfl rfl (fun q => r_move (v := (.int .i64 (c))) rfl) (wl_gd (decide ((a.kind : Int) = 1) == true) rfl rfl (fun q => r_geq (gvt q) (gvt q)) (wl_gd0 rfl rfl (fun q => r_por (gvt q) (gvn q) evc) (wl_ok (r_pand rfl rfl evc) (wl_ok (r_move (v := (.bool ((decide ((a.kind : Int) = 1) && (decide ((a.n : Int) < 0) || decide ((c : Int) ≤ a.n)))))) rfl) (wl_gd0 rfl rfl (fun q => r_fieldAddr Fld65x0 rfl) (wl_gd0 rfl rfl (fun q => r_ldB h 6 rfl One3 (gvt q) rfl) (wl_gd0 rfl rfl (fun q => r_eql (gvt q) rfl) (wl_gd0 rfl rfl (fun q => r_move (v := (.bool (decide ((a.kind : Int) = 2)))) (gvt q)) ?_)))))))))))))))))))))))
   refine wl_gd ((decide ((a.kind : Int) = 1) && (decide ((a.n : Int) < 0) || decide ((c : Int) ≤ a.n))) == false) rfl rfl (fun q => r_fieldAddr Fld65x1 rfl) (wl_gd ((decide ((a.kind : Int) = 1) && (decide ((a.n : Int) < 0) || decide ((c : Int) ≤ a.n))) == false) rfl rfl (fun q => r_ldB h 6 rfl One3 (gvt q) rfl) (wl_gd ((decide ((a.kind : Int) = 1) && (decide ((a.n : Int) < 0) || decide ((c : Int) ≤ a.n))) == false) rfl rfl (fun q => r_lss (gvt q) rfl) (wl_gd ((decide ((a.kind : Int) = 1) && (decide ((a.n : Int) < 0) || decide ((c : Int) ≤ a.n))) == false) rfl rfl (fun q => r_move (v := (.bool (decide ((a.n : Int) < 0)))) (gvt q)) (wl_gd (((decide ((a.kind : Int) = 1) && (decide ((a.n : Int) < 0) || decide ((c : Int) ≤ a.n))) == false) && (decide ((a.kind : Int) = 2) == true)) rfl rfl (fun q => r_fieldAddr Fld65x1 rfl) (wl_gd (((decide ((a.kind : Int) = 1) && (decide ((a.n : Int) < 0) || decide ((c : Int) ≤ a.n))) == false) && (decide ((a.kind : Int) = 2) == true)) rfl rfl (fun q => r_ldB h 6 rfl One3 (gvt q) rfl) (wl_gd (((decide ((a.kind : Int) = 1) && (decide ((a.n : Int) < 0) || decide ((c : Int) ≤ a.n))) == false) && (decide ((a.kind : Int) = 2) == true)) rfl rfl (fun q => r_geq (gvt q) rfl) (wl_gd ((decide ((a.kind : Int) = 1) && (decide ((a.n : Int) < 0) || decide ((c : Int) ≤ a.n))) == false) rfl rfl (fun q => r_por (gvt q) (gvn q) evc) (wl_gd0 rfl rfl (fun q => r_pand (gvt q) (gvn q) evc) (wl_ok (r_por rfl rfl evc) (wl_nil (then_normal (wc_ifb hs rfl (fun c8 hs => ?_) (fun c8 hs => ?_)))))))))))))
   ·
    refine wc_seq (wc_region (wl_ok (r_assign (v := (.int .i64 (3))) rfl) (wl_nil (then_normal (wc_ret (then_ret (fin1 (v := (.int .i64 (3))) Tryz.results82 rfl ?_)))))))
    obtain rfl := Option.some.inj hs
    exact ⟨h.grown, rfl⟩
   ·
    refine wc_skip (then_normal (wc_join (σ := Unit) (inl [6, 12, 105, 106, 107, 108, 109, 110, 111, 112, 113]) (fun _ => []) (fun _ w => SH w0 M BE w (hset [(1, .sr rTok va2 a.e), (2, .sr rTok va3 a.f), (3, .sr rStmt va4 a.a), (4, .sr rStmt va5 a.b), (5, .sr rFun vb b), (6, .blk b1 [(.int .i64 (a.kind)), (.int .i64 (a.n)), va2, va3, va4, va5])]) ∧ source_stmt_j3 x4 a b c = some r) ?_ ?_))
    ·
     rintro ⟨⟩ w junk ⟨h, hs⟩
     refine wc_seq (wc_seq (wc_region (wl_ok (r_move (v := (.bool (x4))) rfl) (wl_nil (then_normal (wc_ifb hs rfl (fun c9 hs => ?_) (fun c9 hs => ?_)))))))
     ·
      refine wc_seq (wc_region (wl_ok (r_fieldAddr Fld65x3 rfl) (wl_ok (r_ldB h 6 rfl One63 rfl rfl) (wl_ok (r_move (v := vb) rfl) (wl_ok (r_move (v := (.int .i64 (c))) rfl) ?_)))))
      obtain ⟨y10, e11, hs⟩ := o_bind hs
      refine w_call fnOk102 rfl rfl (source_Expr_c _ _ h.lt va3 a.f (h.srS 2 rfl) vb b (h.srS 5 rfl) c _ e11) ?_
      rintro _ w ⟨k12, rfl⟩
      refine ⟨_, rfl, ?_⟩
      replace h := h.grow k12
      refine wl_ok (r_assign (v := (.int .i64 (y10))) rfl) (wl_nil (then_normal (wc_ret (then_ret (fin1 (v := (.int .i64 (y10))) Tryz.results82 rfl ?_)))))
      obtain rfl := Option.some.inj hs
      exact ⟨h.grown, rfl⟩
     ·
      refine wc_skip (then_normal (wc_seq (wc_region (wl_ok (r_assign (v := (.int .i64 (0))) rfl) (wl_nil (then_normal (wc_ret (fin1 (v := (.int .i64 (0))) Tryz.results82 rfl ?_))))))))
      obtain rfl := Option.some.inj hs
      exact ⟨h.grown, rfl⟩
    ·
     refine wc_seq (wc_region (wl_ok (r_move (v := (.bool (x3))) rfl) (wl_nil (then_normal (wc_ifb hs rfl (fun c13 hs => ?_) (fun c13 hs => ?_))))))
     ·
      refine wc_seq (wc_region (wl_ok (r_fieldAddr Fld65x2 rfl) (wl_ok (r_ldB h 6 rfl One63 rfl rfl) (wl_ok (r_move (v := vb) rfl) (wl_ok (r_move (v := (.int .i64 (c))) rfl) ?_)))))
      obtain ⟨y14, e15, hs⟩ := o_bind hs
      refine w_call fnOk102 rfl rfl (source_Expr_c _ _ h.lt va2 a.e (h.srS 1 rfl) vb b (h.srS 5 rfl) c _ e15) ?_
      rintro _ w ⟨k16, rfl⟩
      refine ⟨_, rfl, ?_⟩
      replace h := h.grow k16
      refine wl_ok (r_assign (v := (.int .i64 (y14))) rfl) (wl_nil (then_normal (wc_seq (wc_region (wl_ok (r_move (v := (.int .i64 (y14))) rfl) (wl_ok (r_neq rfl rfl) (wl_nil (then_normal (wc_ifb hs rfl (fun c17 hs => ?_) (fun c17 hs => ?_))))))))))
      ·
       refine wc_seq (wc_region (wl_ok (r_move (v := (.int .i64 (y14))) rfl) (wl_ok (r_assign (v := (.int .i64 (y14))) rfl) (wl_nil (then_normal (wc_ret (then_ret (fin1 (v := (.int .i64 (y14))) Tryz.results82 rfl ?_))))))))
       obtain rfl := Option.some.inj hs
       exact ⟨h.grown, rfl⟩
      ·
       refine wc_skip (then_loop ?_)
       exact jend () ⟨h.cn _, hs⟩
     ·
      refine wc_skip (then_loop ?_)
      exact jend () ⟨h.cn _, hs⟩
 ·
  refine wc_seq (wc_region (wl_ok (r_fieldAddr Fld65x0 rfl) (wl_ok (r_ldB h 6 rfl One3 rfl rfl) (wl_nil (then_normal (wc_block (wc_seq (wc_region (wl_ok (r_eql rfl rfl) (wl_ok (r_assign (v := (.bool (decide ((a.kind : Int) = 1)))) rfl) (wl_nil (then_normal (wc_ifb hs rfl (fun c18 hs => ?_) (fun c18 hs => ?_))))))))))))))
  ·
   refine wc_region (wl_ok (r_assign (v := (.bool (true))) rfl) (wl_nil (inBlock_normal (then_loop ?_))))
   exact jend (true, true, false, false, false) ⟨h.cn _, hs⟩
  ·
   refine wc_seq (wc_region (wl_ok (r_eql rfl rfl) (wl_ok (r_assign (v := (.bool (decide ((a.kind : Int) = 2)))) rfl) (wl_nil (then_normal (wc_ifb hs rfl (fun c19 hs => ?_) (fun c19 hs => ?_)))))))
   ·
    refine wc_region (wl_ok (r_assign (v := (.bool (true))) rfl) (wl_ok (r_assign (v := (.bool (true))) rfl) (wl_nil (inBlock_normal (then_loop ?_)))))
    exact jend (true, true, true, false, false) ⟨h.cn _, hs⟩
   ·
    refine wc_join (σ := Bool) (inl [19, 20, 21, 22]) (fun x20 => [(19, (.bool (x20)))]) (fun x20 w => SH w0 M BE w (hset [(1, .sr rTok va2 a.e), (2, .sr rTok va3 a.f), (3, .sr rStmt va4 a.a), (4, .sr rStmt va5 a.b), (5, .sr rFun vb b), (6, .blk b1 [(.int .i64 (a.kind)), (.int .i64 (a.n)), va2, va3, va4, va5])]) ∧ source_stmt_j4 a b c x20 = some r) ?_ ?_
    ·
     rintro x20 w junk ⟨h, hs⟩
     refine wc_ifb hs rfl (fun c21 hs => ?_) (fun c21 hs => ?_)
     ·
      refine wc_skip (inBlock_normal (then_loop ?_))
      exact jend (false, true, false, false, false) ⟨h.cn _, hs⟩
     ·
      refine wc_seq (wc_region (wl_ok (r_eql rfl rfl) (wl_ok (r_assign (v := (.bool (decide ((a.kind : Int) = 4)))) rfl) (wl_nil (then_normal (wc_ifb hs rfl (fun c22 hs => ?_) (fun c22 hs => ?_)))))))
      ·
       refine wc_region (wl_ok (r_assign (v := (.bool (false))) rfl) (wl_nil (inBlock_normal (then_loop ?_))))
       exact jend (false, false, false, false, false) ⟨h.cn _, hs⟩
      ·
       refine wc_seq (wc_region (wl_ok (r_eql rfl rfl) (wl_ok (r_assign (v := (.bool (decide ((a.kind : Int) = 6)))) rfl) (wl_nil (then_normal (wc_ifb hs rfl (fun c23 hs => ?_) (fun c23 hs => ?_)))))))
       ·
        refine wc_region (wl_ok (r_assign (v := (.bool (true))) rfl) (wl_ok (r_assign (v := (.bool (true))) rfl) (wl_nil (inBlock_normal (then_loop ?_)))))
        exact jend (false, true, false, true, true) ⟨h.cn _, hs⟩
       ·
        refine wc_seq (wc_region (wl_ok (r_eql rfl rfl) (wl_ok (r_assign (v := (.bool (decide ((a.kind : Int) = 7)))) rfl) (wl_nil (then_normal (wc_ifb hs rfl (fun c24 hs => ?_) (fun c24 hs => ?_)))))))
        ·
         refine wc_region (wl_ok (r_assign (v := (.bool (true))) rfl) (wl_nil (inBlock_normal (then_loop ?_))))
         exact jend (false, true, false, true, false) ⟨h.cn _, hs⟩
        ·
         refine wc_seq (wc_region (wl_ok (r_assign (v := (.int .i64 (4))) rfl) (wl_nil (then_normal (wc_ret (inBlock_ret (then_ret (fin1 (v := (.int .i64 (4))) Tryz.results82 rfl ?_))))))))
         obtain rfl := Option.some.inj hs
         exact ⟨h.grown, rfl⟩
    ·
     refine wc_seq (wc_region (wl_ok (r_eql rfl rfl) (wl_ok (r_assign (v := (.bool (decide ((a.kind : Int) = 3)))) rfl) (wl_nil (then_normal (wc_ifb hs rfl (fun c25 hs => ?_) (fun c25 hs => ?_)))))))
     ·
      refine wc_skip (then_loop ?_)
      exact jend (decide ((a.kind : Int) = 3)) ⟨h.cn _, hs⟩
     ·
      refine wc_seq (wc_region (wl_ok (r_eql rfl rfl) (wl_ok (r_assign (v := (.bool (decide ((a.kind : Int) = 5)))) rfl) (wl_nil (then_normal (wc_ifb hs rfl (fun c26 hs => ?_) (fun c26 hs => ?_)))))))
      ·
       refine wc_skip (then_loop ?_)
       exact jend (decide ((a.kind : Int) = 5)) ⟨h.cn _, hs⟩
      ·
       refine wc_region (wl_ok (r_eql rfl rfl) (wl_ok (r_assign (v := (.bool (decide ((a.kind : Int) = 8)))) rfl) (wl_nil (then_loop ?_))))
       exact jend (decide ((a.kind : Int) = 8)) ⟨h.cn _, hs⟩
def source_stmts_b3 (F0 : List GStmt → List Fun → Int → Option Int) (b : List Fun) (c : Int) (a : List GStmt) (x3 : GStmt) (s : Unit) (nx5 : Unit → Option Int) : Option Int :=
  (source_stmt x3 b c).bind fun y22 => bif decide ((y22 : Int) ≠ 0) then some y22 else (F0 x3.a b c).bind fun y26 => bif decide ((y26 : Int) ≠ 0) then some y26 else (F0 x3.b b c).bind fun y30 => bif decide ((y30 : Int) ≠ 0) then some y30 else nx5 ()
def source_stmts_k4 (s : Unit) : Option Int :=
  some 0
def source_stmts_r (F0 : List GStmt → List Fun → Int → Option Int) (a : List GStmt) (b : List Fun) (c : Int) : Option Int :=
  each (source_stmts_b3 F0 b c a) source_stmts_k4 a ()
def source_stmts : Nat → List GStmt → List Fun → Int → Option Int
  | 0 => fun _ _ _ => none
  | N + 1 => source_stmts_r (source_stmts N)
theorem source_stmts_c : ∀ (N : Nat) (w0 : World) (M : BS) (hM : ∀ b, M b → b < w0.heap.size) (va : Value) (a : List GStmt) (ha : Rd2 rStmt w0 BE M va a) (vb : Value) (b : List Fun) (hb : Rd2 rFun w0 BE M vb b) (c : Int) (r : Int) (hs : source_stmts N a b c = some r),
    Calls Tryz.prog 57 #[va, vb, (.int .i64 (c))] w0 (fun e w' => Grow w0 w' ∧ e = .returned (.int .i64 r)) := by
  intro N
  induction N with
  | zero => intro w0 M hM va a ha vb b hb c r hs; cases hs
  | succ N ih =>
  intro w0 M hM va a ha vb b hb c r hs
  replace hs : source_stmts_r (source_stmts N) a b c = some r := hs
  generalize source_stmts N = F0 at hs ih
  refine calls_start (args := [va, vb, (.int .i64 (c))]) Tryz.func57 rfl Tryz.ntmps57 (Nat.le_of_ble_eq_true rfl) ?_
  have h := SH.init hM
  replace h := h.argSr 1 ha none_own
  replace h := h.argSr 2 hb (hupd_own_sr none_own)
  have hl_a := ha.len_le
  have hl_b := hb.len_le
  refine wc_seq (wc_region (wl_ok (r_assign (v := (.int .i64 (0))) rfl) (wl_nil (then_normal (wc_seq (wc_seq (wc_region (wl_ok (r_move (v := va) rfl) (wl_ok (r_len SliceOf41 rfl (h.srS 1 rfl)) (wl_ok (r_move (v := (.int .i64 (0))) rfl) (wl_nil (then_normal (wc_block (wc_lp (σ := Nat × Int) (inl [6, 8, 9, 11, 12, 15, 16, 17, 18, 19, 20, 21, 22, 23, 24, 25, 26, 27, 28, 29, 30, 31, 32, 33, 34, 35, 36, 37, 38, 39, 40, 41, 42]) (fun ⟨k1, i2⟩ => [(15, (.int .i64 (i2)))]) (fun ⟨k1, i2⟩ w => SH w0 M BE w (hset [(1, .sr rStmt va a), (2, .sr rFun vb b)]) ∧ i2 = (k1 : Int) ∧ each (source_stmts_b3 F0 b c a) source_stmts_k4 (a.drop k1) () = some r) (fun ⟨k1, i2⟩ => a.length - k1) ⟨0, 0⟩ ⟨rfl, trivial⟩ ?_ ?_))))))))))))))
  ·
   exact ⟨h.cn _, rfl, hs⟩
  ·
   rintro ⟨k1, i2⟩ w junk ⟨h, hik, hs⟩
   refine wc_seq (wc_region ?_)
   refine wl_ok (r_lss rfl rfl) (wl_nil (then_normal ?_))
   refine wc_seq (wc_if rfl (fun e6 => ?_) (fun e6 => ?_))
   ·
    refine wc_skip (then_normal ?_)
    obtain ⟨x3, e7a, e7b⟩ := drop_lt (hik ▸ e6)
    rw [e7b, each_cons] at hs
    generalize hnx5 : each (source_stmts_b3 F0 b c a) source_stmts_k4 (a.drop (k1 + 1)) = nx5 at hs
    have e7r := nat_rng ((h.srS 1 rfl)).len_le hik e6
    refine wc_seq (wc_block (wc_seq (wc_region ?_)))
    obtain ⟨b9, o10, cs11, h, r12, i8⟩ := h.ixS 1 3 rfl SliceOf41 rfl (nat_nn hik) (get_nat hik e7a)
    obtain ⟨u13, u15, u17, u19, rfl, g14, g16, g18, g20⟩ := rStmt_open r12
    replace h := h.knowRd 4 g14.up
    replace h := h.knowRd 5 g16.up.up
    replace h := h.knowRd 6 g18.up.up.up
    replace h := h.knowRd 7 g20.up.up.up.up
    refine wl_ok (i8 _ _ _ _ _ _ _ _ _ rfl rfl) (wl_ok (r_ldPN (k := 0) (vs := [(.int .i64 (x3.kind)), (.int .i64 (x3.n)), u13, u15, u17, u19]) h 3 rfl Many65 rfl rfl rfl (Nat.le_of_ble_eq_true rfl)) (w_allocN h 8 Many65 fun w b21 h => w_stN (vs := [(.int .i64 (x3.kind)), (.int .i64 (x3.n)), u13, u15, u17, u19]) h 8 [(.int .i64 (x3.kind)), (.int .i64 (x3.n)), u13, u15, u17, u19] rfl Many65 rfl rfl rfl rfl rfl (ones_cons rfl (ones_cons rfl (ones_cons (h.rdAt 4 rfl).one (ones_cons (h.rdAt 5 rfl).one (ones_cons (h.rdAt 6 rfl).one (ones_cons (h.rdAt 7 rfl).one ones_nil)))))) fun w h => wl_nil (then_normal (wc_seq (wc_seq (wc_region (wl_ok (r_ldBN (vs := [(.int .i64 (x3.kind)), (.int .i64 (x3.n)), u13, u15, u17, u19]) h 8 rfl Many65 rfl rfl rfl) (wl_ok (r_move (v := vb) rfl) (wl_ok (r_move (v := (.int .i64 (c))) rfl) ?_)))))))))
    obtain ⟨y22, e23, hs⟩ := o_bind hs
    refine w_call fnOk82 rfl rfl (source_stmt_c _ _ h.lt x3 u13 u15 u17 u19 (h.rdS 4 rfl) (h.rdS 5 rfl) (h.rdS 6 rfl) (h.rdS 7 rfl) vb b (h.srS 2 rfl) c _ e23) ?_
    rintro _ w ⟨k24, rfl⟩
    refine ⟨_, rfl, ?_⟩
    replace h := h.grow k24
    refine wl_ok (r_assign (v := (.int .i64 (y22))) rfl) (wl_nil (then_normal (wc_seq (wc_region (wl_ok (r_move (v := (.int .i64 (y22))) rfl) (wl_ok (r_neq rfl rfl) (wl_nil (then_normal (wc_ifb hs rfl (fun c25 hs => ?_) (fun c25 hs => ?_))))))))))
    ·
     refine wc_seq (wc_region (wl_ok (r_move (v := (.int .i64 (y22))) rfl) (wl_ok (r_assign (v := (.int .i64 (y22))) rfl) (wl_nil (then_normal (wc_ret (then_ret (inBlock_ret (then_ret (then_ret (inBlock_ret (then_ret (fin1 (v := (.int .i64 (y22))) Tryz.results57 rfl ?_)))))))))))))
     obtain rfl := Option.some.inj hs
     exact ⟨h.grown, rfl⟩
    ·
     refine wc_skip (then_normal (wc_seq (wc_region (wl_ok (r_fieldAddr Fld65x4 rfl) (wl_ok (r_ldB h 8 rfl One41 rfl rfl) (wl_ok (r_fieldAddr Fld65x5 rfl) (wl_ok (r_ldB h 8 rfl One41 rfl rfl) (wl_ok (r_build2 Arr2124 rfl rfl (h.rdAt 6 rfl).one (h.rdAt 7 rfl).one) (wl_ok (r_move (v := (.int .i64 (0))) rfl) (wl_nil (then_normal (wc_block (wc_rounds 2 (wc_seq (wc_region (wl_ok (r_lss rfl rfl) (wl_nil (then_normal (wc_seq (wc_ift rfl (wc_skip (then_normal (wc_seq ?_)))))))))))))))))))))))
     refine wc_block (wc_seq (wc_region (wl_ok (r_index2 (k := 0) Arr2124 rfl rfl rfl) (wl_ok (r_assign (v := u17) rfl) (wl_nil (then_normal (wc_seq (wc_region (wl_ok (r_move (v := u17) rfl) (wl_ok (r_move (v := vb) rfl) (wl_ok (r_move (v := (.int .i64 (c))) rfl) ?_)))))))))))
     obtain ⟨y26, e27, hs⟩ := o_bind hs
     refine w_call fnOk57 rfl rfl (ih _ _ h.lt u17 x3.a (h.rdS 6 rfl) vb b (h.srS 2 rfl) c _ e27) ?_
     rintro _ w ⟨k28, rfl⟩
     refine ⟨_, rfl, ?_⟩
     replace h := h.grow k28
     refine wl_ok (r_assign (v := (.int .i64 (y26))) rfl) (wl_nil (then_normal (wc_seq (wc_region (wl_ok (r_move (v := (.int .i64 (y26))) rfl) (wl_ok (r_neq rfl rfl) (wl_nil (then_normal (wc_ifb hs rfl (fun c29 hs => ?_) (fun c29 hs => ?_))))))))))
     ·
      refine wc_seq (wc_region (wl_ok (r_move (v := (.int .i64 (y26))) rfl) (wl_ok (r_assign (v := (.int .i64 (y26))) rfl) (wl_nil (then_normal (wc_ret (inBlock_ret (then_ret (then_ret (inBlock_ret (inBlock_ret (then_ret (then_ret (inBlock_ret (then_ret (fin1 (v := (.int .i64 (y26))) Tryz.results57 rfl ?_))))))))))))))))
      obtain rfl := Option.some.inj hs
      exact ⟨h.grown, rfl⟩
     ·
      refine wc_skip (inBlock_normal (then_normal (wc_region (wl_ok (r_add rfl rfl (by decide)) (wl_ok (r_move (v := (.int .i64 (1))) rfl) (wl_nil (then_round (wc_seq (wc_region (wl_ok (r_lss rfl rfl) (wl_nil (then_normal (wc_seq (wc_ift rfl (wc_skip (then_normal (wc_seq (wc_block (wc_seq (wc_region (wl_ok (r_index2 (k := 1) Arr2124 rfl rfl rfl) (wl_ok (r_assign (v := u19) rfl) (wl_nil ?_)))))))))))))))))))))))
      refine then_normal (wc_seq (wc_region (wl_ok (r_move (v := u19) rfl) (wl_ok (r_move (v := vb) rfl) (wl_ok (r_move (v := (.int .i64 (c))) rfl) ?_)))))
      obtain ⟨y30, e31, hs⟩ := o_bind hs
      refine w_call fnOk57 rfl rfl (ih _ _ h.lt u19 x3.b (h.rdS 7 rfl) vb b (h.srS 2 rfl) c _ e31) ?_
      rintro _ w ⟨k32, rfl⟩
      refine ⟨_, rfl, ?_⟩
      replace h := h.grow k32
      refine wl_ok (r_assign (v := (.int .i64 (y30))) rfl) (wl_nil (then_normal (wc_seq (wc_region (wl_ok (r_move (v := (.int .i64 (y30))) rfl) (wl_ok (r_neq rfl rfl) (wl_nil (then_normal (wc_ifb hs rfl (fun c33 hs => ?_) (fun c33 hs => ?_))))))))))
      ·
       refine wc_seq (wc_region (wl_ok (r_move (v := (.int .i64 (y30))) rfl) (wl_ok (r_assign (v := (.int .i64 (y30))) rfl) (wl_nil (then_normal (wc_ret (inBlock_ret (then_ret (then_ret (inBlock_ret (inBlock_ret (then_ret (then_ret (inBlock_ret (then_ret (fin1 (v := (.int .i64 (y30))) Tryz.results57 rfl ?_))))))))))))))))
       obtain rfl := Option.some.inj hs
       exact ⟨h.grown, rfl⟩
      ·
       refine wc_skip (inBlock_normal (then_normal (wc_region (wl_ok (r_add rfl rfl (by decide)) (wl_ok (r_move (v := (.int .i64 (2))) rfl) (wl_nil (then_round (wc_seq (wc_region (wl_ok (r_lss rfl rfl) (wl_nil (then_normal (wc_seq (wc_iff rfl (wc_exit (then_exit (then_exit (inBlock_eq (inBlock_normal (then_normal (wc_region (wl_ok (r_add rfl rfl e7r) (wl_ok (r_move (v := (.int .i64 ((i2 + 1)))) rfl) ?_)))))))))))))))))))))))
       refine wl_nil (then_loop ?_)
       subst hnx5
       exact lend ⟨k1 + 1, i2 + 1⟩ ⟨h.cn _, by omega, hs⟩ (by have := of_decide_eq_true e6; dsimp only; omega)
   ·
    rw [drop_ge (hik ▸ e6), each_nil] at hs
    refine wc_exit (then_exit (then_exit (inBlock_eq (then_normal (wc_seq (wc_region (wl_ok (r_assign (v := (.int .i64 (0))) rfl) (wl_nil (then_normal (wc_ret (fin1 (v := (.int .i64 (0))) Tryz.results57 rfl ?_)))))))))))
    obtain rfl := Option.some.inj hs
    exact ⟨h.grown, rfl⟩
def source_Check_b5 (N : Nat) (a : List Fun) (x20 : Fun) (s : Unit) (nx22 : Unit → Option Int) : Option Int :=
  (source_count N x20.body 1).bind fun y33 => bif (!y33.2) then some 2 else (source_stmts N x20.body a x20.locals).bind fun y37 => bif decide ((y37 : Int) ≠ 0) then some y37 else nx22 ()
def source_Check_k6 (s : Unit) : Option Int :=
  some 0
def source_Check_b7 (i3 : Int) (x4 : Fun) (s : Unit) (nx6 : Unit → Option Int) : Option Int :=
  bif ((((decide ((x4.params : Int) < 0) || decide ((3 : Int) < x4.params)) || decide ((x4.locals : Int) < x4.params)) || decide ((6 : Int) < x4.locals)) || (decide ((i3 : Int) = 0) && decide ((0 : Int) < x4.params))) then some 3 else nx6 ()
def source_Check_k8 (N : Nat) (a : List Fun) (s : Unit) : Option Int :=
  each (source_Check_b5 N a) source_Check_k6 a ()
def source_Check (N : Nat) (a : List Fun) : Option Int :=
  bif (decide (((a.length : Int) : Int) = 0) || decide ((4 : Int) < (a.length : Int))) then some 2 else eachI source_Check_b7 (source_Check_k8 N a) 0 a ()
theorem source_Check_c (N : Nat) (w0 : World) (M : BS) (hM : ∀ b, M b → b < w0.heap.size) (va : Value) (a : List Fun) (ha : Rd2 rFun w0 BE M va a) (r : Int) (hs : source_Check N a = some r) :
    Calls Tryz.prog 18 #[va] w0 (fun e w' => Grow w0 w' ∧ e = .returned (.int .i64 r)) := by
 refine calls_start (args := [va]) Tryz.func18 rfl Tryz.ntmps18 (Nat.le_of_ble_eq_true rfl) ?_
 have h := SH.init hM
 replace h := h.argSr 1 ha none_own
 have hl_a := ha.len_le
 refine wc_seq (wc_region (wl_ok (r_assign (v := (.int .i64 (0))) rfl) (wl_nil (then_normal (wc_seq (wc_seq (wc_region (wl_ok (r_move (v := va) rfl) (wl_ok (r_len SliceOf22 rfl (h.srS 1 rfl)) (wl_ok (r_eql rfl rfl) (wl_ok (r_move (v := (.bool (decide (((a.length : Int) : Int) = 0)))) rfl) (wl_gd0 rfl rfl (fun q => r_move (v := va) rfl) (wl_gd0 rfl rfl (fun q => r_len SliceOf22 (gvt q) (h.srS 1 rfl)) (wl_gd0 rfl rfl (fun q => r_gtr (gvt q) rfl) (wl_ok (r_por rfl rfl evc) (wl_nil (then_normal (wc_ifb hs rfl (fun c1 hs => ?_) (fun c1 hs => ?_)))))))))))))))))))
 ·
  refine wc_seq (wc_region (wl_ok (r_assign (v := (.int .i64 (2))) rfl) (wl_nil (then_normal (wc_ret (then_ret (fin1 (v := (.int .i64 (2))) Tryz.results18 rfl ?_)))))))
  obtain rfl := Option.some.inj hs
  exact ⟨h.grown, rfl⟩
 ·
  refine wc_skip (then_normal (wc_seq (wc_seq (wc_region (wl_ok (r_move (v := va) rfl) (wl_ok (r_len SliceOf22 rfl (h.srS 1 rfl)) (wl_ok (r_move (v := (.int .i64 (0))) rfl) (wl_nil (then_normal (wc_block (wc_lp (σ := Nat × Int) (inl [2, 3, 4, 20, 21, 22, 23, 24, 25, 26, 27, 28, 29, 30, 31, 32, 33, 34, 35, 36, 37, 38, 39, 40, 41, 42, 43, 44, 45, 46, 47, 48, 49, 50, 51, 52, 53, 54]) (fun ⟨k2, i3⟩ => [(20, (.int .i64 (i3)))]) (fun ⟨k2, i3⟩ w => SH w0 M BE w (hset [(1, .sr rFun va a)]) ∧ i3 = (k2 : Int) ∧ eachI source_Check_b7 (source_Check_k8 N a) i3 (a.drop k2) () = some r) (fun ⟨k2, i3⟩ => a.length - k2) ⟨0, 0⟩ ⟨rfl, trivial⟩ ?_ ?_)))))))))))
  ·
   exact ⟨h.cn _, rfl, hs⟩
  ·
   rintro ⟨k2, i3⟩ w junk ⟨h, hik, hs⟩
   refine wc_seq (wc_region ?_)
   refine wl_ok (r_lss rfl rfl) (wl_nil (then_normal ?_))
   refine wc_seq (wc_if rfl (fun e7 => ?_) (fun e7 => ?_))
   ·
    refine wc_skip (then_normal ?_)
    obtain ⟨x4, e8a, e8b⟩ := drop_lt (hik ▸ e7)
    rw [e8b, eachI_cons] at hs
    generalize hnx6 : eachI source_Check_b7 (source_Check_k8 N a) (i3 + 1) (a.drop (k2 + 1)) = nx6 at hs
    have e8r := nat_rng ((h.srS 1 rfl)).len_le hik e7
    refine wc_seq (wc_block (wc_seq (wc_region (wl_ok (r_move (v := (.int .i64 (i3))) rfl) ?_))))
    obtain ⟨b10, o11, cs12, h, r13, i9⟩ := h.ixS 1 2 rfl SliceOf22 rfl (nat_nn hik) (get_nat hik e8a)
    obtain ⟨u14, rfl, g15⟩ := rFun_open r13
    replace h := h.knowRd 3 g15.up
    refine wl_ok (i9 _ _ _ _ _ _ _ _ _ rfl rfl) (wl_ok (r_ldPN (k := 0) (vs := [(.int .i64 (x4.params)), (.int .i64 (x4.locals)), u14]) h 2 rfl Many43 rfl rfl rfl (Nat.le_of_ble_eq_true rfl)) (w_allocN h 4 Many43 fun w b16 h => wl_ok (r_assign (v := (.int .i64 (i3))) rfl) (w_stN (vs := [(.int .i64 (x4.params)), (.int .i64 (x4.locals)), u14]) h 4 [(.int .i64 (x4.params)), (.int .i64 (x4.locals)), u14] rfl Many43 rfl rfl rfl rfl rfl (ones_cons rfl (ones_cons rfl (ones_cons (h.rdAt 3 rfl).one ones_nil))) fun w h => wl_nil (then_normal (wc_seq (wc_region (wl_ok (r_fieldAddr Fld43x0 rfl) (wl_ok (r_ldB h 4 rfl One3 rfl rfl) (wl_ok (r_lss rfl rfl) (wl_ok (r_move (v := (.bool (decide ((x4.params : Int) < 0)))) rfl) (wl_gd0 rfl rfl (fun q => r_fieldAddr Fld43x0 rfl) (wl_gd0 rfl rfl (fun q => r_ldB h 4 rfl One3 (gvt q) rfl) (wl_gd0 rfl rfl (fun q => r_gtr (gvt q) rfl) (wl_ok (r_por rfl rfl evc) (wl_ok (r_move (v := (.bool ((decide ((x4.params : Int) < 0) || decide ((3 : Int) < x4.params))))) rfl) (wl_gd0 rfl rfl (fun q => r_fieldAddr Fld43x1 rfl) (wl_gd0 rfl rfl (fun q => r_ldB h 4 rfl One3 (gvt q) rfl) (wl_gd0 rfl rfl (fun q => r_fieldAddr Fld43x0 rfl) (wl_gd0 rfl rfl (fun q => r_ldB h 4 rfl One3 (gvt q) rfl) (wl_gd0 rfl rfl (fun q => r_lss (gvt q) (gvt q)) (wl_ok (r_por rfl rfl evc) ?_)))))))))))))))))))))
    refine wl_ok (r_move (v := (.bool (((decide ((x4.params : Int) < 0) || decide ((3 : Int) < x4.params)) || decide ((x4.locals : Int) < x4.params))))) rfl) (wl_gd0 rfl rfl (fun q => r_fieldAddr Fld43x1 rfl) (wl_gd0 rfl rfl (fun q => r_ldB h 4 rfl One3 (gvt q) rfl) (wl_gd0 rfl rfl (fun q => r_gtr (gvt q) rfl) (wl_ok (r_por rfl rfl evc) (wl_ok (r_move (v := (.bool ((((decide ((x4.params : Int) < 0) || decide ((3 : Int) < x4.params)) || decide ((x4.locals : Int) < x4.params)) || decide ((6 : Int) < x4.locals))))) rfl) (wl_gd0 rfl rfl (fun q => r_move (v := (.int .i64 (i3))) rfl) (wl_gd0 rfl rfl (fun q => r_eql (gvt q) rfl) (wl_gd0 rfl rfl (fun q => r_move (v := (.bool (decide ((i3 : Int) = 0)))) (gvt q)) (wl_gd ((((decide ((x4.params : Int) < 0) || decide ((3 : Int) < x4.params)) || decide ((x4.locals : Int) < x4.params)) || decide ((6 : Int) < x4.locals)) == false) rfl rfl (fun q => r_fieldAddr Fld43x0 rfl) (wl_gd ((((decide ((x4.params : Int) < 0) || decide ((3 : Int) < x4.params)) || decide ((x4.locals : Int) < x4.params)) || decide ((6 : Int) < x4.locals)) == false) rfl rfl (fun q => r_ldB h 4 rfl One3 (gvt q) rfl) (wl_gd ((((decide ((x4.params : Int) < 0) || decide ((3 : Int) < x4.params)) || decide ((x4.locals : Int) < x4.params)) || decide ((6 : Int) < x4.locals)) == false) rfl rfl (fun q => r_gtr (gvt q) rfl) (wl_gd0 rfl rfl (fun q => r_pand (gvt q) (gvn q) evc) (wl_ok (r_por rfl rfl evc) (wl_nil (then_normal (wc_ifb hs rfl (fun c17 hs => ?_) (fun c17 hs => ?_)))))))))))))))))
    ·
     refine wc_seq (wc_region (wl_ok (r_assign (v := (.int .i64 (3))) rfl) (wl_nil (then_normal (wc_ret (inBlock_ret (then_ret (then_ret (inBlock_ret (then_ret (fin1 (v := (.int .i64 (3))) Tryz.results18 rfl ?_)))))))))))
     obtain rfl := Option.some.inj hs
     exact ⟨h.grown, rfl⟩
    ·
     refine wc_skip (inBlock_normal (then_normal (wc_region (wl_ok (r_add rfl rfl e8r) (wl_ok (r_move (v := (.int .i64 ((i3 + 1)))) rfl) (wl_nil (then_loop ?_)))))))
     subst hnx6
     exact lend ⟨k2 + 1, i3 + 1⟩ ⟨h.cn _, by omega, hs⟩ (by have := of_decide_eq_true e7; dsimp only; omega)
   ·
    rw [drop_ge (hik ▸ e7), eachI_nil] at hs
    refine wc_exit (then_exit (then_exit (inBlock_eq (then_normal (wc_seq (wc_seq (wc_region (wl_ok (r_move (v := va) rfl) (wl_ok (r_len SliceOf22 rfl (h.srS 1 rfl)) (wl_ok (r_move (v := (.int .i64 (0))) rfl) (wl_nil (then_normal (wc_block (wc_lp (σ := Nat × Int) (inl [2, 6, 7, 8, 9, 57, 58, 59, 60, 61, 62, 63, 64, 65, 66, 67, 68, 69, 70, 71, 72, 73, 74, 75, 76, 77, 78]) (fun ⟨k18, i19⟩ => [(57, (.int .i64 (i19)))]) (fun ⟨k18, i19⟩ w => SH w0 M BE w (hset [(1, .sr rFun va a)]) ∧ i19 = (k18 : Int) ∧ each (source_Check_b5 N a) source_Check_k6 (a.drop k18) () = some r) (fun ⟨k18, i19⟩ => a.length - k18) ⟨0, 0⟩ ⟨rfl, trivial⟩ ?_ ?_))))))))))))))
    ·
     exact ⟨h.cn _, rfl, hs⟩
    ·
     rintro ⟨k18, i19⟩ w junk ⟨h, hik, hs⟩
     refine wc_seq (wc_region ?_)
     refine wl_ok (r_lss rfl rfl) (wl_nil (then_normal ?_))
     refine wc_seq (wc_if rfl (fun e23 => ?_) (fun e23 => ?_))
     ·
      refine wc_skip (then_normal ?_)
      obtain ⟨x20, e24a, e24b⟩ := drop_lt (hik ▸ e23)
      rw [e24b, each_cons] at hs
      generalize hnx22 : each (source_Check_b5 N a) source_Check_k6 (a.drop (k18 + 1)) = nx22 at hs
      have e24r := nat_rng ((h.srS 1 rfl)).len_le hik e23
      refine wc_seq (wc_block (wc_seq (wc_region ?_)))
      obtain ⟨b26, o27, cs28, h, r29, i25⟩ := h.ixS 1 5 rfl SliceOf22 rfl (nat_nn hik) (get_nat hik e24a)
      obtain ⟨u30, rfl, g31⟩ := rFun_open r29
      replace h := h.knowRd 6 g31.up
      refine wl_ok (i25 _ _ _ _ _ _ _ _ _ rfl rfl) (wl_ok (r_ldPN (k := 0) (vs := [(.int .i64 (x20.params)), (.int .i64 (x20.locals)), u30]) h 5 rfl Many43 rfl rfl rfl (Nat.le_of_ble_eq_true rfl)) (w_allocN h 7 Many43 fun w b32 h => w_stN (vs := [(.int .i64 (x20.params)), (.int .i64 (x20.locals)), u30]) h 7 [(.int .i64 (x20.params)), (.int .i64 (x20.locals)), u30] rfl Many43 rfl rfl rfl rfl rfl (ones_cons rfl (ones_cons rfl (ones_cons (h.rdAt 6 rfl).one ones_nil))) fun w h => wl_nil (then_normal (wc_seq (wc_seq (wc_region (wl_ok (r_fieldAddr Fld43x2 rfl) (wl_ok (r_ldB h 7 rfl One41 rfl rfl) ?_))))))))
      obtain ⟨y33, e34, hs⟩ := o_bind hs
      refine w_call fnOk56 rfl rfl (source_count_c N _ _ h.lt u30 x20.body (h.rdS 6 rfl) 1 _ e34) ?_
      rintro _ w ⟨k35, rfl⟩
      refine ⟨_, rfl, ?_⟩
      replace h := h.grow k35
      refine wl_ok (r_move (v := (.tuple #[(.int .i64 (y33.1)), (.bool (y33.2))])) rfl) (wl_ok (r_extract rfl rfl) (wl_ok (r_extract rfl rfl) (wl_ok (r_assign (v := (.int .i64 (y33.1))) rfl) (wl_ok (r_assign (v := (.bool (y33.2))) rfl) (wl_nil (then_normal (wc_seq (wc_region (wl_ok (r_move (v := (.bool (y33.2))) rfl) (wl_ok (r_notb rfl) (wl_nil (then_normal (wc_ifb hs rfl (fun c36 hs => ?_) (fun c36 hs => ?_))))))))))))))
      ·
       refine wc_seq (wc_region (wl_ok (r_assign (v := (.int .i64 (2))) rfl) (wl_nil (then_normal (wc_ret (then_ret (inBlock_ret (then_ret (then_ret (inBlock_ret (then_ret (fin1 (v := (.int .i64 (2))) Tryz.results18 rfl ?_))))))))))))
       obtain rfl := Option.some.inj hs
       exact ⟨h.grown, rfl⟩
      ·
       refine wc_skip (then_normal (wc_seq (wc_region (wl_ok (r_fieldAddr Fld43x2 rfl) (wl_ok (r_ldB h 7 rfl One41 rfl rfl) (wl_ok (r_move (v := va) rfl) (wl_ok (r_fieldAddr Fld43x1 rfl) (wl_ok (r_ldB h 7 rfl One3 rfl rfl) ?_))))))))
       obtain ⟨y37, e38, hs⟩ := o_bind hs
       refine w_call fnOk57 rfl rfl (source_stmts_c N _ _ h.lt u30 x20.body (h.rdS 6 rfl) va a (h.srS 1 rfl) x20.locals _ e38) ?_
       rintro _ w ⟨k39, rfl⟩
       refine ⟨_, rfl, ?_⟩
       replace h := h.grow k39
       refine wl_ok (r_assign (v := (.int .i64 (y37))) rfl) (wl_nil (then_normal (wc_seq (wc_region (wl_ok (r_move (v := (.int .i64 (y37))) rfl) (wl_ok (r_neq rfl rfl) (wl_nil (then_normal (wc_ifb hs rfl (fun c40 hs => ?_) (fun c40 hs => ?_))))))))))
       ·
        refine wc_seq (wc_region (wl_ok (r_move (v := (.int .i64 (y37))) rfl) (wl_ok (r_assign (v := (.int .i64 (y37))) rfl) (wl_nil (then_normal (wc_ret (inBlock_ret (then_ret (then_ret (inBlock_ret (then_ret (fin1 (v := (.int .i64 (y37))) Tryz.results18 rfl ?_))))))))))))
        obtain rfl := Option.some.inj hs
        exact ⟨h.grown, rfl⟩
       ·
        refine wc_skip (inBlock_normal (then_normal (wc_region (wl_ok (r_add rfl rfl e24r) (wl_ok (r_move (v := (.int .i64 ((i19 + 1)))) rfl) (wl_nil (then_loop ?_)))))))
        subst hnx22
        exact lend ⟨k18 + 1, i19 + 1⟩ ⟨h.cn _, by omega, hs⟩ (by have := of_decide_eq_true e23; dsimp only; omega)
     ·
      rw [drop_ge (hik ▸ e23), each_nil] at hs
      refine wc_exit (then_exit (then_exit (inBlock_eq (then_normal (wc_seq (wc_region (wl_ok (r_assign (v := (.int .i64 (0))) rfl) (wl_nil (then_normal (wc_ret (fin1 (v := (.int .i64 (0))) Tryz.results18 rfl ?_)))))))))))
      obtain rfl := Option.some.inj hs
      exact ⟨h.grown, rfl⟩
theorem strconv_Itoa_c (w0 : World) (M : BS) (hM : ∀ b, M b → b < w0.heap.size) (hT : Tabs Tryz.prog 5 w0) (a : Int) (r : Str) (hs : itoaS a = some r) :
    Calls Tryz.prog 19 #[.int .i64 a] w0 (fun e w' => Grow w0 w' ∧ e = .returned (strV r)) :=
  itoa_w Tryz.strconv_Itoa hT hs
def words_ops : Unit :=
  ()
theorem words_ops_c (w0 : World) (M : BS) (hM : ∀ b, M b → b < w0.heap.size)  (r : Unit) (hs : words_ops = r) :
    Calls Tryz.prog 91 #[] w0 (fun e w' => Grow w0 w' ∧ e = .returned ((.agg #[(strV []), (strV [43]), (strV [45]), (strV [42]), (strV [60]), (strV [61])]))) := by
 refine calls_start (args := []) Tryz.func91 rfl Tryz.ntmps91 (Nat.le_of_ble_eq_true rfl) ?_
 have h := SH.init hM
 refine wc_seq (wc_region (w_allocN h 1 Many129 fun w b1 h => wl_nil (then_normal (wc_seq (wc_region (wl_ok (r_buildS (L := [[], [43], [45], [42], [60], [61]]) ArrS129 rfl rfl) (w_stN (vs := [(strV []), (strV [43]), (strV [45]), (strV [42]), (strV [60]), (strV [61])]) h 1 [(strV []), (strV [43]), (strV [45]), (strV [42]), (strV [60]), (strV [61])] rfl Many129 rfl rfl rfl rfl rfl (ones_cons rfl (ones_cons rfl (ones_cons rfl (ones_cons rfl (ones_cons rfl (ones_cons rfl ones_nil)))))) fun w h => wl_nil (then_normal (wc_ret (fin_c (vs := [(strV []), (strV [43]), (strV [45]), (strV [42]), (strV [60]), (strV [61])]) Tryz.results91 rfl h 1 rfl Many129 rfl ?_))))))))))
 obtain rfl := hs
 exact ⟨h.grown, rfl⟩
def words_word (a : Tok) : Option Str :=
  bif decide ((a.kind : Int) = 2) then (itoaS a.n).bind fun y3 => grd ([118].length + y3.length ≤ 9223372036854775807) (some ([118] ++ y3)) else bif decide ((a.kind : Int) = 3) then (idx ([[], [43], [45], [42], [60], [61]] : List Str) a.n).bind fun xq8x3_1 => some xq8x3_1 else bif decide ((a.kind : Int) = 4) then (itoaS a.n).bind fun y12 => grd ([46].length + y12.length ≤ 9223372036854775807) (some ([46] ++ y12)) else bif decide ((a.kind : Int) = 5) then (itoaS a.n).bind fun y17 => grd ([110, 101, 119].length + y17.length ≤ 9223372036854775807) (some ([110, 101, 119] ++ y17)) else bif decide ((a.kind : Int) = 6) then (itoaS a.n).bind fun y22 => grd ([102].length + y22.length ≤ 9223372036854775807) (some ([102] ++ y22)) else (itoaS a.n).bind fun y26 => some y26
theorem words_word_c (w0 : World) (M : BS) (hM : ∀ b, M b → b < w0.heap.size) (hT : Tabs Tryz.prog 5 w0) (a : Tok) (r : Str) (hs : words_word a = some r) :
    Calls Tryz.prog 84 #[(.agg #[(.int .i64 (a.kind)), (.int .i64 (a.n))])] w0 (fun e w' => Grow w0 w' ∧ e = .returned (strV r)) := by
 refine calls_start (args := [(.agg #[(.int .i64 (a.kind)), (.int .i64 (a.n))])]) Tryz.func84 rfl Tryz.ntmps84 (Nat.le_of_ble_eq_true rfl) ?_
 have h := SH.init hM
 refine wc_seq (wc_region (w_box (cs := [(.int .i64 (a.kind)), (.int .i64 (a.n))]) h 1 rfl rfl fun w b1 h => wl_ok (r_assign (v := (strV [])) rfl) (wl_nil (then_normal (wc_seq (wc_seq (wc_region (wl_ok (r_fieldAddr Fld71x0 rfl) (wl_ok (r_ldB h 1 rfl One3 rfl rfl) (wl_nil (then_normal (wc_block (wc_seq (wc_region (wl_ok (r_eql rfl rfl) (wl_ok (r_assign (v := (.bool (decide ((a.kind : Int) = 2)))) rfl) (wl_nil (then_normal (wc_ifb hs rfl (fun c2 hs => ?_) (fun c2 hs => ?_))))))))))))))))))))
 ·
  refine wc_seq (wc_region (wl_ok (r_fieldAddr Fld71x1 rfl) (wl_ok (r_ldB h 1 rfl One3 rfl rfl) ?_)))
  obtain ⟨y3, e4, hs⟩ := o_bind hs
  refine w_call fnOk19 rfl rfl (strconv_Itoa_c _ _ h.lt (hT.go h.keep) a.n _ e4) ?_
  rintro _ w ⟨k5, rfl⟩
  refine ⟨_, rfl, ?_⟩
  replace h := h.grow k5
  obtain ⟨a6, hs⟩ := o_grd hs
  refine wl_ok (r_adds rfl rfl a6) (wl_ok (r_assign (v := (strV ([118] ++ y3))) rfl) (wl_nil (then_normal (wc_ret (inBlock_ret (then_ret (fin1 (v := (strV ([118] ++ y3))) Tryz.results84 rfl ?_)))))))
  obtain rfl := Option.some.inj hs
  exact ⟨h.grown, rfl⟩
 ·
  refine wc_seq (wc_region (wl_ok (r_eql rfl rfl) (wl_ok (r_assign (v := (.bool (decide ((a.kind : Int) = 3)))) rfl) (wl_nil (then_normal (wc_ifb hs rfl (fun c7 hs => ?_) (fun c7 hs => ?_)))))))
  ·
   refine wc_seq (wc_held mixed h fun w h => wh_ok 1 (Keep.refl BE _) rfl want_none (by kernel_rfl) (by kernel_rfl) (by kernel_rfl) (fun w hk => r_fieldAddr Fld71x1 rfl) (wh_ok 2 (Keep.refl BE _) rfl want_none (by kernel_rfl) (by kernel_rfl) (by kernel_rfl) (fun w hk => have h := h.grow hk; r_ldB h 1 rfl One3 rfl rfl) ?_))
   obtain ⟨ws9, ws9e⟩ : ∃ x, x = w := ⟨_, rfl⟩
   have hg10 : Grow ws9 w := ws9e ▸ Keep.refl BE w
   refine wh_at ws9e.symm (wh_eff 0 (by kernel_rfl) rfl want_none (w_call fnOk91 rfl rfl (words_ops_c _ _ h.lt  _ rfl) ?_))
   rintro _ w ⟨kq8x0_1, rfl⟩
   refine ⟨_, rfl, ?_⟩
   replace h := h.grow kq8x0_1
   replace hg10 := hg10.trans kq8x0_1
   refine wl_nil (wh_back hg10 ?_)
   obtain ⟨xq8x3_1, eq8x3_2, hs⟩ := o_bind hs
   refine wh_ok 3 hg10 rfl want_none (by kernel_rfl) (by kernel_rfl) (by kernel_rfl) (fun w hk => r_indexA (L := ([[], [43], [45], [42], [60], [61]] : List Str)) (vs := [(strV []), (strV [43]), (strV [45]), (strV [42]), (strV [60]), (strV [61])]) ArrS129 rfl rfl rfl rfl (o_idx eq8x3_2).1 (o_idx eq8x3_2).2) (wh_ok 4 hg10 rfl want_none (by kernel_rfl) (by kernel_rfl) (by kernel_rfl) (fun w hk => r_assign (v := (strV xq8x3_1)) rfl) (wh_done (by kernel_rfl) (then_normal (wc_ret (inBlock_ret (then_ret (fin1 (v := (strV xq8x3_1)) Tryz.results84 rfl ?_)))))))
   obtain rfl := Option.some.inj hs
   exact ⟨h.grown, rfl⟩
  ·
   refine wc_seq (wc_region (wl_ok (r_eql rfl rfl) (wl_ok (r_assign (v := (.bool (decide ((a.kind : Int) = 4)))) rfl) (wl_nil (then_normal (wc_ifb hs rfl (fun c11 hs => ?_) (fun c11 hs => ?_)))))))
   ·
    refine wc_seq (wc_region (wl_ok (r_fieldAddr Fld71x1 rfl) (wl_ok (r_ldB h 1 rfl One3 rfl rfl) ?_)))
    obtain ⟨y12, e13, hs⟩ := o_bind hs
    refine w_call fnOk19 rfl rfl (strconv_Itoa_c _ _ h.lt (hT.go h.keep) a.n _ e13) ?_
    rintro _ w ⟨k14, rfl⟩
    refine ⟨_, rfl, ?_⟩
    replace h := h.grow k14
    obtain ⟨a15, hs⟩ := o_grd hs
    refine wl_ok (r_adds rfl rfl a15) (wl_ok (r_assign (v := (strV ([46] ++ y12))) rfl) (wl_nil (then_normal (wc_ret (inBlock_ret (then_ret (fin1 (v := (strV ([46] ++ y12))) Tryz.results84 rfl ?_)))))))
    obtain rfl := Option.some.inj hs
    exact ⟨h.grown, rfl⟩
   ·
    refine wc_seq (wc_region (wl_ok (r_eql rfl rfl) (wl_ok (r_assign (v := (.bool (decide ((a.kind : Int) = 5)))) rfl) (wl_nil (then_normal (wc_ifb hs rfl (fun c16 hs => ?_) (fun c16 hs => ?_)))))))
    ·
     refine wc_seq (wc_region (wl_ok (r_fieldAddr Fld71x1 rfl) (wl_ok (r_ldB h 1 rfl One3 rfl rfl) ?_)))
     obtain ⟨y17, e18, hs⟩ := o_bind hs
     refine w_call fnOk19 rfl rfl (strconv_Itoa_c _ _ h.lt (hT.go h.keep) a.n _ e18) ?_
     rintro _ w ⟨k19, rfl⟩
     refine ⟨_, rfl, ?_⟩
     replace h := h.grow k19
     obtain ⟨a20, hs⟩ := o_grd hs
     refine wl_ok (r_adds rfl rfl a20) (wl_ok (r_assign (v := (strV ([110, 101, 119] ++ y17))) rfl) (wl_nil (then_normal (wc_ret (inBlock_ret (then_ret (fin1 (v := (strV ([110, 101, 119] ++ y17))) Tryz.results84 rfl ?_)))))))
     obtain rfl := Option.some.inj hs
     exact ⟨h.grown, rfl⟩
    ·
     refine wc_seq (wc_region (wl_ok (r_eql rfl rfl) (wl_ok (r_assign (v := (.bool (decide ((a.kind : Int) = 6)))) rfl) (wl_nil (then_normal (wc_ifb hs rfl (fun c21 hs => ?_) (fun c21 hs => ?_)))))))
     ·
      refine wc_seq (wc_region (wl_ok (r_fieldAddr Fld71x1 rfl) (wl_ok (r_ldB h 1 rfl One3 rfl rfl) ?_)))
      obtain ⟨y22, e23, hs⟩ := o_bind hs
      refine w_call fnOk19 rfl rfl (strconv_Itoa_c _ _ h.lt (hT.go h.keep) a.n _ e23) ?_
      rintro _ w ⟨k24, rfl⟩
      refine ⟨_, rfl, ?_⟩
      replace h := h.grow k24
      obtain ⟨a25, hs⟩ := o_grd hs
      refine wl_ok (r_adds rfl rfl a25) (wl_ok (r_assign (v := (strV ([102] ++ y22))) rfl) (wl_nil (then_normal (wc_ret (inBlock_ret (then_ret (fin1 (v := (strV ([102] ++ y22))) Tryz.results84 rfl ?_)))))))
      obtain rfl := Option.some.inj hs
      exact ⟨h.grown, rfl⟩
     ·
      refine wc_skip (inBlock_normal (then_normal (wc_seq (wc_region (wl_ok (r_fieldAddr Fld71x1 rfl) (wl_ok (r_ldB h 1 rfl One3 rfl rfl) ?_))))))
      obtain ⟨y26, e27, hs⟩ := o_bind hs
      refine w_call fnOk19 rfl rfl (strconv_Itoa_c _ _ h.lt (hT.go h.keep) a.n _ e27) ?_
      rintro _ w ⟨k28, rfl⟩
      refine ⟨_, rfl, ?_⟩
      replace h := h.grow k28
      refine wl_ok (r_assign (v := (strV y26)) rfl) (wl_nil (then_normal (wc_ret (fin1 (v := (strV y26)) Tryz.results84 rfl ?_))))
      obtain rfl := Option.some.inj hs
      exact ⟨h.grown, rfl⟩
def words_expr_b3 (x11 : Tok) (x8 : List Str) (nx13 : List Str → Option (List Str)) : Option (List Str) :=
  (words_word x11).bind fun y22 => grd (Room 16 x8 [y22]) (nx13 (x8 ++ [y22]))
def words_expr_k4 (x8 : List Str) : Option (List Str) :=
  some x8
def words_expr (a : List Tok) : Option (List Str) :=
  each words_expr_b3 words_expr_k4 a []
theorem words_expr_c (w0 : World) (M : BS) (hM : ∀ b, M b → b < w0.heap.size) (hT : Tabs Tryz.prog 5 w0) (va : Value) (a : List Tok) (ha : Rd2 rTok w0 BE M va a) (r : List Str) (hs : words_expr a = some r) :
    Calls Tryz.prog 59 #[va] w0 (fun e w' => Grow w0 w' ∧ ∃ u0, e = .returned (u0) ∧ OwnSl rStr 9 w' M u0 r ∧ (∀ b, ob u0 b → w0.heap.size ≤ b)) := by
 refine calls_start (args := [va]) Tryz.func59 rfl Tryz.ntmps59 (Nat.le_of_ble_eq_true rfl) ?_
 have h := SH.init hM
 replace h := h.argSr 1 ha none_own
 have hl_a := ha.len_le
 refine wc_seq (wc_region (wl_ok (r_assign (v := (.slice none 0 0)) rfl) (wl_nil (then_normal (wc_seq (wc_region (wl_ok (r_assign (v := (.slice none 0 0)) rfl) (wl_nil (then_normal (wc_seq (wc_seq (wc_region (wl_ok (r_move (v := va) rfl) (wl_ok (r_len SliceOf63 rfl (h.srS 1 rfl)) (wl_ok (r_move (v := (.int .i64 (0))) rfl) (wl_nil (then_normal (wc_block ?_))))))))))))))))))
 replace h := h.nilO (R := rStr) (E := 9) 5
 refine wc_lp (σ := Nat × Int × Value × List Str) (inl [3, 5, 8, 9, 10, 11, 12, 13, 14, 15, 16, 17]) (fun ⟨k9, i10, v7, x8⟩ => [(3, v7), (8, (.int .i64 (i10)))]) (fun ⟨k9, i10, v7, x8⟩ w => SH w0 M BE w (hset [(1, .sr rTok va a), (5, .own rStr 9 v7 x8)]) ∧ i10 = (k9 : Int) ∧ each words_expr_b3 words_expr_k4 (a.drop k9) x8 = some r) (fun ⟨k9, i10, v7, x8⟩ => a.length - k9) ⟨0, 0, (.slice none 0 0), []⟩ ⟨rfl, rfl, trivial⟩ ?_ ?_
 ·
  exact ⟨h.cn _, rfl, hs⟩
 ·
  rintro ⟨k9, i10, v7, x8⟩ w junk ⟨h, hik, hs⟩
  refine wc_seq (wc_region ?_)
  refine wl_ok (r_lss rfl rfl) (wl_nil (then_normal ?_))
  refine wc_seq (wc_if rfl (fun e14 => ?_) (fun e14 => ?_))
  ·
   refine wc_skip (then_normal ?_)
   obtain ⟨x11, e15a, e15b⟩ := drop_lt (hik ▸ e14)
   rw [e15b, each_cons] at hs
   generalize hnx13 : each words_expr_b3 words_expr_k4 (a.drop (k9 + 1)) = nx13 at hs
   have e15r := nat_rng ((h.srS 1 rfl)).len_le hik e14
   refine wc_seq (wc_block (wc_seq (wc_region ?_)))
   obtain ⟨b17, o18, cs19, h, r20, i16⟩ := h.ixS 1 6 rfl SliceOf63 rfl (nat_nn hik) (get_nat hik e15a)
   obtain rfl := r20
   refine wl_ok (i16 _ _ _ _ _ _ _ _ _ rfl rfl) (wl_ok (r_ldPN (k := 0) (vs := [(.int .i64 (x11.kind)), (.int .i64 (x11.n))]) h 6 rfl Many71 rfl rfl rfl (Nat.le_of_ble_eq_true rfl)) (w_allocN h 7 Many71 fun w b21 h => w_stN (vs := [(.int .i64 (x11.kind)), (.int .i64 (x11.n))]) h 7 [(.int .i64 (x11.kind)), (.int .i64 (x11.n))] rfl Many71 rfl rfl rfl rfl rfl (ones_cons rfl (ones_cons rfl ones_nil)) fun w h => wl_nil (then_normal (wc_region (wl_ok (r_move (v := v7) rfl) (wl_ok (r_ldBN (vs := [(.int .i64 (x11.kind)), (.int .i64 (x11.n))]) h 7 rfl Many71 rfl rfl rfl) ?_))))))
   obtain ⟨y22, e23, hs⟩ := o_bind hs
   refine w_call fnOk84 rfl rfl (words_word_c _ _ h.lt (hT.go h.keep) x11 _ e23) ?_
   rintro _ w ⟨k24, rfl⟩
   refine ⟨_, rfl, ?_⟩
   replace h := h.grow k24
   refine w_bs (R := rStr) (vs := [(strV y22)]) (xs := [y22]) h 8 ElemOf45 rfl rfl rfl ⟨rfl, trivial⟩ rfl fun w u25 h => ?_
   obtain ⟨a26, hs⟩ := o_grd hs
   refine w_app (R := rStr) (m := [y22]) h 5 rfl (h.ownS 8 rfl) ElemOf45 rfl rfl rfl a26.1 a26.2 fun w u27 h => wl_ok (r_assign (v := u27) rfl) (wl_nil (inBlock_normal (then_normal (wc_region (wl_ok (r_add rfl rfl e15r) (wl_ok (r_move (v := (.int .i64 ((i10 + 1)))) rfl) (wl_nil (then_loop ?_))))))))
   subst hnx13
   exact lend ⟨k9 + 1, i10 + 1, u27, (x8 ++ [y22])⟩ ⟨h.cn _, by omega, hs⟩ (by have := of_decide_eq_true e14; dsimp only; omega)
  ·
   rw [drop_ge (hik ▸ e14), each_nil] at hs
   refine wc_exit (then_exit (then_exit (inBlock_eq (then_normal (wc_seq (wc_region (wl_ok (r_move (v := v7) rfl) (wl_ok (r_assign (v := v7) rfl) (wl_nil (then_normal (wc_ret (fin1 (v := v7) Tryz.results59 rfl ?_))))))))))))
   obtain rfl := Option.some.inj hs
   exact ⟨h.grown, _, rfl, (h.outOwn 5 rfl).1, (h.outOwn 5 rfl).2⟩
def words_block_j30 (nx14 : List Str → Option (List Str)) (x18 : List Str) : Option (List Str) :=
  nx14 x18
def words_block_j32 (F0 : List GStmt → Option (List Str)) (x12 : GStmt) (nx14 : List Str → Option (List Str)) (x47 : List Str) : Option (List Str) :=
  bif decide ((x12.kind : Int) = 6) then (F0 x12.b).bind fun y49 => grd (Room 16 x47 y49) (words_block_j30 nx14 (x47 ++ y49)) else words_block_j30 nx14 x47
def words_block_j31 (F0 : List GStmt → Option (List Str)) (x12 : GStmt) (a : List GStmt) (nx14 : List Str → Option (List Str)) (x39 : List Str) : Option (List Str) :=
  (words_expr x12.e).bind fun yq43x3_1 => grd (Room 16 x39 yq43x3_1) ((words_expr x12.f).bind fun yq43x7_1 => grd (Room 16 (x39 ++ yq43x3_1) yq43x7_1) (bif (decide ((x12.kind : Int) = 6) || decide ((x12.kind : Int) = 7)) then (F0 x12.a).bind fun y58 => grd (Room 16 ((x39 ++ yq43x3_1) ++ yq43x7_1) y58) (words_block_j32 F0 x12 nx14 (((x39 ++ yq43x3_1) ++ yq43x7_1) ++ y58)) else words_block_j32 F0 x12 nx14 ((x39 ++ yq43x3_1) ++ yq43x7_1)))
def words_block_b33 (F0 : List GStmt → Option (List Str)) (a : List GStmt) (x12 : GStmt) (x9 : List Str) (nx14 : List Str → Option (List Str)) : Option (List Str) :=
  (idx ([[], [115, 101, 116], [112, 117, 116], [115, 97, 121], [112, 97, 117, 115, 101], [103, 111], [105, 102], [119, 104, 105, 108, 101], [114, 101, 116, 117, 114, 110]] : List Str) x12.kind).bind fun x33 => grd (Room 16 x9 [x33]) (bif (decide ((x12.kind : Int) = 1) || decide ((x12.kind : Int) = 2)) then (itoaS x12.n).bind fun y67 => grd (Room 16 (x9 ++ [x33]) [y67]) (words_block_j31 F0 x12 a nx14 ((x9 ++ [x33]) ++ [y67])) else words_block_j31 F0 x12 a nx14 (x9 ++ [x33]))
def words_block_k34 (x9 : List Str) : Option (List Str) :=
  grd (Room 16 x9 [[125]]) (some (x9 ++ [[125]]))
def words_block_r (F0 : List GStmt → Option (List Str)) (a : List GStmt) : Option (List Str) :=
  each (words_block_b33 F0 a) words_block_k34 a [[123]]
def words_block : Nat → List GStmt → Option (List Str)
  | 0 => fun _ => none
  | N + 1 => words_block_r (words_block N)
theorem words_block_c : ∀ (N : Nat) (w0 : World) (M : BS) (hM : ∀ b, M b → b < w0.heap.size) (hT : Tabs Tryz.prog 5 w0) (va : Value) (a : List GStmt) (ha : Rd2 rStmt w0 BE M va a) (r : List Str) (hs : words_block N a = some r),
    Calls Tryz.prog 20 #[va] w0 (fun e w' => Grow w0 w' ∧ ∃ u0, e = .returned (u0) ∧ OwnSl rStr 9 w' M u0 r ∧ (∀ b, ob u0 b → w0.heap.size ≤ b)) := by
  intro N
  induction N with
  | zero => intro w0 M hM hT va a ha r hs; cases hs
  | succ N ih =>
  intro w0 M hM hT va a ha r hs
  replace hs : words_block_r (words_block N) a = some r := hs
  generalize words_block N = F0 at hs ih
  refine calls_start (args := [va]) Tryz.func20 rfl Tryz.ntmps20 (Nat.le_of_ble_eq_true rfl) ?_
  have h := SH.init hM
  replace h := h.argSr 1 ha none_own
  have hl_a := ha.len_le
  refine wc_seq (wc_region (wl_ok (r_assign (v := (.slice none 0 0)) rfl) (wl_nil (then_normal (wc_seq (wc_region (w_bs (R := rStr) (vs := [(strV [123])]) (xs := [[123]]) h 2 ElemOf45 rfl rfl rfl ⟨rfl, trivial⟩ rfl fun w u1 h => wl_ok (r_assign (v := u1) rfl) (wl_nil (then_normal (wc_seq (wc_seq (wc_region (wl_ok (r_move (v := va) rfl) (wl_ok (r_len SliceOf41 rfl (h.srS 1 rfl)) (wl_ok (r_move (v := (.int .i64 (0))) rfl) (wl_nil (then_normal (wc_block (wc_lp (σ := Nat × Int × Value × List Str) (inl [3, 5, 9, 10, 11, 12, 13, 14, 15, 16, 17, 18, 19, 20, 21, 22, 23, 24, 25, 26, 27, 28, 29, 30, 31, 32, 33, 34, 35, 36, 37, 38, 39, 40, 41, 42, 43, 44, 45, 46, 47, 48, 49, 50, 51, 52, 53, 54, 55, 56, 57, 58, 59, 60, 61, 62, 63, 64]) (fun ⟨k10, i11, v8, x9⟩ => [(3, v8), (9, (.int .i64 (i11)))]) (fun ⟨k10, i11, v8, x9⟩ w => SH w0 M BE w (hset [(1, .sr rStmt va a), (2, .own rStr 9 v8 x9)]) ∧ i11 = (k10 : Int) ∧ each (words_block_b33 F0 a) words_block_k34 (a.drop k10) x9 = some r) (fun ⟨k10, i11, v8, x9⟩ => a.length - k10) ⟨0, 0, u1, [[123]]⟩ ⟨rfl, rfl, trivial⟩ ?_ ?_)))))))))))))))))))
  ·
   exact ⟨h.cn _, rfl, hs⟩
  ·
   rintro ⟨k10, i11, v8, x9⟩ w junk ⟨h, hik, hs⟩
   refine wc_seq (wc_region ?_)
   refine wl_ok (r_lss rfl rfl) (wl_nil (then_normal ?_))
   refine wc_seq (wc_if rfl (fun e15 => ?_) (fun e15 => ?_))
   ·
    refine wc_skip (then_normal ?_)
    obtain ⟨x12, e16a, e16b⟩ := drop_lt (hik ▸ e15)
    rw [e16b, each_cons] at hs
    generalize hnx14 : each (words_block_b33 F0 a) words_block_k34 (a.drop (k10 + 1)) = nx14 at hs
    have e16r := nat_rng ((h.srS 1 rfl)).len_le hik e15
    refine wc_join (σ := Value × List Str) (inl [3, 5, 11, 12, 13, 14, 15, 16, 17, 18, 19, 20, 21, 22, 23, 24, 25, 26, 27, 28, 29, 30, 31, 32, 33, 34, 35, 36, 37, 38, 39, 40, 41, 42, 43, 44, 45, 46, 47, 48, 49, 50, 51, 52, 53, 54, 55, 56, 57, 58, 59, 60, 61, 62, 63]) (fun ⟨v17, x18⟩ => [(3, v17), (25, (gv (decide ((x12.kind : Int) = 1) == false) (.int .i64 (x12.kind)))), (26, (gv (decide ((x12.kind : Int) = 1) == false) (.bool (decide ((x12.kind : Int) = 2))))), (48, (gv (decide ((x12.kind : Int) = 6) == false) (.int .i64 (x12.kind)))), (49, (gv (decide ((x12.kind : Int) = 6) == false) (.bool (decide ((x12.kind : Int) = 7)))))]) (fun ⟨v17, x18⟩ w => SH w0 M BE w (hset [(1, .sr rStmt va a), (2, .own rStr 9 v17 x18)]) ∧ words_block_j30 nx14 x18 = some r) ?_ ?_
    ·
     rintro ⟨v17, x18⟩ w junk ⟨h, hs⟩
     refine wc_region (wl_ok (r_add rfl rfl e16r) (wl_ok (r_move (v := (.int .i64 ((i11 + 1)))) rfl) (wl_nil (then_loop ?_))))
     subst hnx14
     exact lend ⟨k10 + 1, i11 + 1, v17, x18⟩ ⟨h.cn _, by omega, hs⟩ (by have := of_decide_eq_true e15; dsimp only; omega)
    ·
     refine wc_block (wc_seq (wc_region ?_))
     obtain ⟨b20, o21, cs22, h, r23, i19⟩ := h.ixS 1 3 rfl SliceOf41 rfl (nat_nn hik) (get_nat hik e16a)
     obtain ⟨u24, u26, u28, u30, rfl, g25, g27, g29, g31⟩ := rStmt_open r23
     replace h := h.knowRd 4 g25.up
     replace h := h.knowRd 5 g27.up.up
     replace h := h.knowRd 6 g29.up.up.up
     replace h := h.knowRd 7 g31.up.up.up.up
     refine wl_ok (i19 _ _ _ _ _ _ _ _ _ rfl rfl) (wl_ok (r_ldPN (k := 0) (vs := [(.int .i64 (x12.kind)), (.int .i64 (x12.n)), u24, u26, u28, u30]) h 3 rfl Many65 rfl rfl rfl (Nat.le_of_ble_eq_true rfl)) (w_allocN h 8 Many65 fun w b32 h => w_stN (vs := [(.int .i64 (x12.kind)), (.int .i64 (x12.n)), u24, u26, u28, u30]) h 8 [(.int .i64 (x12.kind)), (.int .i64 (x12.n)), u24, u26, u28, u30] rfl Many65 rfl rfl rfl rfl rfl (ones_cons rfl (ones_cons rfl (ones_cons (h.rdAt 4 rfl).one (ones_cons (h.rdAt 5 rfl).one (ones_cons (h.rdAt 6 rfl).one (ones_cons (h.rdAt 7 rfl).one ones_nil)))))) fun w h => wl_nil (then_normal (wc_seq (wc_region (wl_ok (r_move (v := v8) rfl) (wl_ok (r_buildS (L := [[], [115, 101, 116], [112, 117, 116], [115, 97, 121], [112, 97, 117, 115, 101], [103, 111], [105, 102], [119, 104, 105, 108, 101], [114, 101, 116, 117, 114, 110]]) ArrS98 rfl rfl) (wl_ok (r_fieldAddr Fld65x0 rfl) (wl_ok (r_ldB h 8 rfl One3 rfl rfl) ?_)))))))))
     obtain ⟨x33, e34, hs⟩ := o_bind hs
     refine wl_ok (r_indexA (L := ([[], [115, 101, 116], [112, 117, 116], [115, 97, 121], [112, 97, 117, 115, 101], [103, 111], [105, 102], [119, 104, 105, 108, 101], [114, 101, 116, 117, 114, 110]] : List Str)) (vs := [(strV []), (strV [115, 101, 116]), (strV [112, 117, 116]), (strV [115, 97, 121]), (strV [112, 97, 117, 115, 101]), (strV [103, 111]), (strV [105, 102]), (strV [119, 104, 105, 108, 101]), (strV [114, 101, 116, 117, 114, 110])]) ArrS98 rfl rfl rfl rfl (o_idx e34).1 (o_idx e34).2) (w_bs (R := rStr) (vs := [(strV x33)]) (xs := [x33]) h 9 ElemOf45 rfl rfl rfl ⟨rfl, trivial⟩ rfl fun w u35 h => ?_)
     obtain ⟨a36, hs⟩ := o_grd hs
     refine w_app (R := rStr) (m := [x33]) h 2 rfl (h.ownS 9 rfl) ElemOf45 rfl rfl rfl a36.1 a36.2 fun w u37 h => wl_ok (r_assign (v := u37) rfl) (wl_nil (then_normal (wc_join (σ := Value × List Str) (inl [3, 20, 21, 22, 23, 24, 25, 26, 27, 28, 29, 30, 31, 32, 33]) (fun ⟨v38, x39⟩ => [(3, v38), (24, (gv (decide ((x12.kind : Int) = 1) == false) (.pointer (some ⟨b32, 0, none⟩)))), (25, (gv (decide ((x12.kind : Int) = 1) == false) (.int .i64 (x12.kind)))), (26, (gv (decide ((x12.kind : Int) = 1) == false) (.bool (decide ((x12.kind : Int) = 2)))))]) (fun ⟨v38, x39⟩ w => SH w0 M BE w (hset [(1, .sr rStmt va a), (2, .own rStr 9 v38 x39), (4, .rd rTok u24 x12.e), (5, .rd rTok u26 x12.f), (6, .rd rStmt u28 x12.a), (7, .rd rStmt u30 x12.b), (8, .blk b32 [(.int .i64 (x12.kind)), (.int .i64 (x12.n)), u24, u26, u28, u30])]) ∧ words_block_j31 F0 x12 a nx14 x39 = some r) ?_ ?_)))
     ·
      rintro ⟨v38, x39⟩ w junk ⟨h, hs⟩
      refine wc_seq (wck_held (L := (ob v38)) mixed h fun w h => whk_ok 0 (Keep.refl _ _) rfl want_none (by kernel_rfl) (by kernel_rfl) (by kernel_rfl) (fun w hk => r_move (v := v38) rfl) (whk_ok 1 (Keep.refl _ _) rfl want_none (by kernel_rfl) (by kernel_rfl) (by kernel_rfl) (fun w hk => r_fieldAddr Fld65x2 rfl) (whk_ok 2 (Keep.refl _ _) rfl want_none (by kernel_rfl) (by kernel_rfl) (by kernel_rfl) (fun w hk => have h := h.loseC 2 rfl hk; r_ldB h 8 rfl One63 rfl rfl) (whk_ok 5 (Keep.refl _ _) rfl want_none (by kernel_rfl) (by kernel_rfl) (by kernel_rfl) (fun w hk => r_fieldAddr Fld65x3 rfl) (whk_ok 6 (Keep.refl _ _) rfl want_none (by kernel_rfl) (by kernel_rfl) (by kernel_rfl) (fun w hk => have h := h.loseC 2 rfl hk; r_ldB h 8 rfl One63 rfl rfl) ?_)))))
      obtain ⟨ws44, ws44e⟩ : ∃ x, x = w := ⟨_, rfl⟩
      have hg45 : Keep (ob v38) ws44 w := ws44e ▸ Keep.refl (ob v38) w
      refine whk_at ws44e.symm (whk_eff 3 (by kernel_rfl) rfl want_none ?_)
      obtain ⟨yq43x3_1, eq43x3_2, hs⟩ := o_bind hs
      refine w_call fnOk59 rfl rfl (words_expr_c _ _ h.lt (hT.go h.keep) u24 x12.e (h.rdS 4 rfl) _ eq43x3_2) ?_
      rintro _ w ⟨kq43x3_6, uq43x3_3, rfl, gq43x3_4, gq43x3_5⟩
      refine ⟨_, rfl, ?_⟩
      replace h := h.gotOwn 46 kq43x3_6 gq43x3_4 gq43x3_5
      have uq43x3_3q : ∀ b, ob uq43x3_3 b → ws44.heap.size ≤ b := fun b hb => Nat.le_trans hg45.size (gq43x3_5 b hb)
      replace hg45 := hg45.grow kq43x3_6
      refine wl_nil (whk_back hg45 (whk_eff 4 (by kernel_rfl) rfl want_none ?_))
      obtain ⟨aq43x4_1, hs⟩ := o_grd hs
      have uq43x4_2z := hg45.size
      refine w_appGN (R := rStr) (m := yq43x3_1) h 2 rfl (h.ownS 46 rfl) ElemOf45 rfl rfl rfl aq43x4_1.1 aq43x4_1.2 fun w uq43x4_2 h uq43x4_2k uq43x4_2n => ?_
      have uq43x4_2q : ∀ b, ob uq43x4_2 b → b < ws44.heap.size → ob v38 b := fun b hb hl => uq43x4_2n b hb (Nat.lt_of_lt_of_le hl (hg45).size)
      replace hg45 := hg45.same uq43x4_2k
      refine wl_nil (whk_back hg45 (whk_eff 7 (by kernel_rfl) rfl want_none ?_))
      obtain ⟨yq43x7_1, eq43x7_2, hs⟩ := o_bind hs
      refine w_call fnOk59 rfl rfl (words_expr_c _ _ h.lt (hT.go h.keep) u26 x12.f (h.rdS 5 rfl) _ eq43x7_2) ?_
      rintro _ w ⟨kq43x7_6, uq43x7_3, rfl, gq43x7_4, gq43x7_5⟩
      refine ⟨_, rfl, ?_⟩
      replace h := h.gotOwn 94 kq43x7_6 gq43x7_4 gq43x7_5
      have uq43x7_3q : ∀ b, ob uq43x7_3 b → ws44.heap.size ≤ b := fun b hb => Nat.le_trans hg45.size (gq43x7_5 b hb)
      replace hg45 := hg45.grow kq43x7_6
      refine wl_nil (whk_back hg45 (whk_eff 8 (by kernel_rfl) rfl want_none ?_))
      obtain ⟨aq43x8_1, hs⟩ := o_grd hs
      have uq43x8_2z := hg45.size
      refine w_appGN (R := rStr) (m := yq43x7_1) h 2 rfl (h.ownS 94 rfl) ElemOf45 rfl rfl rfl aq43x8_1.1 aq43x8_1.2 fun w uq43x8_2 h uq43x8_2k uq43x8_2n => ?_
      have uq43x8_2q : ∀ b, ob uq43x8_2 b → b < ws44.heap.size → ob v38 b := fun b hb hl => uq43x4_2q b (uq43x8_2n b hb (Nat.lt_of_lt_of_le hl (hg45).size)) hl
      replace hg45 := Keep.step hg45 uq43x8_2k (fun x hx hl => uq43x4_2q x hx hl)
      refine wl_nil (whk_back hg45 (whk_ok 9 hg45 rfl want_none (by kernel_rfl) (by kernel_rfl) (by kernel_rfl) (fun w hk => r_assign (v := uq43x8_2) rfl) (whk_done (by kernel_rfl) (then_normal (wc_join (σ := Value × List Str) (inl [3, 43, 44, 45, 46, 47, 48, 49, 50, 51, 52, 53, 54, 55]) (fun ⟨v46, x47⟩ => [(3, v46), (47, (gv (decide ((x12.kind : Int) = 6) == false) (.pointer (some ⟨b32, 0, none⟩)))), (48, (gv (decide ((x12.kind : Int) = 6) == false) (.int .i64 (x12.kind)))), (49, (gv (decide ((x12.kind : Int) = 6) == false) (.bool (decide ((x12.kind : Int) = 7)))))]) (fun ⟨v46, x47⟩ w => SH w0 M BE w (hset [(1, .sr rStmt va a), (2, .own rStr 9 v46 x47), (4, .rd rTok u24 x12.e), (5, .rd rTok u26 x12.f), (6, .rd rStmt u28 x12.a), (7, .rd rStmt u30 x12.b), (8, .blk b32 [(.int .i64 (x12.kind)), (.int .i64 (x12.n)), u24, u26, u28, u30])]) ∧ words_block_j32 F0 x12 nx14 x47 = some r) ?_ ?_)))))
      ·
       rintro ⟨v46, x47⟩ w junk ⟨h, hs⟩
       refine wc_seq (wc_region (wl_ok (r_fieldAddr Fld65x0 rfl) (wl_ok (r_ldB h 8 rfl One3 rfl rfl) (wl_ok (r_eql rfl rfl) (wl_nil (then_normal (wc_ifb hs rfl (fun c48 hs => ?_) (fun c48 hs => ?_))))))))
       ·
        refine wc_region (wl_ok (r_move (v := v46) rfl) (wl_ok (r_fieldAddr Fld65x5 rfl) (wl_ok (r_ldB h 8 rfl One41 rfl rfl) ?_)))
        obtain ⟨y49, e50, hs⟩ := o_bind hs
        refine w_call fnOk20 rfl rfl (ih _ _ h.lt (hT.go h.keep) u30 x12.b (h.rdS 7 rfl) _ e50) ?_
        rintro _ w ⟨k54, u51, rfl, g52, g53⟩
        refine ⟨_, rfl, ?_⟩
        replace h := h.gotOwn 142 k54 g52 g53
        obtain ⟨a55, hs⟩ := o_grd hs
        refine w_app (R := rStr) (m := y49) h 2 rfl (h.ownS 142 rfl) ElemOf45 rfl rfl rfl a55.1 a55.2 fun w u56 h => wl_ok (r_assign (v := u56) rfl) (wl_nil (inBlock_normal (then_loop ?_)))
        exact jend (u56, (x47 ++ y49)) ⟨h.cn _, hs⟩
       ·
        refine wc_skip (inBlock_normal (then_loop ?_))
        exact jend (v46, x47) ⟨h.cn _, hs⟩
      ·
       refine wc_seq (wc_region (wl_ok (r_fieldAddr Fld65x0 rfl) (wl_ok (r_ldB h 8 rfl One3 rfl rfl) (wl_ok (r_eql rfl rfl) (wl_ok (r_move (v := (.bool (decide ((x12.kind : Int) = 6)))) rfl) (wl_gd0 rfl rfl (fun q => r_fieldAddr Fld65x0 rfl) (wl_gd0 rfl rfl (fun q => r_ldB h 8 rfl One3 (gvt q) rfl) (wl_gd0 rfl rfl (fun q => r_eql (gvt q) rfl) (wl_ok (r_por rfl rfl evc) (wl_nil (then_normal (wc_ifb hs rfl (fun c57 hs => ?_) (fun c57 hs => ?_)))))))))))))
       ·
        refine wc_region (wl_ok (r_move (v := uq43x8_2) rfl) (wl_ok (r_fieldAddr Fld65x4 rfl) (wl_ok (r_ldB h 8 rfl One41 rfl rfl) ?_)))
        obtain ⟨y58, e59, hs⟩ := o_bind hs
        refine w_call fnOk20 rfl rfl (ih _ _ h.lt (hT.go h.keep) u28 x12.a (h.rdS 6 rfl) _ e59) ?_
        rintro _ w ⟨k63, u60, rfl, g61, g62⟩
        refine ⟨_, rfl, ?_⟩
        replace h := h.gotOwn 143 k63 g61 g62
        obtain ⟨a64, hs⟩ := o_grd hs
        refine w_app (R := rStr) (m := y58) h 2 rfl (h.ownS 143 rfl) ElemOf45 rfl rfl rfl a64.1 a64.2 fun w u65 h => wl_ok (r_assign (v := u65) rfl) (wl_nil (then_loop ?_))
        exact jend (u65, (((x39 ++ yq43x3_1) ++ yq43x7_1) ++ y58)) ⟨h.cn _, hs⟩
       ·
        refine wc_skip (then_loop ?_)
        exact jend (uq43x8_2, ((x39 ++ yq43x3_1) ++ yq43x7_1)) ⟨h.cn _, hs⟩
     ·
      refine wc_seq (wc_region (wl_ok (r_fieldAddr Fld65x0 rfl) (wl_ok (r_ldB h 8 rfl One3 rfl rfl) (wl_ok (r_eql rfl rfl) (wl_ok (r_move (v := (.bool (decide ((x12.kind : Int) = 1)))) rfl) (wl_gd0 rfl rfl (fun q => r_fieldAddr Fld65x0 rfl) (wl_gd0 rfl rfl (fun q => r_ldB h 8 rfl One3 (gvt q) rfl) (wl_gd0 rfl rfl (fun q => r_eql (gvt q) rfl) (wl_ok (r_por rfl rfl evc) (wl_nil (then_normal (wc_ifb hs rfl (fun c66 hs => ?_) (fun c66 hs => ?_)))))))))))))
      ·
       refine wc_region (wl_ok (r_move (v := u37) rfl) (wl_ok (r_fieldAddr Fld65x1 rfl) (wl_ok (r_ldB h 8 rfl One3 rfl rfl) ?_)))
       obtain ⟨y67, e68, hs⟩ := o_bind hs
       refine w_call fnOk19 rfl rfl (strconv_Itoa_c _ _ h.lt (hT.go h.keep) x12.n _ e68) ?_
       rintro _ w ⟨k69, rfl⟩
       refine ⟨_, rfl, ?_⟩
       replace h := h.grow k69
       refine w_bs (R := rStr) (vs := [(strV y67)]) (xs := [y67]) h 144 ElemOf45 rfl rfl rfl ⟨rfl, trivial⟩ rfl fun w u70 h => ?_
       obtain ⟨a71, hs⟩ := o_grd hs
       refine w_app (R := rStr) (m := [y67]) h 2 rfl (h.ownS 144 rfl) ElemOf45 rfl rfl rfl a71.1 a71.2 fun w u72 h => wl_ok (r_assign (v := u72) rfl) (wl_nil (then_loop ?_))
       exact jend (u72, ((x9 ++ [x33]) ++ [y67])) ⟨h.cn _, hs⟩
      ·
       refine wc_skip (then_loop ?_)
       exact jend (u37, (x9 ++ [x33])) ⟨h.cn _, hs⟩
   ·
    rw [drop_ge (hik ▸ e15), each_nil] at hs
    refine wc_exit (then_exit (then_exit (inBlock_eq (then_normal (wc_seq (wc_region (wl_ok (r_move (v := v8) rfl) (w_bs (R := rStr) (vs := [(strV [125])]) (xs := [[125]]) h 145 ElemOf45 rfl rfl rfl ⟨rfl, trivial⟩ rfl fun w u73 h => ?_))))))))
    obtain ⟨a74, hs⟩ := o_grd hs
    refine w_app (R := rStr) (m := [[125]]) h 2 rfl (h.ownS 145 rfl) ElemOf45 rfl rfl rfl a74.1 a74.2 fun w u75 h => wl_ok (r_assign (v := u75) rfl) (wl_nil (then_normal (wc_ret (fin1 (v := u75) Tryz.results20 rfl ?_))))
    obtain rfl := Option.some.inj hs
    exact ⟨h.grown, _, rfl, (h.outOwn 2 rfl).1, (h.outOwn 2 rfl).2⟩
theorem strings_Join_c (w0 : World) (M : BS) (hM : ∀ b, M b → b < w0.heap.size) (va : Value) (a : List Str) (ha : Rd2 rStr w0 BE M va a) (b : Str) (r : Str) (hs : joinS a b = some r) :
    Calls Tryz.prog 21 #[va, strV b] w0 (fun e w' => Grow w0 w' ∧ e = .returned (strV r)) :=
  join_w Tryz.strings_Join_none Tryz.strings_Join ha hs
def words_Print_b3 (N : Nat) (x15 : Fun) (x12 : List Str) (nx17 : List Str → Option (Str × Int)) : Option (Str × Int) :=
  (itoaS x15.params).bind fun yq31x3_1 => (itoaS x15.locals).bind fun yq31x6_1 => grd (Room 16 x12 [[102, 117, 110], yq31x3_1, yq31x6_1]) ((words_block N x15.body).bind fun yq31x11_1 => grd (Room 16 (x12 ++ [[102, 117, 110], yq31x3_1, yq31x6_1]) yq31x11_1) (nx17 ((x12 ++ [[102, 117, 110], yq31x3_1, yq31x6_1]) ++ yq31x11_1)))
def words_Print_k4 (x12 : List Str) : Option (Str × Int) :=
  (joinS x12 [32]).bind fun y34 => some (y34, 0)
def words_Print (N : Nat) (a : List Fun) : Option (Str × Int) :=
  (source_Check N a).bind fun y1 => bif decide ((y1 : Int) ≠ 0) then some ([], y1) else each (words_Print_b3 N) words_Print_k4 a []
theorem words_Print_c (N : Nat) (w0 : World) (M : BS) (hM : ∀ b, M b → b < w0.heap.size) (hT : Tabs Tryz.prog 5 w0) (va : Value) (a : List Fun) (ha : Rd2 rFun w0 BE M va a) (r : Str × Int) (hs : words_Print N a = some r) :
    Calls Tryz.prog 5 #[va] w0 (fun e w' => Grow w0 w' ∧ e = .returned (.tuple #[strV r.1, .int .i64 r.2])) := by
 refine calls_start (args := [va]) Tryz.func5 rfl Tryz.ntmps5 (Nat.le_of_ble_eq_true rfl) ?_
 have h := SH.init hM
 replace h := h.argSr 1 ha none_own
 have hl_a := ha.len_le
 refine wc_seq (wc_region (wl_ok (r_assign (v := (strV [])) rfl) (wl_ok (r_assign (v := (.int .i64 (0))) rfl) (wl_nil (then_normal (wc_seq (wc_seq (wc_region (wl_ok (r_move (v := va) rfl) ?_)))))))))
 obtain ⟨y1, e2, hs⟩ := o_bind hs
 refine w_call fnOk18 rfl rfl (source_Check_c N _ _ h.lt va a (h.srS 1 rfl) _ e2) ?_
 rintro _ w ⟨k3, rfl⟩
 refine ⟨_, rfl, ?_⟩
 replace h := h.grow k3
 refine wl_ok (r_assign (v := (.int .i64 (y1))) rfl) (wl_nil (then_normal (wc_seq (wc_region (wl_ok (r_move (v := (.int .i64 (y1))) rfl) (wl_ok (r_neq rfl rfl) (wl_nil (then_normal (wc_ifb hs rfl (fun c4 hs => ?_) (fun c4 hs => ?_))))))))))
 ·
  refine wc_seq (wc_region (wl_ok (r_move (v := (.int .i64 (y1))) rfl) (wl_ok (r_assign (v := (strV [])) rfl) (wl_ok (r_assign (v := (.int .i64 (y1))) rfl) (wl_nil (then_normal (wc_ret (then_ret (fin2 (v1 := (strV [])) (v2 := (.int .i64 (y1))) Tryz.results5 rfl rfl ?_)))))))))
  obtain rfl := Option.some.inj hs
  exact ⟨h.grown, rfl⟩
 ·
  refine wc_skip (then_normal (wc_seq (wc_region (wl_ok (r_assign (v := (.slice none 0 0)) rfl) (wl_nil (then_normal (wc_seq (wc_seq (wc_region (wl_ok (r_move (v := va) rfl) (wl_ok (r_len SliceOf22 rfl (h.srS 1 rfl)) (wl_ok (r_move (v := (.int .i64 (0))) rfl) (wl_nil (then_normal (wc_block ?_)))))))))))))))
  replace h := h.nilO (R := rStr) (E := 9) 5
  refine wc_lp (σ := Nat × Int × Value × List Str) (inl [5, 7, 15, 16, 17, 18, 19, 20, 21, 22, 23, 24, 25, 26, 27, 28, 29, 30, 31, 32]) (fun ⟨k13, i14, v11, x12⟩ => [(5, v11), (15, (.int .i64 (i14)))]) (fun ⟨k13, i14, v11, x12⟩ w => SH w0 M BE w (hset [(1, .sr rFun va a), (5, .own rStr 9 v11 x12)]) ∧ i14 = (k13 : Int) ∧ each (words_Print_b3 N) words_Print_k4 (a.drop k13) x12 = some r) (fun ⟨k13, i14, v11, x12⟩ => a.length - k13) ⟨0, 0, (.slice none 0 0), []⟩ ⟨rfl, rfl, trivial⟩ ?_ ?_
  ·
   exact ⟨h.cn _, rfl, hs⟩
  ·
   rintro ⟨k13, i14, v11, x12⟩ w junk ⟨h, hik, hs⟩
   refine wc_seq (wc_region ?_)
   refine wl_ok (r_lss rfl rfl) (wl_nil (then_normal ?_))
   refine wc_seq (wc_if rfl (fun e18 => ?_) (fun e18 => ?_))
   ·
    refine wc_skip (then_normal ?_)
    obtain ⟨x15, e19a, e19b⟩ := drop_lt (hik ▸ e18)
    rw [e19b, each_cons] at hs
    generalize hnx17 : each (words_Print_b3 N) words_Print_k4 (a.drop (k13 + 1)) = nx17 at hs
    have e19r := nat_rng ((h.srS 1 rfl)).len_le hik e18
    refine wc_seq (wc_block (wc_seq (wc_region ?_)))
    obtain ⟨b21, o22, cs23, h, r24, i20⟩ := h.ixS 1 6 rfl SliceOf22 rfl (nat_nn hik) (get_nat hik e19a)
    obtain ⟨u25, rfl, g26⟩ := rFun_open r24
    replace h := h.knowRd 7 g26.up
    refine wl_ok (i20 _ _ _ _ _ _ _ _ _ rfl rfl) (wl_ok (r_ldPN (k := 0) (vs := [(.int .i64 (x15.params)), (.int .i64 (x15.locals)), u25]) h 6 rfl Many43 rfl rfl rfl (Nat.le_of_ble_eq_true rfl)) (w_allocN h 8 Many43 fun w b27 h => w_stN (vs := [(.int .i64 (x15.params)), (.int .i64 (x15.locals)), u25]) h 8 [(.int .i64 (x15.params)), (.int .i64 (x15.locals)), u25] rfl Many43 rfl rfl rfl rfl rfl (ones_cons rfl (ones_cons rfl (ones_cons (h.rdAt 7 rfl).one ones_nil))) fun w h => wl_nil (then_normal (wck_held (L := (ob v11)) mixed h fun w h => whk_ok 0 (Keep.refl _ _) rfl want_none (by kernel_rfl) (by kernel_rfl) (by kernel_rfl) (fun w hk => r_move (v := v11) rfl) (whk_ok 1 (Keep.refl _ _) rfl want_none (by kernel_rfl) (by kernel_rfl) (by kernel_rfl) (fun w hk => r_fieldAddr Fld43x0 rfl) (whk_ok 2 (Keep.refl _ _) rfl want_none (by kernel_rfl) (by kernel_rfl) (by kernel_rfl) (fun w hk => have h := h.loseC 5 rfl hk; r_ldB h 8 rfl One3 rfl rfl) (whk_ok 4 (Keep.refl _ _) rfl want_none (by kernel_rfl) (by kernel_rfl) (by kernel_rfl) (fun w hk => r_fieldAddr Fld43x1 rfl) (whk_ok 5 (Keep.refl _ _) rfl want_none (by kernel_rfl) (by kernel_rfl) (by kernel_rfl) (fun w hk => have h := h.loseC 5 rfl hk; r_ldB h 8 rfl One3 rfl rfl) (whk_ok 9 (Keep.refl _ _) rfl want_none (by kernel_rfl) (by kernel_rfl) (by kernel_rfl) (fun w hk => r_fieldAddr Fld43x2 rfl) (whk_ok 10 (Keep.refl _ _) rfl want_none (by kernel_rfl) (by kernel_rfl) (by kernel_rfl) (fun w hk => have h := h.loseC 5 rfl hk; r_ldB h 8 rfl One41 rfl rfl) ?_))))))))))
    obtain ⟨ws32, ws32e⟩ : ∃ x, x = w := ⟨_, rfl⟩
    have hg33 : Keep (ob v11) ws32 w := ws32e ▸ Keep.refl (ob v11) w
    refine whk_at ws32e.symm (whk_eff 3 (by kernel_rfl) rfl want_none ?_)
    obtain ⟨yq31x3_1, eq31x3_2, hs⟩ := o_bind hs
    refine w_call fnOk19 rfl rfl (strconv_Itoa_c _ _ h.lt (hT.go h.keep) x15.params _ eq31x3_2) ?_
    rintro _ w ⟨kq31x3_3, rfl⟩
    refine ⟨_, rfl, ?_⟩
    replace h := h.grow kq31x3_3
    replace hg33 := hg33.grow kq31x3_3
    refine wl_nil (whk_back hg33 (whk_eff 6 (by kernel_rfl) rfl want_none ?_))
    obtain ⟨yq31x6_1, eq31x6_2, hs⟩ := o_bind hs
    refine w_call fnOk19 rfl rfl (strconv_Itoa_c _ _ h.lt (hT.go h.keep) x15.locals _ eq31x6_2) ?_
    rintro _ w ⟨kq31x6_3, rfl⟩
    refine ⟨_, rfl, ?_⟩
    replace h := h.grow kq31x6_3
    replace hg33 := hg33.grow kq31x6_3
    refine wl_nil (whk_back hg33 (whk_eff 7 (by kernel_rfl) rfl want_none (w_bsG (R := rStr) (vs := [(strV [102, 117, 110]), (strV yq31x3_1), (strV yq31x6_1)]) (xs := [[102, 117, 110], yq31x3_1, yq31x6_1]) h 93 ElemOf45 rfl rfl rfl ⟨rfl, ⟨rfl, ⟨rfl, trivial⟩⟩⟩ rfl fun w uq31x7_1 h uq31x7_1k uq31x7_1f => ?_)))
    have uq31x7_1q : ∀ b, ob uq31x7_1 b → ws32.heap.size ≤ b := fun b hb => Nat.le_trans hg33.size (uq31x7_1f b hb)
    replace hg33 := hg33.grow uq31x7_1k
    refine wl_nil (whk_back hg33 (whk_eff 8 (by kernel_rfl) rfl want_none ?_))
    obtain ⟨aq31x8_1, hs⟩ := o_grd hs
    have uq31x8_2z := hg33.size
    refine w_appGN (R := rStr) (m := [[102, 117, 110], yq31x3_1, yq31x6_1]) h 5 rfl (h.ownS 93 rfl) ElemOf45 rfl rfl rfl aq31x8_1.1 aq31x8_1.2 fun w uq31x8_2 h uq31x8_2k uq31x8_2n => ?_
    have uq31x8_2q : ∀ b, ob uq31x8_2 b → b < ws32.heap.size → ob v11 b := fun b hb hl => uq31x8_2n b hb (Nat.lt_of_lt_of_le hl (hg33).size)
    replace hg33 := hg33.same uq31x8_2k
    refine wl_nil (whk_back hg33 (whk_eff 11 (by kernel_rfl) rfl want_none ?_))
    obtain ⟨yq31x11_1, eq31x11_2, hs⟩ := o_bind hs
    refine w_call fnOk20 rfl rfl (words_block_c N _ _ h.lt (hT.go h.keep) u25 x15.body (h.rdS 7 rfl) _ eq31x11_2) ?_
    rintro _ w ⟨kq31x11_6, uq31x11_3, rfl, gq31x11_4, gq31x11_5⟩
    refine ⟨_, rfl, ?_⟩
    replace h := h.gotOwn 141 kq31x11_6 gq31x11_4 gq31x11_5
    have uq31x11_3q : ∀ b, ob uq31x11_3 b → ws32.heap.size ≤ b := fun b hb => Nat.le_trans hg33.size (gq31x11_5 b hb)
    replace hg33 := hg33.grow kq31x11_6
    refine wl_nil (whk_back hg33 (whk_eff 12 (by kernel_rfl) rfl want_none ?_))
    obtain ⟨aq31x12_1, hs⟩ := o_grd hs
    have uq31x12_2z := hg33.size
    refine w_appGN (R := rStr) (m := yq31x11_1) h 5 rfl (h.ownS 141 rfl) ElemOf45 rfl rfl rfl aq31x12_1.1 aq31x12_1.2 fun w uq31x12_2 h uq31x12_2k uq31x12_2n => ?_
    have uq31x12_2q : ∀ b, ob uq31x12_2 b → b < ws32.heap.size → ob v11 b := fun b hb hl => uq31x8_2q b (uq31x12_2n b hb (Nat.lt_of_lt_of_le hl (hg33).size)) hl
    replace hg33 := Keep.step hg33 uq31x12_2k (fun x hx hl => uq31x8_2q x hx hl)
    refine wl_nil (whk_back hg33 (whk_ok 13 hg33 rfl want_none (by kernel_rfl) (by kernel_rfl) (by kernel_rfl) (fun w hk => r_assign (v := uq31x12_2) rfl) (whk_done (by kernel_rfl) (inBlock_normal (then_normal (wc_region (wl_ok (r_add rfl rfl e19r) (wl_ok (r_move (v := (.int .i64 ((i14 + 1)))) rfl) (wl_nil (then_loop ?_))))))))))
    subst hnx17
    exact lend ⟨k13 + 1, i14 + 1, uq31x12_2, ((x12 ++ [[102, 117, 110], yq31x3_1, yq31x6_1]) ++ yq31x11_1)⟩ ⟨h.cn _, by omega, hs⟩ (by have := of_decide_eq_true e18; dsimp only; omega)
   ·
    rw [drop_ge (hik ▸ e18), each_nil] at hs
    refine wc_exit (then_exit (then_exit (inBlock_eq (then_normal (wc_seq (wc_region (wl_ok (r_move (v := v11) rfl) ?_)))))))
    obtain ⟨y34, e35, hs⟩ := o_bind hs
    refine w_call fnOk21 rfl rfl (strings_Join_c _ _ h.lt v11 x12 (h.ownS 5 rfl) [32] _ e35) ?_
    rintro _ w ⟨k36, rfl⟩
    refine ⟨_, rfl, ?_⟩
    replace h := h.grow k36
    refine wl_ok (r_assign (v := (strV y34)) rfl) (wl_ok (r_assign (v := (.int .i64 (0))) rfl) (wl_nil (then_normal (wc_ret (fin2 (v1 := (strV y34)) (v2 := (.int .i64 (0))) Tryz.results5 rfl rfl ?_)))))
    obtain rfl := Option.some.inj hs
    exact ⟨h.grown, rfl⟩
theorem strings_Split_c (w0 : World) (M : BS) (hM : ∀ b, M b → b < w0.heap.size) (hT : Tabs Tryz.prog 5 w0) (a : Str) (b : Str) (r : List Str) (hs : splitS a b = some r) :
    Calls Tryz.prog 22 #[strV a, strV b] w0 (fun e w' => Grow w0 w' ∧ ∃ u, e = .returned u ∧ RdSl rStr w' M u r) :=
  split_w Tryz.strings_Split hM hT hs
theorem strconv_Atoi_c (w0 : World) (M : BS) (hM : ∀ b, M b → b < w0.heap.size) (hT : Tabs Tryz.prog 5 w0) (a : Str) (r : Int × Bool) (hs : atoiS a = some r) :
    Calls Tryz.prog 31 #[strV a] w0 (fun e w' => Grow w0 w' ∧ ∃ u, e = .returned (.tuple #[.int .i64 r.1, u]) ∧ IsErr u r.2) :=
  atoi_w Tryz.strconv_Atoi_ok Tryz.strconv_Atoi_syntax_var Tryz.strconv_Atoi_range_var hT hs
def words_heads_j8 (nx13 : List Int → Option (List Int)) (x17 : List Int) : Option (List Int) :=
  nx13 x17
def words_heads_b9 (a : List Str) (i10 : Int) (x11 : Str) (x8 : List Int) (nx13 : List Int → Option (List Int)) : Option (List Int) :=
  bif (decide ((x11 : Str) = [102, 117, 110]) && decide (((i10 + 1) : Int) < (a.length : Int))) then (idx a (i10 + 1)).bind fun x24 => (atoiS x24).bind fun y31 => grd (Room 8 x8 [(max 0 (min y31.1 3))]) (words_heads_j8 nx13 (x8 ++ [(max 0 (min y31.1 3))])) else words_heads_j8 nx13 x8
def words_heads_k10 (x8 : List Int) : Option (List Int) :=
  some x8
def words_heads (a : List Str) : Option (List Int) :=
  eachI (words_heads_b9 a) words_heads_k10 0 a []
theorem words_heads_c (w0 : World) (M : BS) (hM : ∀ b, M b → b < w0.heap.size) (hT : Tabs Tryz.prog 5 w0) (va : Value) (a : List Str) (ha : Rd2 rStr w0 BE M va a) (r : List Int) (hs : words_heads a = some r) :
    Calls Tryz.prog 23 #[va] w0 (fun e w' => Grow w0 w' ∧ ∃ u0, e = .returned (u0) ∧ OwnSl rInt 3 w' M u0 r ∧ (∀ b, ob u0 b → w0.heap.size ≤ b)) := by
 refine calls_start (args := [va]) Tryz.func23 rfl Tryz.ntmps23 (Nat.le_of_ble_eq_true rfl) ?_
 have h := SH.init hM
 replace h := h.argSr 1 ha none_own
 have hl_a := ha.len_le
 refine wc_seq (wc_region (wl_ok (r_assign (v := (.slice none 0 0)) rfl) (wl_nil (then_normal (wc_seq (wc_region (wl_ok (r_assign (v := (.slice none 0 0)) rfl) (wl_nil (then_normal (wc_seq (wc_seq (wc_region (wl_ok (r_move (v := va) rfl) (wl_ok (r_len SliceOf45 rfl (h.srS 1 rfl)) (wl_ok (r_move (v := (.int .i64 (0))) rfl) (wl_nil (then_normal (wc_block ?_))))))))))))))))))
 replace h := h.nilO (R := rInt) (E := 3) 5
 refine wc_lp (σ := Nat × Int × Value × List Int) (inl [3, 4, 5, 6, 7, 10, 11, 12, 13, 14, 15, 16, 17, 18, 19, 20, 21, 22, 23, 24, 25, 26, 27, 28, 29, 30, 31, 32, 33, 34, 35, 36, 37, 38, 39]) (fun ⟨k9, i10, v7, x8⟩ => [(3, v7), (10, (.int .i64 (i10)))]) (fun ⟨k9, i10, v7, x8⟩ w => SH w0 M BE w (hset [(1, .sr rStr va a), (5, .own rInt 3 v7 x8)]) ∧ i10 = (k9 : Int) ∧ eachI (words_heads_b9 a) words_heads_k10 i10 (a.drop k9) x8 = some r) (fun ⟨k9, i10, v7, x8⟩ => a.length - k9) ⟨0, 0, (.slice none 0 0), []⟩ ⟨rfl, rfl, trivial⟩ ?_ ?_
 ·
  exact ⟨h.cn _, rfl, hs⟩
 ·
  rintro ⟨k9, i10, v7, x8⟩ w junk ⟨h, hik, hs⟩
  refine wc_seq (wc_region ?_)
  refine wl_ok (r_lss rfl rfl) (wl_nil (then_normal ?_))
  refine wc_seq (wc_if rfl (fun e14 => ?_) (fun e14 => ?_))
  ·
   refine wc_skip (then_normal ?_)
   obtain ⟨x11, e15a, e15b⟩ := drop_lt (hik ▸ e14)
   rw [e15b, eachI_cons] at hs
   generalize hnx13 : eachI (words_heads_b9 a) words_heads_k10 (i10 + 1) (a.drop (k9 + 1)) = nx13 at hs
   have e15r := nat_rng ((h.srS 1 rfl)).len_le hik e14
   refine wc_join (σ := Value × List Int) (inl [3, 4, 5, 6, 7, 12, 13, 14, 15, 16, 17, 18, 19, 20, 21, 22, 23, 24, 25, 26, 27, 28, 29, 30, 31, 32, 33, 34, 35, 36, 37, 38]) (fun ⟨v16, x17⟩ => [(3, v16), (18, (gv (decide ((x11 : Str) = [102, 117, 110]) == true) (.int .i64 (i10)))), (19, (gv (decide ((x11 : Str) = [102, 117, 110]) == true) (.int .i64 ((i10 + 1))))), (20, (gv (decide ((x11 : Str) = [102, 117, 110]) == true) va)), (21, (gv (decide ((x11 : Str) = [102, 117, 110]) == true) (.int .i64 ((a.length : Int))))), (22, (gv (decide ((x11 : Str) = [102, 117, 110]) == true) (.bool (decide (((i10 + 1) : Int) < (a.length : Int))))))]) (fun ⟨v16, x17⟩ w => SH w0 M BE w (hset [(1, .sr rStr va a), (5, .own rInt 3 v16 x17)]) ∧ words_heads_j8 nx13 x17 = some r) ?_ ?_
   ·
    rintro ⟨v16, x17⟩ w junk ⟨h, hs⟩
    refine wc_region (wl_ok (r_add rfl rfl e15r) (wl_ok (r_move (v := (.int .i64 ((i10 + 1)))) rfl) (wl_nil (then_loop ?_))))
    subst hnx13
    exact lend ⟨k9 + 1, i10 + 1, v16, x17⟩ ⟨h.cn _, by omega, hs⟩ (by have := of_decide_eq_true e14; dsimp only; omega)
   ·
    refine wc_block (wc_seq (wc_region (wl_ok (r_move (v := (.int .i64 (i10))) rfl) ?_)))
    obtain ⟨b19, o20, cs21, h, r22, i18⟩ := h.ixS 1 6 rfl SliceOf45 rfl (nat_nn hik) (get_nat hik e15a)
    obtain rfl := r22
    refine wl_ok (i18 _ _ _ _ _ _ _ _ _ rfl rfl) (wl_ok (r_ldP (k := 0) h 6 rfl One9 rfl rfl) (wl_ok (r_assign (v := (.int .i64 (i10))) rfl) (wl_ok (r_assign (v := (strV x11)) rfl) (wl_nil (then_normal (wc_seq (wc_region (wl_ok (r_move (v := (strV x11)) rfl) (wl_ok (r_eqls rfl rfl) (wl_ok (r_move (v := (.bool (decide ((x11 : Str) = [102, 117, 110])))) rfl) (wl_gd0 rfl rfl (fun q => r_move (v := (.int .i64 (i10))) rfl) (wl_gd0 rfl rfl (fun q => r_add (gvt q) rfl e15r) (wl_gd0 rfl rfl (fun q => r_move (v := va) rfl) (wl_gd0 rfl rfl (fun q => r_len SliceOf45 (gvt q) (h.srS 1 rfl)) (wl_gd0 rfl rfl (fun q => r_lss (gvt q) (gvt q)) (wl_ok (r_pand rfl rfl evc) (wl_nil (then_normal (wc_ifb hs rfl (fun c23 hs => ?_) (fun c23 hs => ?_))))))))))))))))))))
    ·
     refine wc_seq (wc_region (wl_ok (r_move (v := va) rfl) (wl_ok (r_move (v := (.int .i64 (i10))) rfl) (wl_ok (r_add rfl rfl e15r) ?_))))
     obtain ⟨x24, e25, hs⟩ := o_bind hs
     obtain ⟨b27, o28, cs29, h, r30, i26⟩ := h.ixS 1 7 rfl SliceOf45 rfl (o_idx e25).1 (o_idx e25).2
     obtain rfl := r30
     refine wl_ok (i26 _ _ _ _ _ _ _ _ _ rfl rfl) (wl_ok (r_ldP (k := 0) h 7 rfl One9 rfl rfl) ?_)
     obtain ⟨y31, e32, hs⟩ := o_bind hs
     refine w_call fnOk31 rfl rfl (strconv_Atoi_c _ _ h.lt (hT.go h.keep) x24 _ e32) ?_
     rintro _ w ⟨k35, u33, rfl, g34⟩
     refine ⟨_, rfl, ?_⟩
     replace h := h.grow k35
     refine wl_ok (r_move (v := (.tuple #[(.int .i64 (y31.1)), u33])) rfl) (wl_ok (r_extract rfl rfl) (wl_ok (r_extract rfl rfl) (wl_ok (r_assign (v := (.int .i64 (y31.1))) rfl) (wl_ok (r_assign (v := u33) rfl) (wl_nil (then_normal (wc_region (wl_ok (r_move (v := v7) rfl) (wl_ok (r_move (v := (.int .i64 (y31.1))) rfl) (wl_ok (r_min rfl rfl) (wl_ok (r_max rfl rfl) (w_bs (R := rInt) (vs := [(.int .i64 ((max 0 (min y31.1 3))))]) (xs := [(max 0 (min y31.1 3))]) h 8 ElemOf51 rfl rfl rfl ⟨rfl, trivial⟩ rfl fun w u36 h => ?_))))))))))))
     obtain ⟨a37, hs⟩ := o_grd hs
     refine w_app (R := rInt) (m := [(max 0 (min y31.1 3))]) h 5 rfl (h.ownS 8 rfl) ElemOf51 rfl rfl rfl a37.1 a37.2 fun w u38 h => wl_ok (r_assign (v := u38) rfl) (wl_nil (inBlock_normal (then_loop ?_)))
     exact jend (u38, (x8 ++ [(max 0 (min y31.1 3))])) ⟨h.cn _, hs⟩
    ·
     refine wc_skip (inBlock_normal (then_loop ?_))
     exact jend (v7, x8) ⟨h.cn _, hs⟩
  ·
   rw [drop_ge (hik ▸ e14), eachI_nil] at hs
   refine wc_exit (then_exit (then_exit (inBlock_eq (then_normal (wc_seq (wc_region (wl_ok (r_move (v := v7) rfl) (wl_ok (r_assign (v := v7) rfl) (wl_nil (then_normal (wc_ret (fin1 (v := v7) Tryz.results23 rfl ?_))))))))))))
   obtain rfl := Option.some.inj hs
   exact ⟨h.grown, _, rfl, (h.outOwn 5 rfl).1, (h.outOwn 5 rfl).2⟩
def words_reader_next (sx : Reader) : Option (Str × Reader) :=
  bif decide (((sx.w.length : Int) : Int) = 0) then some ([], (⟨sx.w, sx.params, true⟩ : Reader)) else (idx sx.w 0).bind fun x2 => (sub? sx.w 1 (sx.w.length : Int)).bind fun x9 => some (x2, (⟨x9, sx.params, sx.bad⟩ : Reader))
theorem words_reader_next_c (w0 : World) (M : BS) (hM : ∀ b, M b → b < w0.heap.size) (sb : Nat) (sx : Reader) (vs0 vs1 : Value) (hC : Chunk.holds w0 M (Chunk.own' (.blk sb [vs0, vs1, (.bool (sx.bad))] : Chunk)) (.blk sb [vs0, vs1, (.bool (sx.bad))] : Chunk)) (hap : ∀ b, Chunk.own' (.blk sb [vs0, vs1, (.bool (sx.bad))] : Chunk) b → ¬ M b) (hvs0 : RdSl rStr w0 (fun b => M b ∨ Chunk.own' (.blk sb [vs0, vs1, (.bool (sx.bad))] : Chunk) b) vs0 sx.w) (hvs1 : RdSl rInt w0 (fun b => M b ∨ Chunk.own' (.blk sb [vs0, vs1, (.bool (sx.bad))] : Chunk) b) vs1 sx.params) (r : Str × Reader) (hs : words_reader_next sx = some r) :
    Calls Tryz.prog 24 #[(.pointer (some ⟨sb, 0, none⟩))] w0 (fun e w' => Keep (Chunk.own' (.blk sb [vs0, vs1, (.bool (sx.bad))] : Chunk)) w0 w' ∧ ∃ us0, ∃ us1, e = .returned (strV r.1) ∧ Chunk.holds w' M (Chunk.own' (.blk sb [us0, us1, .bool r.2.bad] : Chunk)) (.blk sb [us0, us1, .bool r.2.bad] : Chunk) ∧ (∀ b, Chunk.own' (.blk sb [us0, us1, .bool r.2.bad] : Chunk) b → b < w0.heap.size → Chunk.own' (.blk sb [vs0, vs1, (.bool (sx.bad))] : Chunk) b) ∧ RdSl rStr w' (fun b => M b ∨ Chunk.own' (.blk sb [us0, us1, .bool r.2.bad] : Chunk) b) us0 r.2.w ∧ RdSl rInt w' (fun b => M b ∨ Chunk.own' (.blk sb [us0, us1, .bool r.2.bad] : Chunk) b) us1 r.2.params) := by
 refine calls_start (args := [(.pointer (some ⟨sb, 0, none⟩))]) Tryz.func24 rfl Tryz.ntmps24 (Nat.le_of_ble_eq_true rfl) ?_
 have h := SH.init1 hM hC hap
 replace h := h.argRdC 2 hvs0 own1
 replace h := h.argRdC 3 hvs1 (own1_rd own1)
 generalize hK0 : (.blk sb [vs0, vs1, (.bool (sx.bad))] : Chunk).own' = K0 at h
 refine wc_seq (wc_region (wl_ok (r_assign (v := (strV [])) rfl) (wl_nil (then_normal (wc_seq (wc_seq (wc_region (wl_ok (r_move (v := (.pointer (some ⟨sb, 0, none⟩))) rfl) (wl_ok (r_nilCheck rfl) (wl_ok (r_fieldAddr Fld54x0 rfl) (wl_ok (r_ldB h 1 rfl One45 rfl rfl) (wl_ok (r_len SliceOf45 rfl (h.rdS 2 rfl)) (wl_ok (r_eql rfl rfl) (wl_nil (then_normal (wc_ifb hs rfl (fun c1 hs => ?_) (fun c1 hs => ?_)))))))))))))))))
 ·
  refine wc_seq (wc_region (wl_ok (r_move (v := (.pointer (some ⟨sb, 0, none⟩))) rfl) (wl_ok (r_nilCheck rfl) (wl_ok (r_fieldAddr Fld54x2 rfl) (w_st1 h 1 [vs0, vs1, (.bool (true))] rfl One4 rfl rfl rfl rfl rfl fun w h => wl_nil (then_normal (wc_seq (wc_region (wl_ok (r_assign (v := (strV [])) rfl) (wl_nil (then_normal (wc_ret (then_ret (fin1 (v := (strV [])) Tryz.results24 rfl ?_))))))))))))))
  obtain rfl := Option.some.inj hs
  subst hK0
  obtain ⟨o1, o2, o3⟩ := h.outS 1 (C := (.blk sb [vs0, vs1, (.bool (true))] : Chunk)) rfl trivial
  exact ⟨o2, vs0, vs1, rfl, o1, o3, h.outRdC 1 2 rfl rfl, h.outRdC 1 3 rfl rfl⟩
 ·
  refine wc_skip (then_normal (wc_seq (wc_region (wl_ok (r_move (v := (.pointer (some ⟨sb, 0, none⟩))) rfl) (wl_ok (r_nilCheck rfl) (wl_ok (r_fieldAddr Fld54x0 rfl) (wl_ok (r_ldB h 1 rfl One45 rfl rfl) ?_)))))))
  obtain ⟨x2, e3, hs⟩ := o_bind hs
  obtain ⟨b5, o6, cs7, h, r8, i4⟩ := h.ixR 2 4 rfl SliceOf45 rfl (o_idx e3).1 (o_idx e3).2
  obtain rfl := r8
  refine wl_ok (i4 _ _ _ _ _ _ _ _ _ rfl rfl) (wl_ok (r_ldP (k := 0) h 4 rfl One9 rfl rfl) (wl_ok (r_assign (v := (strV x2)) rfl) (wl_nil (then_normal (wc_seq (wc_region (wl_ok (r_move (v := (.pointer (some ⟨sb, 0, none⟩))) rfl) (wl_ok (r_move (v := (.pointer (some ⟨sb, 0, none⟩))) rfl) (wl_ok (r_nilCheck rfl) (wl_ok (r_fieldAddr Fld54x0 rfl) (wl_ok (r_ldB h 1 rfl One45 rfl rfl) ?_)))))))))))
  obtain ⟨x9, e10, hs⟩ := o_bind hs
  obtain ⟨e13, e13a, e13b, e13c⟩ := o_sub e10
  obtain ⟨u11, h, i12⟩ := h.slR 2 5 rfl SliceOf45 rfl e13a e13b e13c
  rw [← e13] at h
  refine wl_ok (i12 _ _ _ _ _ _ _ _ _ _ rfl (.inr (congrArg some rfl)) (.inl ⟨rfl, rfl⟩)) (wl_ok (r_nilCheck rfl) (wl_ok (r_fieldAddr Fld54x0 rfl) (w_st1 h 1 [u11, vs1, (.bool (sx.bad))] rfl One45 rfl rfl rfl rfl (h.rdAt 5 rfl).one fun w h => wl_nil (then_normal (wc_seq (wc_region (wl_ok (r_move (v := (strV x2)) rfl) (wl_ok (r_assign (v := (strV x2)) rfl) (wl_nil (then_normal (wc_ret (fin1 (v := (strV x2)) Tryz.results24 rfl ?_))))))))))))
  obtain rfl := Option.some.inj hs
  subst hK0
  obtain ⟨o1, o2, o3⟩ := h.outS 1 (C := (.blk sb [u11, vs1, (.bool (sx.bad))] : Chunk)) rfl trivial
  exact ⟨o2, u11, vs1, rfl, o1, o3, h.outRdC 1 5 rfl rfl, h.outRdC 1 3 rfl rfl⟩
def stringslite_HasPrefix (a : Str) (b : Str) : Option Bool :=
  bif decide (((b.length : Int) : Int) ≤ (a.length : Int)) then (subs? a 0 (b.length : Int)).bind fun x2 => some (decide ((x2 : Str) = b)) else some false
theorem stringslite_HasPrefix_c (w0 : World) (M : BS) (hM : ∀ b, M b → b < w0.heap.size) (a : Str) (b : Str) (r : Bool) (hs : stringslite_HasPrefix a b = some r) :
    Calls Tryz.prog 100 #[(strV a), (strV b)] w0 (fun e w' => Grow w0 w' ∧ e = .returned (.bool r)) := by
 refine calls_start (args := [(strV a), (strV b)]) Tryz.func100 rfl Tryz.ntmps100 (Nat.le_of_ble_eq_true rfl) ?_
 have h := SH.init hM
 refine wc_seq (wc_region (wl_ok (r_assign (v := (.bool (false))) rfl) (wl_nil (then_normal (wc_seq (wc_region (wl_ok (r_move (v := (strV a)) rfl) (wl_ok (r_lenS Tryz.underlying9 rfl) (wl_ok (r_move (v := (strV b)) rfl) (wl_ok (r_lenS Tryz.underlying9 rfl) (wl_ok (r_geq rfl rfl) (wl_ok (r_move (v := (.bool (decide (((b.length : Int) : Int) ≤ (a.length : Int))))) rfl) (c_split (b := decide (((b.length : Int) : Int) ≤ (a.length : Int))) hs (fun c1 hs => ?_) (fun c1 hs => ?_))))))))))))))
 ·
  refine wl_on rfl (congrArg Value.bool c1) (wl_ok (r_move (v := (strV a)) rfl) (wl_on rfl (congrArg Value.bool c1) (wl_ok (r_move (v := (strV b)) rfl) (wl_on rfl (congrArg Value.bool c1) (wl_ok (r_lenS Tryz.underlying9 rfl) (wl_on rfl (congrArg Value.bool c1) ?_))))))
  obtain ⟨x2, e3, hs⟩ := o_bind hs
  obtain ⟨e4a, e4b, e4c, e4⟩ := o_subs e3
  refine wl_ok (r_slsE e4 Tryz.underlying9 rfl (.inl ⟨rfl, rfl⟩) (.inr (congrArg some rfl)) e4a e4b e4c) (wl_on rfl (congrArg Value.bool c1) (wl_ok (r_move (v := (strV b)) rfl) (wl_on rfl (congrArg Value.bool c1) (wl_ok (r_eqls rfl rfl) (wl_ok (r_pick (b := true) (v := (.bool (decide ((x2 : Str) = b)))) (congrArg Value.bool c1) rfl) (wl_ok (r_assign (v := (.bool (decide ((x2 : Str) = b)))) rfl) (wl_nil (then_normal (wc_ret (fin1 (v := (.bool (decide ((x2 : Str) = b)))) Tryz.results100 rfl ?_))))))))))
  obtain rfl := Option.some.inj hs
  exact ⟨h.grown, rfl⟩
 ·
  refine wl_off (b' := false) rfl (congrArg Value.bool c1) rfl (wl_off (b' := false) rfl (congrArg Value.bool c1) rfl (wl_off (b' := false) rfl (congrArg Value.bool c1) rfl (wl_off (b' := false) rfl (congrArg Value.bool c1) rfl (wl_off (b' := false) rfl (congrArg Value.bool c1) rfl (wl_off (b' := false) rfl (congrArg Value.bool c1) rfl (wl_ok (r_pick (b := false) (v := (.bool (false))) (congrArg Value.bool c1) rfl) (wl_ok (r_assign (v := (.bool (false))) rfl) (wl_nil (then_normal (wc_ret (fin1 (v := (.bool (false))) Tryz.results100 rfl ?_)))))))))))
  obtain rfl := Option.some.inj hs
  exact ⟨h.grown, rfl⟩
def stringslite_CutPrefix (a : Str) (b : Str) : Option (Str × Bool) :=
  (stringslite_HasPrefix a b).bind fun y1 => bif (!y1) then some (a, false) else (subs? a (b.length : Int) (a.length : Int)).bind fun x5 => some (x5, true)
theorem stringslite_CutPrefix_c (w0 : World) (M : BS) (hM : ∀ b, M b → b < w0.heap.size) (a : Str) (b : Str) (r : Str × Bool) (hs : stringslite_CutPrefix a b = some r) :
    Calls Tryz.prog 90 #[(strV a), (strV b)] w0 (fun e w' => Grow w0 w' ∧ e = .returned (.tuple #[strV r.1, .bool r.2])) := by
 refine calls_start (args := [(strV a), (strV b)]) Tryz.func90 rfl Tryz.ntmps90 (Nat.le_of_ble_eq_true rfl) ?_
 have h := SH.init hM
 refine wc_seq (wc_region (wl_ok (r_assign (v := (strV [])) rfl) (wl_ok (r_assign (v := (.bool (false))) rfl) (wl_nil (then_normal (wc_seq (wc_seq (wc_region (wl_ok (r_move (v := (strV a)) rfl) (wl_ok (r_move (v := (strV b)) rfl) ?_))))))))))
 obtain ⟨y1, e2, hs⟩ := o_bind hs
 refine w_call fnOk100 rfl rfl (stringslite_HasPrefix_c _ _ h.lt a b _ e2) ?_
 rintro _ w ⟨k3, rfl⟩
 refine ⟨_, rfl, ?_⟩
 replace h := h.grow k3
 refine wl_ok (r_notb rfl) (wl_nil (then_normal (wc_ifb hs rfl (fun c4 hs => ?_) (fun c4 hs => ?_))))
 ·
  refine wc_seq (wc_region (wl_ok (r_move (v := (strV a)) rfl) (wl_ok (r_assign (v := (strV a)) rfl) (wl_ok (r_assign (v := (.bool (false))) rfl) (wl_nil (then_normal (wc_ret (then_ret (fin2 (v1 := (strV a)) (v2 := (.bool (false))) Tryz.results90 rfl rfl ?_)))))))))
  obtain rfl := Option.some.inj hs
  exact ⟨h.grown, rfl⟩
 ·
  refine wc_skip (then_normal (wc_seq (wc_region (wl_ok (r_move (v := (strV a)) rfl) (wl_ok (r_move (v := (strV b)) rfl) (wl_ok (r_lenS Tryz.underlying9 rfl) ?_))))))
  obtain ⟨x5, e6, hs⟩ := o_bind hs
  obtain ⟨e7a, e7b, e7c, e7⟩ := o_subs e6
  refine wl_ok (r_slsE e7 Tryz.underlying9 rfl (.inr (congrArg some rfl)) (.inl ⟨rfl, rfl⟩) e7a e7b e7c) (wl_ok (r_assign (v := (strV x5)) rfl) (wl_ok (r_assign (v := (.bool (true))) rfl) (wl_nil (then_normal (wc_ret (fin2 (v1 := (strV x5)) (v2 := (.bool (true))) Tryz.results90 rfl rfl ?_))))))
  obtain rfl := Option.some.inj hs
  exact ⟨h.grown, rfl⟩
def strings_CutPrefix (a : Str) (b : Str) : Option (Str × Bool) :=
  (stringslite_CutPrefix a b).bind fun y1 => some (y1.1, y1.2)
theorem strings_CutPrefix_c (w0 : World) (M : BS) (hM : ∀ b, M b → b < w0.heap.size) (a : Str) (b : Str) (r : Str × Bool) (hs : strings_CutPrefix a b = some r) :
    Calls Tryz.prog 64 #[(strV a), (strV b)] w0 (fun e w' => Grow w0 w' ∧ e = .returned (.tuple #[strV r.1, .bool r.2])) := by
 refine calls_start (args := [(strV a), (strV b)]) Tryz.func64 rfl Tryz.ntmps64 (Nat.le_of_ble_eq_true rfl) ?_
 have h := SH.init hM
 refine wc_seq (wc_region (wl_ok (r_assign (v := (strV [])) rfl) (wl_ok (r_assign (v := (.bool (false))) rfl) (wl_nil (then_normal (wc_seq (wc_region (wl_ok (r_move (v := (strV a)) rfl) (wl_ok (r_move (v := (strV b)) rfl) ?_)))))))))
 obtain ⟨y1, e2, hs⟩ := o_bind hs
 refine w_call fnOk90 rfl rfl (stringslite_CutPrefix_c _ _ h.lt a b _ e2) ?_
 rintro _ w ⟨k3, rfl⟩
 refine ⟨_, rfl, ?_⟩
 replace h := h.grow k3
 refine wl_ok (r_extract rfl rfl) (wl_ok (r_extract rfl rfl) (wl_ok (r_assign (v := (strV y1.1)) rfl) (wl_ok (r_assign (v := (.bool (y1.2))) rfl) (wl_nil (then_normal (wc_ret (fin2 (v1 := (strV y1.1)) (v2 := (.bool (y1.2))) Tryz.results64 rfl rfl ?_)))))))
 obtain rfl := Option.some.inj hs
 exact ⟨h.grown, rfl⟩
def words_reader_number_j2 (y4 : Int × Bool) (sx : Reader) (x9 : Bool) : Option (Int × Reader) :=
  bif x9 then some (y4.1, (⟨sx.w, sx.params, true⟩ : Reader)) else some (y4.1, sx)
def words_reader_number (sx : Reader) (a : Str) (b : Str) : Option (Int × Reader) :=
  (strings_CutPrefix a b).bind fun y1 => (atoiS y1.1).bind fun y4 => bif ((!y1.2) || y4.2) then words_reader_number_j2 y4 sx true else (itoaS y4.1).bind fun y12 => words_reader_number_j2 y4 sx (decide ((y12 : Str) ≠ y1.1))
theorem words_reader_number_c (w0 : World) (M : BS) (hM : ∀ b, M b → b < w0.heap.size) (hT : Tabs Tryz.prog 5 w0) (sb : Nat) (sx : Reader) (vs0 vs1 : Value) (hC : Chunk.holds w0 M (Chunk.own' (.blk sb [vs0, vs1, (.bool (sx.bad))] : Chunk)) (.blk sb [vs0, vs1, (.bool (sx.bad))] : Chunk)) (hap : ∀ b, Chunk.own' (.blk sb [vs0, vs1, (.bool (sx.bad))] : Chunk) b → ¬ M b) (hvs0 : RdSl rStr w0 (fun b => M b ∨ Chunk.own' (.blk sb [vs0, vs1, (.bool (sx.bad))] : Chunk) b) vs0 sx.w) (hvs1 : RdSl rInt w0 (fun b => M b ∨ Chunk.own' (.blk sb [vs0, vs1, (.bool (sx.bad))] : Chunk) b) vs1 sx.params) (a : Str) (b : Str) (hG : ∀ b, Chunk.own' (.blk sb [vs0, vs1, (.bool (sx.bad))] : Chunk) b → Tryz.prog.globals.size ≤ b) (r : Int × Reader) (hs : words_reader_number sx a b = some r) :
    Calls Tryz.prog 25 #[(.pointer (some ⟨sb, 0, none⟩)), (strV a), (strV b)] w0 (fun e w' => Keep (Chunk.own' (.blk sb [vs0, vs1, (.bool (sx.bad))] : Chunk)) w0 w' ∧ ∃ us0, ∃ us1, e = .returned (.int .i64 r.1) ∧ Chunk.holds w' M (Chunk.own' (.blk sb [us0, us1, .bool r.2.bad] : Chunk)) (.blk sb [us0, us1, .bool r.2.bad] : Chunk) ∧ (∀ b, Chunk.own' (.blk sb [us0, us1, .bool r.2.bad] : Chunk) b → b < w0.heap.size → Chunk.own' (.blk sb [vs0, vs1, (.bool (sx.bad))] : Chunk) b) ∧ RdSl rStr w' (fun b => M b ∨ Chunk.own' (.blk sb [us0, us1, .bool r.2.bad] : Chunk) b) us0 r.2.w ∧ RdSl rInt w' (fun b => M b ∨ Chunk.own' (.blk sb [us0, us1, .bool r.2.bad] : Chunk) b) us1 r.2.params) := by
 refine calls_start (args := [(.pointer (some ⟨sb, 0, none⟩)), (strV a), (strV b)]) Tryz.func25 rfl Tryz.ntmps25 (Nat.le_of_ble_eq_true rfl) ?_
 have h := SH.init1 hM hC hap
 replace h := h.argRdC 2 hvs0 own1
 replace h := h.argRdC 3 hvs1 (own1_rd own1)
 generalize hK0 : (.blk sb [vs0, vs1, (.bool (sx.bad))] : Chunk).own' = K0 at h hG
 refine wc_seq (wc_region (wl_ok (r_assign (v := (.int .i64 (0))) rfl) (wl_nil (then_normal (wc_seq (wc_region (wl_ok (r_move (v := (strV a)) rfl) (wl_ok (r_move (v := (strV b)) rfl) ?_))))))))
 obtain ⟨y1, e2, hs⟩ := o_bind hs
 refine w_call fnOk64 rfl rfl (strings_CutPrefix_c _ _ h.lt a b _ e2) ?_
 rintro _ w ⟨k3, rfl⟩
 refine ⟨_, rfl, ?_⟩
 replace h := h.grow k3
 refine wl_ok (r_move (v := (.tuple #[(strV y1.1), (.bool (y1.2))])) rfl) (wl_ok (r_extract rfl rfl) (wl_ok (r_extract rfl rfl) (wl_ok (r_assign (v := (strV y1.1)) rfl) (wl_ok (r_assign (v := (.bool (y1.2))) rfl) (wl_nil (then_normal (wc_seq (wc_region (wl_ok (r_move (v := (strV y1.1)) rfl) ?_)))))))))
 obtain ⟨y4, e5, hs⟩ := o_bind hs
 refine w_call fnOk31 rfl rfl (strconv_Atoi_c _ _ h.lt (hT.goK h.keep hG) y1.1 _ e5) ?_
 rintro _ w ⟨k8, u6, rfl, g7⟩
 refine ⟨_, rfl, ?_⟩
 replace h := h.grow k8
 refine wl_ok (r_move (v := (.tuple #[(.int .i64 (y4.1)), u6])) rfl) (wl_ok (r_extract rfl rfl) (wl_ok (r_extract rfl rfl) (wl_ok (r_assign (v := (.int .i64 (y4.1))) rfl) (wl_ok (r_assign (v := u6) rfl) (wl_nil (then_normal (wc_seq (wc_join (σ := Bool) (inl [22, 23, 24, 25, 26, 27, 28, 29, 30, 31, 32, 33]) (fun x9 => [(33, (.bool (x9)))]) (fun x9 w => SH w0 M K0 w (hset [(1, .blk sb [vs0, vs1, (.bool (sx.bad))]), (2, .rd rStr vs0 sx.w), (3, .rd rInt vs1 sx.params)]) ∧ words_reader_number_j2 y4 sx x9 = some r) ?_ ?_))))))))
 ·
  rintro x9 w junk ⟨h, hs⟩
  refine wc_ifb hs rfl (fun c10 hs => ?_) (fun c10 hs => ?_)
  ·
   refine wc_region (wl_ok (r_move (v := (.pointer (some ⟨sb, 0, none⟩))) rfl) (wl_ok (r_nilCheck rfl) (wl_ok (r_fieldAddr Fld54x2 rfl) (w_st1 h 1 [vs0, vs1, (.bool (true))] rfl One4 rfl rfl rfl rfl rfl fun w h => wl_nil (then_normal (wc_seq (wc_region (wl_ok (r_move (v := (.int .i64 (y4.1))) rfl) (wl_ok (r_assign (v := (.int .i64 (y4.1))) rfl) (wl_nil (then_normal (wc_ret (fin1 (v := (.int .i64 (y4.1))) Tryz.results25 rfl ?_)))))))))))))
   obtain rfl := Option.some.inj hs
   subst hK0
   obtain ⟨o1, o2, o3⟩ := h.outS 1 (C := (.blk sb [vs0, vs1, (.bool (true))] : Chunk)) rfl trivial
   exact ⟨o2, vs0, vs1, rfl, o1, o3, h.outRdC 1 2 rfl rfl, h.outRdC 1 3 rfl rfl⟩
  ·
   refine wc_skip (then_normal (wc_seq (wc_region (wl_ok (r_move (v := (.int .i64 (y4.1))) rfl) (wl_ok (r_assign (v := (.int .i64 (y4.1))) rfl) (wl_nil (then_normal (wc_ret (fin1 (v := (.int .i64 (y4.1))) Tryz.results25 rfl ?_)))))))))
   obtain rfl := Option.some.inj hs
   subst hK0
   obtain ⟨o1, o2, o3⟩ := h.outS 1 (C := (.blk sb [vs0, vs1, (.bool (sx.bad))] : Chunk)) rfl trivial
   exact ⟨o2, vs0, vs1, rfl, o1, o3, h.outRdC 1 2 rfl rfl, h.outRdC 1 3 rfl rfl⟩
 ·
  refine wc_region (wl_ok (r_move (v := (.bool (y1.2))) rfl) (wl_ok (r_notb rfl) (wl_ok (r_move (v := (.bool ((!y1.2)))) rfl) (wl_gd0 rfl rfl (fun q => r_move (v := u6) rfl) (wl_gd0 rfl rfl (fun q => r_neqnilI IfaceT67 (gvt q) g7 rfl) (wl_ok (r_por rfl rfl evc) (wl_ok (r_move (v := (.bool (((!y1.2) || y4.2)))) rfl) (c_split (b := ((!y1.2) || y4.2)) hs (fun c11 hs => ?_) (fun c11 hs => ?_)))))))))
  ·
   refine wl_off (b' := true) rfl (congrArg Value.bool c11) rfl (wl_off (b' := true) rfl (congrArg Value.bool c11) rfl (wl_off (b' := true) rfl (congrArg Value.bool c11) rfl (wl_off (b' := true) rfl (congrArg Value.bool c11) rfl (wl_ok (r_pick (b := true) (v := (.bool (true))) (congrArg Value.bool c11) rfl) (wl_nil (then_loop ?_))))))
   exact jend true ⟨h.cn _, hs⟩
  ·
   refine wl_on rfl (congrArg Value.bool c11) (wl_ok (r_move (v := (.int .i64 (y4.1))) rfl) (wl_on rfl (congrArg Value.bool c11) ?_))
   obtain ⟨y12, e13, hs⟩ := o_bind hs
   refine w_call fnOk19 rfl rfl (strconv_Itoa_c _ _ h.lt (hT.goK h.keep hG) y4.1 _ e13) ?_
   rintro _ w ⟨k14, rfl⟩
   refine ⟨_, rfl, ?_⟩
   replace h := h.grow k14
   refine wl_on rfl (congrArg Value.bool c11) (wl_ok (r_move (v := (strV y1.1)) rfl) (wl_on rfl (congrArg Value.bool c11) (wl_ok (r_neqs rfl rfl) (wl_ok (r_pick (b := false) (v := (.bool (decide ((y12 : Str) ≠ y1.1)))) (congrArg Value.bool c11) rfl) (wl_nil (then_loop ?_))))))
   exact jend (decide ((y12 : Str) ≠ y1.1)) ⟨h.cn _, hs⟩
def slices_Index_string_b3 (a : List Str) (b : Str) (i2 : Int) (s : Unit) (nx5 : Unit → Option Int) : Option Int :=
  (idx a i2).bind fun x8 => bif decide ((b : Str) = x8) then some i2 else nx5 ()
def slices_Index_string_k4 (s : Unit) : Option Int :=
  some (-1)
def slices_Index_string (a : List Str) (b : Str) : Option Int :=
  upto (slices_Index_string_b3 a b) slices_Index_string_k4 0 ((a.length : Int)).toNat ()
theorem slices_Index_string_c (w0 : World) (M : BS) (hM : ∀ b, M b → b < w0.heap.size) (va : Value) (a : List Str) (ha : Rd2 rStr w0 BE M va a) (b : Str) (r : Int) (hs : slices_Index_string a b = some r) :
    Calls Tryz.prog 39 #[va, (strV b)] w0 (fun e w' => Grow w0 w' ∧ e = .returned (.int .i64 r)) := by
 refine calls_start (args := [va, (strV b)]) Tryz.func39 rfl Tryz.ntmps39 (Nat.le_of_ble_eq_true rfl) ?_
 have h := SH.init hM
 replace h := h.argSr 1 ha none_own
 have hl_a := ha.len_le
 refine wc_seq (wc_region (wl_ok (r_assign (v := (.int .i64 (0))) rfl) (wl_nil (then_normal (wc_seq (wc_seq (wc_region (wl_ok (r_move (v := va) rfl) (wl_ok (r_len SliceOf45 rfl (h.srS 1 rfl)) (wl_ok (r_move (v := (.int .i64 (0))) rfl) (wl_nil (then_normal (wc_block ?_)))))))))))))
 have hli2 := (h.srS 1 rfl).len_le
 refine wc_lp (σ := Nat × Int) (inl [4, 5, 8, 9, 10, 11, 12, 13, 14, 15, 16, 17, 18]) (fun ⟨k1, i2⟩ => [(8, (.int .i64 (i2)))]) (fun ⟨k1, i2⟩ w => SH w0 M BE w (hset [(1, .sr rStr va a)]) ∧ i2 = (k1 : Int) ∧ upto (slices_Index_string_b3 a b) slices_Index_string_k4 i2 (((a.length : Int)).toNat - k1) () = some r) (fun ⟨k1, i2⟩ => ((a.length : Int)).toNat - k1) ⟨0, 0⟩ ⟨rfl, trivial⟩ ?_ ?_
 ·
  exact ⟨h.cn _, rfl, hs⟩
 ·
  rintro ⟨k1, i2⟩ w junk ⟨h, hik, hs⟩
  refine wc_seq (wc_region ?_)
  refine wl_ok (r_lss rfl rfl) (wl_nil (then_normal ?_))
  refine wc_seq (wc_if rfl (fun e6 => ?_) (fun e6 => ?_))
  ·
   refine wc_skip (then_normal ?_)
   rw [upto_lt (by have := of_decide_eq_true e6; omega)] at hs
   generalize hnx5 : upto (slices_Index_string_b3 a b) slices_Index_string_k4 (i2 + 1) (((a.length : Int)).toNat - (k1 + 1)) = nx5 at hs
   have e7r : I64 (i2 + 1) := (by have := of_decide_eq_true e6; have := hli2; exact I64.mk (by omega) (by omega))
   refine wc_seq (wc_block (wc_seq (wc_region (wl_ok (r_move (v := (.int .i64 (i2))) rfl) (wl_ok (r_assign (v := (.int .i64 (i2))) rfl) (wl_nil (then_normal (wc_seq (wc_region (wl_ok (r_move (v := (strV b)) rfl) (wl_ok (r_move (v := va) rfl) (wl_ok (r_move (v := (.int .i64 (i2))) rfl) ?_))))))))))))
   obtain ⟨x8, e9, hs⟩ := o_bind hs
   obtain ⟨b11, o12, cs13, h, r14, i10⟩ := h.ixS 1 2 rfl SliceOf45 rfl (o_idx e9).1 (o_idx e9).2
   obtain rfl := r14
   refine wl_ok (i10 _ _ _ _ _ _ _ _ _ rfl rfl) (wl_ok (r_ldP (k := 0) h 2 rfl One9 rfl rfl) (wl_ok (r_eqls rfl rfl) (wl_nil (then_normal (wc_ifb hs rfl (fun c15 hs => ?_) (fun c15 hs => ?_))))))
   ·
    refine wc_seq (wc_region (wl_ok (r_move (v := (.int .i64 (i2))) rfl) (wl_ok (r_assign (v := (.int .i64 (i2))) rfl) (wl_nil (then_normal (wc_ret (inBlock_ret (then_ret (then_ret (inBlock_ret (then_ret (fin1 (v := (.int .i64 (i2))) Tryz.results39 rfl ?_))))))))))))
    obtain rfl := Option.some.inj hs
    exact ⟨h.grown, rfl⟩
   ·
    refine wc_skip (inBlock_normal (then_normal (wc_region (wl_ok (r_add rfl rfl e7r) (wl_ok (r_move (v := (.int .i64 ((i2 + 1)))) rfl) (wl_nil (then_loop ?_)))))))
    subst hnx5
    exact lend ⟨k1 + 1, i2 + 1⟩ ⟨h.cn _, by omega, hs⟩ (by have := of_decide_eq_true e6; dsimp only; omega)
  ·
   rw [upto_ge (by have := of_decide_eq_false e6; omega)] at hs
   refine wc_exit (then_exit (then_exit (inBlock_eq (then_normal (wc_seq (wc_region (wl_ok (r_assign (v := (.int .i64 (-1))) rfl) (wl_nil (then_normal (wc_ret (fin1 (v := (.int .i64 (-1))) Tryz.results39 rfl ?_)))))))))))
   obtain rfl := Option.some.inj hs
   exact ⟨h.grown, rfl⟩
def slices_Contains_string (a : List Str) (b : Str) : Option Bool :=
  (slices_Index_string a b).bind fun y1 => some (decide ((0 : Int) ≤ y1))
theorem slices_Contains_string_c (w0 : World) (M : BS) (hM : ∀ b, M b → b < w0.heap.size) (va : Value) (a : List Str) (ha : Rd2 rStr w0 BE M va a) (b : Str) (r : Bool) (hs : slices_Contains_string a b = some r) :
    Calls Tryz.prog 92 #[va, (strV b)] w0 (fun e w' => Grow w0 w' ∧ e = .returned (.bool r)) := by
 refine calls_start (args := [va, (strV b)]) Tryz.func92 rfl Tryz.ntmps92 (Nat.le_of_ble_eq_true rfl) ?_
 have h := SH.init hM
 replace h := h.argSr 1 ha none_own
 have hl_a := ha.len_le
 refine wc_seq (wc_region (wl_ok (r_assign (v := (.bool (false))) rfl) (wl_nil (then_normal (wc_seq (wc_region (wl_ok (r_move (v := va) rfl) (wl_ok (r_move (v := (strV b)) rfl) ?_))))))))
 obtain ⟨y1, e2, hs⟩ := o_bind hs
 refine w_call fnOk39 rfl rfl (slices_Index_string_c _ _ h.lt va a (h.srS 1 rfl) b _ e2) ?_
 rintro _ w ⟨k3, rfl⟩
 refine ⟨_, rfl, ?_⟩
 replace h := h.grow k3
 refine wl_ok (r_geq rfl rfl) (wl_ok (r_assign (v := (.bool (decide ((0 : Int) ≤ y1)))) rfl) (wl_nil (then_normal (wc_ret (fin1 (v := (.bool (decide ((0 : Int) ≤ y1)))) Tryz.results92 rfl ?_)))))
 obtain rfl := Option.some.inj hs
 exact ⟨h.grown, rfl⟩
def strings_HasPrefix (a : Str) (b : Str) : Option Bool :=
  (stringslite_HasPrefix a b).bind fun y1 => some y1
theorem strings_HasPrefix_c (w0 : World) (M : BS) (hM : ∀ b, M b → b < w0.heap.size) (a : Str) (b : Str) (r : Bool) (hs : strings_HasPrefix a b = some r) :
    Calls Tryz.prog 93 #[(strV a), (strV b)] w0 (fun e w' => Grow w0 w' ∧ e = .returned (.bool r)) := by
 refine calls_start (args := [(strV a), (strV b)]) Tryz.func93 rfl Tryz.ntmps93 (Nat.le_of_ble_eq_true rfl) ?_
 have h := SH.init hM
 refine wc_seq (wc_region (wl_ok (r_assign (v := (.bool (false))) rfl) (wl_nil (then_normal (wc_seq (wc_region (wl_ok (r_move (v := (strV a)) rfl) (wl_ok (r_move (v := (strV b)) rfl) ?_))))))))
 obtain ⟨y1, e2, hs⟩ := o_bind hs
 refine w_call fnOk100 rfl rfl (stringslite_HasPrefix_c _ _ h.lt a b _ e2) ?_
 rintro _ w ⟨k3, rfl⟩
 refine ⟨_, rfl, ?_⟩
 replace h := h.grow k3
 refine wl_ok (r_assign (v := (.bool (y1))) rfl) (wl_nil (then_normal (wc_ret (fin1 (v := (.bool (y1))) Tryz.results93 rfl ?_))))
 obtain rfl := Option.some.inj hs
 exact ⟨h.grown, rfl⟩
def words_reader_expr_j13 (x52 : Int) (x27 : Int) (nx37 : (List Tok × Int × List Str × List Int × Bool) → Option (List Tok × Reader)) (x26 : List Tok) (y58 : Int) (y59 : Int) (y54 : List Str) (y56 : List Int) (y61 : Bool) : Option (List Tok × Reader) :=
  grd (I64 (x52 - 1)) (grd (I64 (x27 + (x52 - 1))) (nx37 ((x26 ++ [(⟨y58, y59⟩ : Tok)]), (x27 + (x52 - 1)), y54, y56, y61)))
def words_reader_expr_j12 (x26 : List Tok) (x27 : Int) (nx37 : (List Tok × Int × List Str × List Int × Bool) → Option (List Tok × Reader)) (x52 : Int) (y54 : List Str) (y56 : List Int) (y57 : Bool) (y58 : Int) (y59 : Int) : Option (List Tok × Reader) :=
  grd (Room 16 x26 [(⟨y58, y59⟩ : Tok)]) (bif decide ((24 : Int) < ((x26 ++ [(⟨y58, y59⟩ : Tok)]).length : Int)) then words_reader_expr_j13 x52 x27 nx37 x26 y58 y59 y54 y56 true else words_reader_expr_j13 x52 x27 nx37 x26 y58 y59 y54 y56 y57)
def words_reader_expr_b14 (s : List Tok × Int × List Str × List Int × Bool) (nx37 : List Tok × Int × List Str × List Int × Bool → Option (List Tok × Reader)) : Option (List Tok × Reader) :=
  match s with | (x26, x27, y29, y31, y32) => bif (decide ((0 : Int) < x27) && (!y32)) then (words_reader_next (⟨y29, y31, y32⟩ : Reader)).bind fun y42 => (slices_Contains_string ([[43], [45], [42], [60], [61]] : List Str) y42.1).bind fun y70 => bif y70 then (slices_Index_string ([[], [43], [45], [42], [60], [61]] : List Str) y42.1).bind fun y74 => words_reader_expr_j12 x26 x27 nx37 2 y42.2.w y42.2.params y42.2.bad 3 y74 else (strings_HasPrefix y42.1 [118]).bind fun y77 => bif y77 then (words_reader_number y42.2 y42.1 [118]).bind fun y82 => words_reader_expr_j12 x26 x27 nx37 0 y82.2.w y82.2.params y82.2.bad 2 y82.1 else (strings_HasPrefix y42.1 [46]).bind fun y91 => bif y91 then (words_reader_number y42.2 y42.1 [46]).bind fun y96 => words_reader_expr_j12 x26 x27 nx37 1 y96.2.w y96.2.params y96.2.bad 4 y96.1 else (strings_HasPrefix y42.1 [110, 101, 119]).bind fun y105 => bif y105 then (words_reader_number y42.2 y42.1 [110, 101, 119]).bind fun y110 => words_reader_expr_j12 x26 x27 nx37 0 y110.2.w y110.2.params y110.2.bad 5 y110.1 else (strings_HasPrefix y42.1 [102]).bind fun y119 => bif y119 then (words_reader_number y42.2 y42.1 [102]).bind fun y124 => bif (decide ((0 : Int) ≤ y124.1) && decide ((y124.1 : Int) < (y124.2.params.length : Int))) then (idx y124.2.params y124.1).bind fun x134 => words_reader_expr_j12 x26 x27 nx37 x134 y124.2.w y124.2.params y124.2.bad 6 y124.1 else words_reader_expr_j12 x26 x27 nx37 0 y124.2.w y124.2.params y124.2.bad 6 y124.1 else (words_reader_number y42.2 y42.1 []).bind fun y142 => words_reader_expr_j12 x26 x27 nx37 0 y142.2.w y142.2.params y142.2.bad 1 y142.1 else some (x26, (⟨y29, y31, y32⟩ : Reader))
def words_reader_expr (N : Nat) (sx : Reader) : Option (List Tok × Reader) :=
  again words_reader_expr_b14 N ([], 1, sx.w, sx.params, sx.bad)
theorem words_reader_expr_c (N : Nat) (w0 : World) (M : BS) (hM : ∀ b, M b → b < w0.heap.size) (hT : Tabs Tryz.prog 5 w0) (sb : Nat) (sx : Reader) (vs0 vs1 : Value) (hC : Chunk.holds w0 M (Chunk.own' (.blk sb [vs0, vs1, (.bool (sx.bad))] : Chunk)) (.blk sb [vs0, vs1, (.bool (sx.bad))] : Chunk)) (hap : ∀ b, Chunk.own' (.blk sb [vs0, vs1, (.bool (sx.bad))] : Chunk) b → ¬ M b) (hvs0 : RdSl rStr w0 (fun b => M b ∨ Chunk.own' (.blk sb [vs0, vs1, (.bool (sx.bad))] : Chunk) b) vs0 sx.w) (hvs1 : RdSl rInt w0 (fun b => M b ∨ Chunk.own' (.blk sb [vs0, vs1, (.bool (sx.bad))] : Chunk) b) vs1 sx.params) (hG : ∀ b, Chunk.own' (.blk sb [vs0, vs1, (.bool (sx.bad))] : Chunk) b → Tryz.prog.globals.size ≤ b) (r : List Tok × Reader) (hs : words_reader_expr N sx = some r) :
    Calls Tryz.prog 65 #[(.pointer (some ⟨sb, 0, none⟩))] w0 (fun e w' => Keep (Chunk.own' (.blk sb [vs0, vs1, (.bool (sx.bad))] : Chunk)) w0 w' ∧ ∃ u0, ∃ us0, ∃ us1, e = .returned (u0) ∧ Chunk.holds w' M (Chunk.own' (.blk sb [us0, us1, .bool r.2.bad] : Chunk)) (.blk sb [us0, us1, .bool r.2.bad] : Chunk) ∧ (∀ b, Chunk.own' (.blk sb [us0, us1, .bool r.2.bad] : Chunk) b → b < w0.heap.size → Chunk.own' (.blk sb [vs0, vs1, (.bool (sx.bad))] : Chunk) b) ∧ RdSl rTok w' (fun b => M b ∨ Chunk.own' (.blk sb [us0, us1, .bool r.2.bad] : Chunk) b) u0 r.1 ∧ RdSl rStr w' (fun b => M b ∨ Chunk.own' (.blk sb [us0, us1, .bool r.2.bad] : Chunk) b) us0 r.2.w ∧ RdSl rInt w' (fun b => M b ∨ Chunk.own' (.blk sb [us0, us1, .bool r.2.bad] : Chunk) b) us1 r.2.params) := by
 refine calls_start (args := [(.pointer (some ⟨sb, 0, none⟩))]) Tryz.func65 rfl Tryz.ntmps65 (Nat.le_of_ble_eq_true rfl) ?_
 have h := SH.init1 hM hC hap
 replace h := h.argRdC 2 hvs0 own1
 replace h := h.argRdC 3 hvs1 (own1_rd own1)
 generalize hK0 : (.blk sb [vs0, vs1, (.bool (sx.bad))] : Chunk).own' = K0 at h hG
 refine wc_seq (wc_region (wl_ok (r_assign (v := (.slice none 0 0)) rfl) (wl_nil (then_normal (wc_seq (wc_region (wl_ok (r_assign (v := (.slice none 0 0)) rfl) (wl_nil (then_normal (wc_seq (wc_seq (wc_region (wl_ok (r_assign (v := (.int .i64 (1))) rfl) (wl_nil (then_normal (wc_block ?_))))))))))))))))
 replace h := h.nilO (R := rTok) (E := 71) 13
 replace h := h.copyR 2 14 rfl
 replace h := h.copyR 3 15 rfl
 refine wc_lp (σ := Nat × Value × List Tok × Int × Value × List Str × Value × List Int × Bool) (inl [3, 4, 5, 6, 7, 8, 9, 10, 11, 12, 13, 14, 15, 16, 17, 18, 19, 20, 21, 22, 23, 24, 25, 26, 27, 28, 29, 30, 31, 32, 33, 34, 35, 36, 37, 38, 39, 40, 41, 42, 43, 44, 45, 46, 47, 48, 49, 50, 51, 52, 53, 54, 55, 56, 57, 58, 59, 60, 61, 62, 63, 64, 65, 66, 67, 68, 69, 70, 71, 72, 73, 74, 75, 76, 77, 78, 79, 80, 81, 82, 83, 84, 85, 86, 87, 88, 89, 90, 91, 92, 93, 94, 95, 96]) (fun ⟨m36, v25, x26, x27, v28, y29, v30, y31, y32⟩ => [(3, v25), (4, (.int .i64 (x27)))]) (fun ⟨m36, v25, x26, x27, v28, y29, v30, y31, y32⟩ w => SH w0 M K0 w (hset [(1, .blk sb [v28, v30, (.bool (y32))]), (13, .own rTok 71 v25 x26), (14, .rd rStr v28 y29), (15, .rd rInt v30 y31)]) ∧ again words_reader_expr_b14 m36 (x26, x27, y29, y31, y32) = some r) (fun ⟨m36, v25, x26, x27, v28, y29, v30, y31, y32⟩ => m36) ⟨N, (.slice none 0 0), [], 1, vs0, sx.w, vs1, sx.params, sx.bad⟩ ⟨rfl, rfl, trivial⟩ ?_ ?_
 ·
  exact ⟨h.cn _, hs⟩
 ·
  rintro ⟨m36, v25, x26, x27, v28, y29, v30, y31, y32⟩ w junk ⟨h, hs⟩
  obtain ⟨m361, m36e, m36h⟩ := again_pos hs
  subst m36e
  replace hs := m36h
  generalize hnx37 : again words_reader_expr_b14 m361 = nx37 at hs
  refine wc_seq (wc_seq (wc_region (wl_ok (r_move (v := (.int .i64 (x27))) rfl) (wl_ok (r_gtr rfl rfl) (wl_ok (r_move (v := (.bool (decide ((0 : Int) < x27)))) rfl) (wl_gd0 rfl rfl (fun q => r_move (v := (.pointer (some ⟨sb, 0, none⟩))) rfl) (wl_gd0 rfl rfl (fun q => r_nilCheck (gvt q)) (wl_gd0 rfl rfl (fun q => r_fieldAddr Fld54x2 (gvt q)) (wl_gd0 rfl rfl (fun q => r_ldB h 1 rfl One4 (gvt q) rfl) (wl_gd0 rfl rfl (fun q => r_notb (gvt q)) (wl_ok (r_pand rfl rfl evc) (wl_nil (then_normal (wc_ifb hs rfl (fun c40 hs => ?_) (fun c40 hs => ?_)))))))))))))))
  ·
   refine wc_skip (then_normal (wc_block (wc_seq (wc_region (wl_ok (r_move (v := (.pointer (some ⟨sb, 0, none⟩))) rfl) ?_)))))
   obtain ⟨l41a, l41b, l41c⟩ := h.lendS 1 (C := (.blk sb [v28, v30, (.bool (y32))] : Chunk)) rfl trivial
   obtain ⟨y42, e43, hs⟩ := o_bind hs
   refine w_call fnOk24 rfl rfl (words_reader_next_c _ _ l41c sb (⟨y29, y31, y32⟩ : Reader) v28 v30 l41a l41b (h.rdC 1 14 rfl rfl) (h.rdC 1 15 rfl rfl) _ e43) ?_
   rintro _ w ⟨k48, u44, u46, rfl, h49, h50, g45, g47⟩
   refine ⟨_, rfl, ?_⟩
   replace h := h.back 1 (C := (.blk sb [v28, v30, (.bool (y32))] : Chunk)) (C' := (.blk sb [u44, u46, (.bool (y42.2.bad))] : Chunk)) rfl trivial h49 k48 h50
   replace h := h.knowRd 16 (backRd g45)
   replace h := h.knowRd 17 (backRd g47).up
   refine wl_ok (r_assign (v := (strV y42.1)) rfl) (wl_nil (then_normal (wc_seq (wc_region (wl_ok (r_build (pv := [(0, (.int .i64 (1)))]) (out := [(.int .i64 (1)), (.int .i64 (0))]) Struct71 rfl ⟨0, 1, [(.int .i64 (1))], rfl, rfl, rfl, Nat.le_of_ble_eq_true rfl, rfl⟩) (w_allocN h 18 Many71 fun w b51 h => w_stN (vs := [(.int .i64 (1)), (.int .i64 (0))]) h 18 [(.int .i64 (1)), (.int .i64 (0))] rfl Many71 rfl rfl rfl rfl rfl (ones_cons rfl (ones_cons rfl ones_nil)) fun w h => wl_nil (then_normal (wc_seq (wc_region (wl_ok (r_assign (v := (.int .i64 (0))) rfl) (wl_nil (then_normal (wc_join (σ := Int × Value × List Str × Value × List Int × Bool × Int × Int) (inl [7, 8, 21, 22, 23, 24, 25, 26, 27, 28, 29, 30, 31, 32, 33, 34, 35, 36, 37, 38, 39, 40, 41, 42, 43, 44, 45, 46, 47, 48, 49, 50, 51, 52, 53, 54, 55, 56, 57, 58, 59, 60, 61, 62, 63, 64, 65, 66, 67, 68, 69, 70, 71, 72, 73, 74, 75, 76, 77, 78, 79, 80, 81, 82]) (fun ⟨x52, v53, y54, v55, y56, y57, y58, y59⟩ => [(7, (.int .i64 (x52)))]) (fun ⟨x52, v53, y54, v55, y56, y57, y58, y59⟩ w => SH w0 M K0 w (hset [(1, .blk sb [v53, v55, (.bool (y57))]), (13, .own rTok 71 v25 x26), (18, .blk b51 [(.int .i64 (y58)), (.int .i64 (y59))]), (19, .rd rStr v53 y54), (20, .rd rInt v55 y56)]) ∧ words_reader_expr_j12 x26 x27 nx37 x52 y54 y56 y57 y58 y59 = some r) ?_ ?_)))))))))))))
   ·
    rintro ⟨x52, v53, y54, v55, y56, y57, y58, y59⟩ w junk ⟨h, hs⟩
    refine wc_join (σ := Value × Bool) (inl [3, 83, 84, 85, 86, 87, 88, 89, 90, 91, 92]) (fun ⟨v60, y61⟩ => [(3, v60)]) (fun ⟨v60, y61⟩ w => SH w0 M K0 w (hset [(1, .blk sb [v53, v55, (.bool (y61))]), (13, .own rTok 71 v60 (x26 ++ [(⟨y58, y59⟩ : Tok)])), (19, .rd rStr v53 y54), (20, .rd rInt v55 y56)]) ∧ words_reader_expr_j13 x52 x27 nx37 x26 y58 y59 y54 y56 y61 = some r) ?_ ?_
    ·
     rintro ⟨v60, y61⟩ w junk ⟨h, hs⟩
     refine wc_region (wl_ok (r_move (v := (.int .i64 (x27))) rfl) (wl_ok (r_move (v := (.int .i64 (x52))) rfl) ?_))
     obtain ⟨a62, hs⟩ := o_grd hs
     refine wl_ok (r_sub rfl rfl a62) ?_
     obtain ⟨a63, hs⟩ := o_grd hs
     refine wl_ok (r_add rfl rfl a63) (wl_ok (r_assign (v := (.int .i64 ((x27 + (x52 - 1))))) rfl) (wl_nil (inBlock_normal (then_loop ?_))))
     replace h := h.copyR 19 14 rfl
     replace h := h.copyR 20 15 rfl
     subst hnx37
     exact lend ⟨m361, v60, (x26 ++ [(⟨y58, y59⟩ : Tok)]), (x27 + (x52 - 1)), v53, y54, v55, y56, y61⟩ ⟨h.cn _, hs⟩
    ·
     refine wc_seq (wc_region (wl_ok (r_move (v := v25) rfl) (wl_ok (r_ldBN (vs := [(.int .i64 (y58)), (.int .i64 (y59))]) h 18 rfl Many71 rfl rfl rfl) (w_bs (R := rTok) (vs := [(.agg #[(.int .i64 (y58)), (.int .i64 (y59))])]) (xs := [(⟨y58, y59⟩ : Tok)]) h 21 ElemOf63 rfl rfl rfl ⟨rfl, trivial⟩ rfl fun w u64 h => ?_))))
     obtain ⟨a65, hs⟩ := o_grd hs
     refine w_app (R := rTok) (m := [(⟨y58, y59⟩ : Tok)]) h 13 rfl (h.ownS 21 rfl) ElemOf63 rfl rfl rfl a65.1 a65.2 fun w u66 h => wl_ok (r_assign (v := u66) rfl) (wl_nil (then_normal (wc_seq (wc_region (wl_ok (r_move (v := u66) rfl) (wl_ok (r_len SliceOf63 rfl (h.ownS 13 rfl)) (wl_ok (r_gtr rfl rfl) (wl_nil (then_normal (wc_ifb hs rfl (fun c67 hs => ?_) (fun c67 hs => ?_)))))))))))
     ·
      refine wc_region (wl_ok (r_move (v := (.pointer (some ⟨sb, 0, none⟩))) rfl) (wl_ok (r_nilCheck rfl) (wl_ok (r_fieldAddr Fld54x2 rfl) (w_st1 h 1 [v53, v55, (.bool (true))] rfl One4 rfl rfl rfl rfl rfl fun w h => wl_nil (then_loop ?_)))))
      exact jend (u66, true) ⟨h.cn _, hs⟩
     ·
      refine wc_skip (then_loop ?_)
      exact jend (u66, y57) ⟨h.cn _, hs⟩
   ·
    refine wc_seq (wc_region (w_call fnOk91 rfl rfl (words_ops_c _ _ h.lt  _ rfl) ?_))
    rintro _ w ⟨k68, rfl⟩
    refine ⟨_, rfl, ?_⟩
    replace h := h.grow k68
    refine w_allocN h 22 Many129 fun w b69 h => w_stN (vs := [(strV []), (strV [43]), (strV [45]), (strV [42]), (strV [60]), (strV [61])]) h 22 [(strV []), (strV [43]), (strV [45]), (strV [42]), (strV [60]), (strV [61])] rfl Many129 rfl rfl rfl rfl rfl (ones_cons rfl (ones_cons rfl (ones_cons rfl (ones_cons rfl (ones_cons rfl (ones_cons rfl ones_nil)))))) fun w h => wl_nil (then_normal (wc_block (wc_seq (wc_region (wl_ok (r_sliceA (a := 1) ArrS129 rfl (.inr (congrArg some rfl)) (by decide)) (wl_ok (r_move (v := (strV y42.1)) rfl) ?_))))))
    obtain ⟨y70, e71, hs⟩ := o_bind hs
    refine w_call fnOk92 rfl rfl (slices_Contains_string_c _ _ h.lt (.slice (some ⟨b69, 1, none⟩) 5 5) ([[43], [45], [42], [60], [61]] : List Str) (h.blkSrc (a := 1) (L := [[], [43], [45], [42], [60], [61]]) 22 rfl rfl (by decide) (by decide)) y42.1 _ e71) ?_
    rintro _ w ⟨k72, rfl⟩
    refine ⟨_, rfl, ?_⟩
    replace h := h.grow k72
    refine wl_ok (r_assign (v := (.bool (y70))) rfl) (wl_nil (then_normal (wc_ifb hs rfl (fun c73 hs => ?_) (fun c73 hs => ?_))))
    ·
     refine wc_region (wl_ok (r_sliceA (a := 0) ArrS129 rfl (.inl ⟨rfl, rfl⟩) (by decide)) (wl_ok (r_move (v := (strV y42.1)) rfl) ?_))
     obtain ⟨y74, e75, hs⟩ := o_bind hs
     refine w_call fnOk39 rfl rfl (slices_Index_string_c _ _ h.lt (.slice (some ⟨b69, 0, none⟩) 6 6) ([[], [43], [45], [42], [60], [61]] : List Str) (h.blkSrc (a := 0) (L := [[], [43], [45], [42], [60], [61]]) 22 rfl rfl (by decide) (by decide)) y42.1 _ e75) ?_
     rintro _ w ⟨k76, rfl⟩
     refine ⟨_, rfl, ?_⟩
     replace h := h.grow k76
     refine wl_ok (r_build (pv := [(0, (.int .i64 (3))), (1, (.int .i64 (y74)))]) (out := [(.int .i64 (3)), (.int .i64 (y74))]) Struct71 rfl ⟨0, 1, [(.int .i64 (3))], rfl, rfl, rfl, Nat.le_of_ble_eq_true rfl, ⟨1, 1, [(.int .i64 (y74))], rfl, rfl, rfl, Nat.le_of_ble_eq_true rfl, rfl⟩⟩) (w_stN (vs := [(.int .i64 (3)), (.int .i64 (y74))]) h 18 [(.int .i64 (3)), (.int .i64 (y74))] rfl Many71 rfl rfl rfl rfl rfl (ones_cons rfl (ones_cons rfl ones_nil)) fun w h => wl_ok (r_assign (v := (.int .i64 (2))) rfl) (wl_nil (inBlock_normal (then_loop ?_))))
     replace h := h.copyR 16 19 rfl
     replace h := h.copyR 17 20 rfl
     exact jend (2, u44, y42.2.w, u46, y42.2.params, y42.2.bad, 3, y74) ⟨h.cn _, hs⟩
    ·
     refine wc_seq (wc_region (wl_ok (r_move (v := (strV y42.1)) rfl) ?_))
     obtain ⟨y77, e78, hs⟩ := o_bind hs
     refine w_call fnOk93 rfl rfl (strings_HasPrefix_c _ _ h.lt y42.1 [118] _ e78) ?_
     rintro _ w ⟨k79, rfl⟩
     refine ⟨_, rfl, ?_⟩
     replace h := h.grow k79
     refine wl_ok (r_assign (v := (.bool (y77))) rfl) (wl_nil (then_normal (wc_ifb hs rfl (fun c80 hs => ?_) (fun c80 hs => ?_))))
     ·
      refine wc_region (wl_ok (r_move (v := (.pointer (some ⟨sb, 0, none⟩))) rfl) (wl_ok (r_move (v := (strV y42.1)) rfl) ?_))
      obtain ⟨l81a, l81b, l81c⟩ := h.lendS 1 (C := (.blk sb [u44, u46, (.bool (y42.2.bad))] : Chunk)) rfl trivial
      obtain ⟨y82, e83, hs⟩ := o_bind hs
      refine w_call fnOk25 rfl rfl (words_reader_number_c _ _ l81c (hT.goK h.keep hG) sb y42.2 u44 u46 l81a l81b (h.rdC 1 16 rfl rfl) (h.rdC 1 17 rfl rfl) y42.1 [118] (h.aboveG hT hG 1 (C := (.blk sb [u44, u46, (.bool (y42.2.bad))] : Chunk)) rfl) _ e83) ?_
      rintro _ w ⟨k88, u84, u86, rfl, h89, h90, g85, g87⟩
      refine ⟨_, rfl, ?_⟩
      replace h := h.back 1 (C := (.blk sb [u44, u46, (.bool (y42.2.bad))] : Chunk)) (C' := (.blk sb [u84, u86, (.bool (y82.2.bad))] : Chunk)) rfl trivial h89 k88 h90
      replace h := h.knowRd 25 (backRd g85)
      replace h := h.knowRd 26 (backRd g87).up
      refine wl_ok (r_build (pv := [(0, (.int .i64 (2))), (1, (.int .i64 (y82.1)))]) (out := [(.int .i64 (2)), (.int .i64 (y82.1))]) Struct71 rfl ⟨0, 1, [(.int .i64 (2))], rfl, rfl, rfl, Nat.le_of_ble_eq_true rfl, ⟨1, 1, [(.int .i64 (y82.1))], rfl, rfl, rfl, Nat.le_of_ble_eq_true rfl, rfl⟩⟩) (w_stN (vs := [(.int .i64 (2)), (.int .i64 (y82.1))]) h 18 [(.int .i64 (2)), (.int .i64 (y82.1))] rfl Many71 rfl rfl rfl rfl rfl (ones_cons rfl (ones_cons rfl ones_nil)) fun w h => wl_nil (inBlock_normal (then_loop ?_)))
      replace h := h.copyR 25 19 rfl
      replace h := h.copyR 26 20 rfl
      exact jend (0, u84, y82.2.w, u86, y82.2.params, y82.2.bad, 2, y82.1) ⟨h.cn _, hs⟩
     ·
      refine wc_seq (wc_region (wl_ok (r_move (v := (strV y42.1)) rfl) ?_))
      obtain ⟨y91, e92, hs⟩ := o_bind hs
      refine w_call fnOk93 rfl rfl (strings_HasPrefix_c _ _ h.lt y42.1 [46] _ e92) ?_
      rintro _ w ⟨k93, rfl⟩
      refine ⟨_, rfl, ?_⟩
      replace h := h.grow k93
      refine wl_ok (r_assign (v := (.bool (y91))) rfl) (wl_nil (then_normal (wc_ifb hs rfl (fun c94 hs => ?_) (fun c94 hs => ?_))))
      ·
       refine wc_region (wl_ok (r_move (v := (.pointer (some ⟨sb, 0, none⟩))) rfl) (wl_ok (r_move (v := (strV y42.1)) rfl) ?_))
       obtain ⟨l95a, l95b, l95c⟩ := h.lendS 1 (C := (.blk sb [u44, u46, (.bool (y42.2.bad))] : Chunk)) rfl trivial
       obtain ⟨y96, e97, hs⟩ := o_bind hs
       refine w_call fnOk25 rfl rfl (words_reader_number_c _ _ l95c (hT.goK h.keep hG) sb y42.2 u44 u46 l95a l95b (h.rdC 1 16 rfl rfl) (h.rdC 1 17 rfl rfl) y42.1 [46] (h.aboveG hT hG 1 (C := (.blk sb [u44, u46, (.bool (y42.2.bad))] : Chunk)) rfl) _ e97) ?_
       rintro _ w ⟨k102, u98, u100, rfl, h103, h104, g99, g101⟩
       refine ⟨_, rfl, ?_⟩
       replace h := h.back 1 (C := (.blk sb [u44, u46, (.bool (y42.2.bad))] : Chunk)) (C' := (.blk sb [u98, u100, (.bool (y96.2.bad))] : Chunk)) rfl trivial h103 k102 h104
       replace h := h.knowRd 27 (backRd g99)
       replace h := h.knowRd 28 (backRd g101).up
       refine wl_ok (r_build (pv := [(0, (.int .i64 (4))), (1, (.int .i64 (y96.1)))]) (out := [(.int .i64 (4)), (.int .i64 (y96.1))]) Struct71 rfl ⟨0, 1, [(.int .i64 (4))], rfl, rfl, rfl, Nat.le_of_ble_eq_true rfl, ⟨1, 1, [(.int .i64 (y96.1))], rfl, rfl, rfl, Nat.le_of_ble_eq_true rfl, rfl⟩⟩) (w_stN (vs := [(.int .i64 (4)), (.int .i64 (y96.1))]) h 18 [(.int .i64 (4)), (.int .i64 (y96.1))] rfl Many71 rfl rfl rfl rfl rfl (ones_cons rfl (ones_cons rfl ones_nil)) fun w h => wl_ok (r_assign (v := (.int .i64 (1))) rfl) (wl_nil (inBlock_normal (then_loop ?_))))
       replace h := h.copyR 27 19 rfl
       replace h := h.copyR 28 20 rfl
       exact jend (1, u98, y96.2.w, u100, y96.2.params, y96.2.bad, 4, y96.1) ⟨h.cn _, hs⟩
      ·
       refine wc_seq (wc_region (wl_ok (r_move (v := (strV y42.1)) rfl) ?_))
       obtain ⟨y105, e106, hs⟩ := o_bind hs
       refine w_call fnOk93 rfl rfl (strings_HasPrefix_c _ _ h.lt y42.1 [110, 101, 119] _ e106) ?_
       rintro _ w ⟨k107, rfl⟩
       refine ⟨_, rfl, ?_⟩
       replace h := h.grow k107
       refine wl_ok (r_assign (v := (.bool (y105))) rfl) (wl_nil (then_normal (wc_ifb hs rfl (fun c108 hs => ?_) (fun c108 hs => ?_))))
       ·
        refine wc_region (wl_ok (r_move (v := (.pointer (some ⟨sb, 0, none⟩))) rfl) (wl_ok (r_move (v := (strV y42.1)) rfl) ?_))
        obtain ⟨l109a, l109b, l109c⟩ := h.lendS 1 (C := (.blk sb [u44, u46, (.bool (y42.2.bad))] : Chunk)) rfl trivial
        obtain ⟨y110, e111, hs⟩ := o_bind hs
        refine w_call fnOk25 rfl rfl (words_reader_number_c _ _ l109c (hT.goK h.keep hG) sb y42.2 u44 u46 l109a l109b (h.rdC 1 16 rfl rfl) (h.rdC 1 17 rfl rfl) y42.1 [110, 101, 119] (h.aboveG hT hG 1 (C := (.blk sb [u44, u46, (.bool (y42.2.bad))] : Chunk)) rfl) _ e111) ?_
        rintro _ w ⟨k116, u112, u114, rfl, h117, h118, g113, g115⟩
        refine ⟨_, rfl, ?_⟩
        replace h := h.back 1 (C := (.blk sb [u44, u46, (.bool (y42.2.bad))] : Chunk)) (C' := (.blk sb [u112, u114, (.bool (y110.2.bad))] : Chunk)) rfl trivial h117 k116 h118
        replace h := h.knowRd 29 (backRd g113)
        replace h := h.knowRd 30 (backRd g115).up
        refine wl_ok (r_build (pv := [(0, (.int .i64 (5))), (1, (.int .i64 (y110.1)))]) (out := [(.int .i64 (5)), (.int .i64 (y110.1))]) Struct71 rfl ⟨0, 1, [(.int .i64 (5))], rfl, rfl, rfl, Nat.le_of_ble_eq_true rfl, ⟨1, 1, [(.int .i64 (y110.1))], rfl, rfl, rfl, Nat.le_of_ble_eq_true rfl, rfl⟩⟩) (w_stN (vs := [(.int .i64 (5)), (.int .i64 (y110.1))]) h 18 [(.int .i64 (5)), (.int .i64 (y110.1))] rfl Many71 rfl rfl rfl rfl rfl (ones_cons rfl (ones_cons rfl ones_nil)) fun w h => wl_nil (inBlock_normal (then_loop ?_)))
        replace h := h.copyR 29 19 rfl
        replace h := h.copyR 30 20 rfl
        exact jend (0, u112, y110.2.w, u114, y110.2.params, y110.2.bad, 5, y110.1) ⟨h.cn _, hs⟩
       ·
        refine wc_seq (wc_region (wl_ok (r_move (v := (strV y42.1)) rfl) ?_))
        obtain ⟨y119, e120, hs⟩ := o_bind hs
        refine w_call fnOk93 rfl rfl (strings_HasPrefix_c _ _ h.lt y42.1 [102] _ e120) ?_
        rintro _ w ⟨k121, rfl⟩
        refine ⟨_, rfl, ?_⟩
        replace h := h.grow k121
        refine wl_ok (r_assign (v := (.bool (y119))) rfl) (wl_nil (then_normal (wc_ifb hs rfl (fun c122 hs => ?_) (fun c122 hs => ?_))))
        ·
         refine wc_seq (wc_region (wl_ok (r_move (v := (.pointer (some ⟨sb, 0, none⟩))) rfl) (wl_ok (r_move (v := (strV y42.1)) rfl) ?_)))
         obtain ⟨l123a, l123b, l123c⟩ := h.lendS 1 (C := (.blk sb [u44, u46, (.bool (y42.2.bad))] : Chunk)) rfl trivial
         obtain ⟨y124, e125, hs⟩ := o_bind hs
         refine w_call fnOk25 rfl rfl (words_reader_number_c _ _ l123c (hT.goK h.keep hG) sb y42.2 u44 u46 l123a l123b (h.rdC 1 16 rfl rfl) (h.rdC 1 17 rfl rfl) y42.1 [102] (h.aboveG hT hG 1 (C := (.blk sb [u44, u46, (.bool (y42.2.bad))] : Chunk)) rfl) _ e125) ?_
         rintro _ w ⟨k130, u126, u128, rfl, h131, h132, g127, g129⟩
         refine ⟨_, rfl, ?_⟩
         replace h := h.back 1 (C := (.blk sb [u44, u46, (.bool (y42.2.bad))] : Chunk)) (C' := (.blk sb [u126, u128, (.bool (y124.2.bad))] : Chunk)) rfl trivial h131 k130 h132
         replace h := h.knowRd 31 (backRd g127)
         replace h := h.knowRd 32 (backRd g129).up
         refine wl_ok (r_build (pv := [(0, (.int .i64 (6))), (1, (.int .i64 (y124.1)))]) (out := [(.int .i64 (6)), (.int .i64 (y124.1))]) Struct71 rfl ⟨0, 1, [(.int .i64 (6))], rfl, rfl, rfl, Nat.le_of_ble_eq_true rfl, ⟨1, 1, [(.int .i64 (y124.1))], rfl, rfl, rfl, Nat.le_of_ble_eq_true rfl, rfl⟩⟩) (w_stN (vs := [(.int .i64 (6)), (.int .i64 (y124.1))]) h 18 [(.int .i64 (6)), (.int .i64 (y124.1))] rfl Many71 rfl rfl rfl rfl rfl (ones_cons rfl (ones_cons rfl ones_nil)) fun w h => wl_nil (then_normal (wc_seq (wc_still mixed (by kernel_rfl) h fun w h => wk_ok (r_fieldAddr Fld71x1 rfl) (wk_ok (r_ldB h 18 rfl One3 rfl rfl) (wk_ok (r_geq rfl rfl) (wk_ok (r_move (v := (.bool (decide ((0 : Int) ≤ y124.1)))) rfl) (wk_gd0 rfl rfl (fun q => r_fieldAddr Fld71x1 rfl) (wk_gd0 rfl rfl (fun q => r_ldB h 18 rfl One3 (gvt q) rfl) (wk_gd0 rfl rfl (fun q => r_move (v := (.pointer (some ⟨sb, 0, none⟩))) rfl) (wk_gd0 rfl rfl (fun q => r_nilCheck (gvt q)) (wk_gd0 rfl rfl (fun q => r_fieldAddr Fld54x1 (gvt q)) (wk_gd0 rfl rfl (fun q => r_ldB h 1 rfl One51 (gvt q) rfl) (wk_gd0 rfl rfl (fun q => r_len SliceOf51 (gvt q) (h.rdS 32 rfl)) (wk_gd0 rfl rfl (fun q => r_lss (gvt q) (gvt q)) (wk_ok (r_pand rfl rfl evc) (wk_end (then_normal (wc_ifb hs rfl (fun c133 hs => ?_) (fun c133 hs => ?_))))))))))))))))))))
         ·
          refine wc_still mixed (by kernel_rfl) h fun w h => wk_ok (r_move (v := (.pointer (some ⟨sb, 0, none⟩))) rfl) (wk_ok (r_nilCheck rfl) (wk_ok (r_fieldAddr Fld54x1 rfl) (wk_ok (r_ldB h 1 rfl One51 rfl rfl) (wk_ok (r_fieldAddr Fld71x1 rfl) (wk_ok (r_ldB h 18 rfl One3 rfl rfl) ?_)))))
          obtain ⟨x134, e135, hs⟩ := o_bind hs
          obtain ⟨b137, o138, cs139, h, r140, i136⟩ := h.ixR 32 33 rfl SliceOf51 rfl (o_idx e135).1 (o_idx e135).2
          obtain rfl := r140
          refine wk_ok (i136 _ _ _ _ _ _ _ _ _ rfl rfl) (wk_ok (r_ldP (k := 0) h 33 rfl One3 rfl rfl) (wk_ok (r_assign (v := (.int .i64 (x134))) rfl) (wk_end (inBlock_normal (then_loop ?_)))))
          replace h := h.copyR 31 19 rfl
          replace h := h.copyR 32 20 rfl
          exact jend (x134, u126, y124.2.w, u128, y124.2.params, y124.2.bad, 6, y124.1) ⟨h.cn _, hs⟩
         ·
          refine wc_skip (inBlock_normal (then_loop ?_))
          replace h := h.copyR 31 19 rfl
          replace h := h.copyR 32 20 rfl
          exact jend (0, u126, y124.2.w, u128, y124.2.params, y124.2.bad, 6, y124.1) ⟨h.cn _, hs⟩
        ·
         refine wc_region (wl_ok (r_move (v := (.pointer (some ⟨sb, 0, none⟩))) rfl) (wl_ok (r_move (v := (strV y42.1)) rfl) ?_))
         obtain ⟨l141a, l141b, l141c⟩ := h.lendS 1 (C := (.blk sb [u44, u46, (.bool (y42.2.bad))] : Chunk)) rfl trivial
         obtain ⟨y142, e143, hs⟩ := o_bind hs
         refine w_call fnOk25 rfl rfl (words_reader_number_c _ _ l141c (hT.goK h.keep hG) sb y42.2 u44 u46 l141a l141b (h.rdC 1 16 rfl rfl) (h.rdC 1 17 rfl rfl) y42.1 [] (h.aboveG hT hG 1 (C := (.blk sb [u44, u46, (.bool (y42.2.bad))] : Chunk)) rfl) _ e143) ?_
         rintro _ w ⟨k148, u144, u146, rfl, h149, h150, g145, g147⟩
         refine ⟨_, rfl, ?_⟩
         replace h := h.back 1 (C := (.blk sb [u44, u46, (.bool (y42.2.bad))] : Chunk)) (C' := (.blk sb [u144, u146, (.bool (y142.2.bad))] : Chunk)) rfl trivial h149 k148 h150
         replace h := h.knowRd 34 (backRd g145)
         replace h := h.knowRd 35 (backRd g147).up
         refine wl_ok (r_fieldAddr Fld71x1 rfl) (w_st1 h 18 [(.int .i64 (1)), (.int .i64 (y142.1))] rfl One3 rfl rfl rfl rfl rfl fun w h => wl_nil (inBlock_normal (then_loop ?_)))
         replace h := h.copyR 34 19 rfl
         replace h := h.copyR 35 20 rfl
         exact jend (0, u144, y142.2.w, u146, y142.2.params, y142.2.bad, 1, y142.1) ⟨h.cn _, hs⟩
  ·
   refine wc_exit (then_exit (then_exit (inBlock_eq (then_normal (wc_seq (wc_region (wl_ok (r_move (v := v25) rfl) (wl_ok (r_assign (v := v25) rfl) (wl_nil (then_normal (wc_ret (fin1 (v := v25) Tryz.results65 rfl ?_))))))))))))
   replace h := h.freeze 13 rfl
   obtain rfl := Option.some.inj hs
   subst hK0
   obtain ⟨o1, o2, o3⟩ := h.outS 1 (C := (.blk sb [v28, v30, (.bool (y32))] : Chunk)) rfl trivial
   exact ⟨o2, v25, v28, v30, rfl, o1, o3, h.outRdC 1 13 rfl rfl, h.outRdC 1 14 rfl rfl, h.outRdC 1 15 rfl rfl⟩
def words_reader_block_j8 (x28 : List GStmt) (nx38 : (List GStmt × List Str × List Int × Bool) → Option (List GStmt × Reader)) (y44 : List Str) (y46 : List Int) (y47 : Bool) (y48 : Int) (y49 : Int) (y51 : List Tok) (y53 : List Tok) (y55 : List GStmt) (y57 : List GStmt) : Option (List GStmt × Reader) :=
  grd (Room 112 x28 [(⟨y48, y49, y51, y53, y55, y57⟩ : GStmt)]) (nx38 ((x28 ++ [(⟨y48, y49, y51, y53, y55, y57⟩ : GStmt)]), y44, y46, y47))
def words_reader_block_b9 (N : Nat) (F0 : Reader → Int → Option (List GStmt × Reader)) (a : Int) (s : List GStmt × List Str × List Int × Bool) (nx38 : List GStmt × List Str × List Int × Bool → Option (List GStmt × Reader)) : Option (List GStmt × Reader) :=
  match s with | (x28, y30, y32, y33) => bif (!y33) then (words_reader_next (⟨y30, y32, y33⟩ : Reader)).bind fun y62 => bif decide ((y62.1 : Str) = [125]) then some (x28, y62.2) else bif decide ((y62.1 : Str) = [115, 101, 116]) then (words_reader_next y62.2).bind fun y74 => (words_reader_number y74.2 y74.1 []).bind fun y84 => (words_reader_expr N y84.2).bind fun y94 => words_reader_block_j8 x28 nx38 y94.2.w y94.2.params y94.2.bad 1 y84.1 y94.1 [] [] [] else bif decide ((y62.1 : Str) = [112, 117, 116]) then (words_reader_next y62.2).bind fun y107 => (words_reader_number y107.2 y107.1 []).bind fun y117 => (words_reader_expr N y117.2).bind fun y127 => (words_reader_expr N y127.2).bind fun y139 => words_reader_block_j8 x28 nx38 y139.2.w y139.2.params y139.2.bad 2 y117.1 y127.1 y139.1 [] [] else bif decide ((y62.1 : Str) = [115, 97, 121]) then (words_reader_expr N y62.2).bind fun y152 => words_reader_block_j8 x28 nx38 y152.2.w y152.2.params y152.2.bad 3 0 y152.1 [] [] [] else bif decide ((y62.1 : Str) = [112, 97, 117, 115, 101]) then words_reader_block_j8 x28 nx38 y62.2.w y62.2.params y62.2.bad 4 0 [] [] [] [] else bif decide ((y62.1 : Str) = [103, 111]) then (words_reader_expr N y62.2).bind fun y166 => words_reader_block_j8 x28 nx38 y166.2.w y166.2.params y166.2.bad 5 0 y166.1 [] [] [] else bif decide ((y62.1 : Str) = [105, 102]) then (words_reader_expr N y62.2).bind fun y179 => grd (I64 (a + 1)) ((F0 y179.2 (a + 1)).bind fun y192 => grd (I64 (a + 1)) ((F0 y192.2 (a + 1)).bind fun y205 => words_reader_block_j8 x28 nx38 y205.2.w y205.2.params y205.2.bad 6 0 y179.1 [] y192.1 y205.1)) else bif decide ((y62.1 : Str) = [119, 104, 105, 108, 101]) then (words_reader_expr N y62.2).bind fun y218 => grd (I64 (a + 1)) ((F0 y218.2 (a + 1)).bind fun y231 => words_reader_block_j8 x28 nx38 y231.2.w y231.2.params y231.2.bad 7 0 y218.1 [] y231.1 []) else bif decide ((y62.1 : Str) = [114, 101, 116, 117, 114, 110]) then (words_reader_expr N y62.2).bind fun y244 => words_reader_block_j8 x28 nx38 y244.2.w y244.2.params y244.2.bad 8 0 y244.1 [] [] [] else words_reader_block_j8 x28 nx38 y62.2.w y62.2.params true 0 0 [] [] [] [] else some ([], (⟨y30, y32, y33⟩ : Reader))
def words_reader_block_j1 (N : Nat) (F0 : Reader → Int → Option (List GStmt × Reader)) (a : Int) (y2 : List Str) (y4 : List Int) (y5 : Bool) : Option (List GStmt × Reader) :=
  again (words_reader_block_b9 N F0 a) N ([], y2, y4, y5)
def words_reader_block_r (N : Nat) (F0 : Reader → Int → Option (List GStmt × Reader)) (sx : Reader) (a : Int) : Option (List GStmt × Reader) :=
  (words_reader_next sx).bind fun y256 => bif (decide ((y256.1 : Str) ≠ [123]) || decide ((5 : Int) < a)) then words_reader_block_j1 N F0 a y256.2.w y256.2.params true else words_reader_block_j1 N F0 a y256.2.w y256.2.params y256.2.bad
def words_reader_block : Nat → Reader → Int → Option (List GStmt × Reader)
  | 0 => fun _ _ => none
  | N + 1 => words_reader_block_r N (words_reader_block N)
theorem words_reader_block_c : ∀ (N : Nat) (w0 : World) (M : BS) (hM : ∀ b, M b → b < w0.heap.size) (hT : Tabs Tryz.prog 5 w0) (sb : Nat) (sx : Reader) (vs0 vs1 : Value) (hC : Chunk.holds w0 M (Chunk.own' (.blk sb [vs0, vs1, (.bool (sx.bad))] : Chunk)) (.blk sb [vs0, vs1, (.bool (sx.bad))] : Chunk)) (hap : ∀ b, Chunk.own' (.blk sb [vs0, vs1, (.bool (sx.bad))] : Chunk) b → ¬ M b) (hvs0 : RdSl rStr w0 (fun b => M b ∨ Chunk.own' (.blk sb [vs0, vs1, (.bool (sx.bad))] : Chunk) b) vs0 sx.w) (hvs1 : RdSl rInt w0 (fun b => M b ∨ Chunk.own' (.blk sb [vs0, vs1, (.bool (sx.bad))] : Chunk) b) vs1 sx.params) (a : Int) (hG : ∀ b, Chunk.own' (.blk sb [vs0, vs1, (.bool (sx.bad))] : Chunk) b → Tryz.prog.globals.size ≤ b) (r : List GStmt × Reader) (hs : words_reader_block N sx a = some r),
    Calls Tryz.prog 26 #[(.pointer (some ⟨sb, 0, none⟩)), (.int .i64 (a))] w0 (fun e w' => Keep (Chunk.own' (.blk sb [vs0, vs1, (.bool (sx.bad))] : Chunk)) w0 w' ∧ ∃ u0, ∃ us0, ∃ us1, e = .returned (u0) ∧ Chunk.holds w' M (Chunk.own' (.blk sb [us0, us1, .bool r.2.bad] : Chunk)) (.blk sb [us0, us1, .bool r.2.bad] : Chunk) ∧ (∀ b, Chunk.own' (.blk sb [us0, us1, .bool r.2.bad] : Chunk) b → b < w0.heap.size → Chunk.own' (.blk sb [vs0, vs1, (.bool (sx.bad))] : Chunk) b) ∧ RdSl rStmt w' (fun b => M b ∨ Chunk.own' (.blk sb [us0, us1, .bool r.2.bad] : Chunk) b) u0 r.1 ∧ RdSl rStr w' (fun b => M b ∨ Chunk.own' (.blk sb [us0, us1, .bool r.2.bad] : Chunk) b) us0 r.2.w ∧ RdSl rInt w' (fun b => M b ∨ Chunk.own' (.blk sb [us0, us1, .bool r.2.bad] : Chunk) b) us1 r.2.params) := by
  intro N
  induction N with
  | zero => intro w0 M hM hT sb sx vs0 vs1 hC hap hvs0 hvs1 a hG r hs; cases hs
  | succ N ih =>
  intro w0 M hM hT sb sx vs0 vs1 hC hap hvs0 hvs1 a hG r hs
  replace hs : words_reader_block_r N (words_reader_block N) sx a = some r := hs
  generalize words_reader_block N = F0 at hs ih
  refine calls_start (args := [(.pointer (some ⟨sb, 0, none⟩)), (.int .i64 (a))]) Tryz.func26 rfl Tryz.ntmps26 (Nat.le_of_ble_eq_true rfl) ?_
  have h := SH.init1 hM hC hap
  replace h := h.argRdC 2 hvs0 own1
  replace h := h.argRdC 3 hvs1 (own1_rd own1)
  generalize hK0 : (.blk sb [vs0, vs1, (.bool (sx.bad))] : Chunk).own' = K0 at h hG
  refine wc_seq (wc_region (wl_ok (r_assign (v := (.slice none 0 0)) rfl) (wl_nil (then_normal (wc_join (σ := Value × List Str × Value × List Int × Bool) (inl [7, 8, 9, 10, 11, 12, 13, 14, 15, 16]) (fun ⟨v1, y2, v3, y4, y5⟩ => []) (fun ⟨v1, y2, v3, y4, y5⟩ w => SH w0 M K0 w (hset [(1, .blk sb [v1, v3, (.bool (y5))]), (4, .rd rStr v1 y2), (5, .rd rInt v3 y4)]) ∧ words_reader_block_j1 N F0 a y2 y4 y5 = some r) ?_ ?_)))))
  ·
   rintro ⟨v1, y2, v3, y4, y5⟩ w junk ⟨h, hs⟩
   refine wc_seq (wc_region (wl_ok (r_assign (v := (.slice none 0 0)) rfl) (wl_nil (then_normal (wc_seq (wc_block ?_))))))
   replace h := h.nilO (R := rStmt) (E := 65) 15
   replace h := h.copyR 4 16 rfl
   replace h := h.copyR 5 17 rfl
   refine wc_lp (σ := Nat × Value × List GStmt × Value × List Str × Value × List Int × Bool) (inl [4, 5, 6, 17, 18, 19, 20, 21, 22, 23, 24, 25, 26, 27, 28, 29, 30, 31, 32, 33, 34, 35, 36, 37, 38, 39, 40, 41, 42, 43, 44, 45, 46, 47, 48, 49, 50, 51, 52, 53, 54, 55, 56, 57, 58, 59, 60, 61, 62, 63, 64, 65, 66, 67, 68, 69, 70, 71, 72, 73, 74, 75, 76, 77, 78, 79, 80, 81, 82, 83, 84, 85, 86, 87, 88, 89, 90, 91, 92, 93, 94, 95, 96, 97, 98, 99]) (fun ⟨m37, v27, x28, v29, y30, v31, y32, y33⟩ => [(5, v27)]) (fun ⟨m37, v27, x28, v29, y30, v31, y32, y33⟩ w => SH w0 M K0 w (hset [(1, .blk sb [v29, v31, (.bool (y33))]), (15, .own rStmt 65 v27 x28), (16, .rd rStr v29 y30), (17, .rd rInt v31 y32)]) ∧ again (words_reader_block_b9 N F0 a) m37 (x28, y30, y32, y33) = some r) (fun ⟨m37, v27, x28, v29, y30, v31, y32, y33⟩ => m37) ⟨N, (.slice none 0 0), [], v1, y2, v3, y4, y5⟩ ⟨rfl, trivial⟩ ?_ ?_
   ·
    exact ⟨h.cn _, hs⟩
   ·
    rintro ⟨m37, v27, x28, v29, y30, v31, y32, y33⟩ w junk ⟨h, hs⟩
    obtain ⟨m371, m37e, m37h⟩ := again_pos hs
    subst m37e
    replace hs := m37h
    generalize hnx38 : again (words_reader_block_b9 N F0 a) m371 = nx38 at hs
    refine wc_seq (wc_seq (wc_region (wl_ok (r_move (v := (.pointer (some ⟨sb, 0, none⟩))) rfl) (wl_ok (r_nilCheck rfl) (wl_ok (r_fieldAddr Fld54x2 rfl) (wl_ok (r_ldB h 1 rfl One4 rfl rfl) (wl_ok (r_notb rfl) (wl_nil (then_normal (wc_ifb hs rfl (fun c41 hs => ?_) (fun c41 hs => ?_)))))))))))
    ·
     refine wc_skip (then_normal (wc_block (wc_seq (wc_region (w_allocN h 18 Many65 fun w b42 h => wl_nil (then_normal (wc_join (σ := Value × List Str × Value × List Int × Bool × Int × Int × Value × List Tok × Value × List Tok × Value × List GStmt × Value × List GStmt) (inl [4, 22, 23, 24, 25, 26, 27, 28, 29, 30, 31, 32, 33, 34, 35, 36, 37, 38, 39, 40, 41, 42, 43, 44, 45, 46, 47, 48, 49, 50, 51, 52, 53, 54, 55, 56, 57, 58, 59, 60, 61, 62, 63, 64, 65, 66, 67, 68, 69, 70, 71, 72, 73, 74, 75, 76, 77, 78, 79, 80, 81, 82, 83, 84, 85, 86, 87, 88, 89, 90, 91, 92, 93, 94, 95]) (fun ⟨v43, y44, v45, y46, y47, y48, y49, v50, y51, v52, y53, v54, y55, v56, y57⟩ => []) (fun ⟨v43, y44, v45, y46, y47, y48, y49, v50, y51, v52, y53, v54, y55, v56, y57⟩ w => SH w0 M K0 w (hset [(1, .blk sb [v43, v45, (.bool (y47))]), (15, .own rStmt 65 v27 x28), (18, .blk b42 [(.int .i64 (y48)), (.int .i64 (y49)), v50, v52, v54, v56]), (19, .rd rStr v43 y44), (20, .rd rInt v45 y46), (21, .rd rTok v50 y51), (22, .rd rTok v52 y53), (23, .rd rStmt v54 y55), (24, .rd rStmt v56 y57)]) ∧ words_reader_block_j8 x28 nx38 y44 y46 y47 y48 y49 y51 y53 y55 y57 = some r) ?_ ?_)))))))
     ·
      rintro ⟨v43, y44, v45, y46, y47, y48, y49, v50, y51, v52, y53, v54, y55, v56, y57⟩ w junk ⟨h, hs⟩
      refine wc_region (wl_ok (r_move (v := v27) rfl) (wl_ok (r_ldBN (vs := [(.int .i64 (y48)), (.int .i64 (y49)), v50, v52, v54, v56]) h 18 rfl Many65 rfl rfl rfl) (w_bs (R := rStmt) (vs := [(.agg #[(.int .i64 (y48)), (.int .i64 (y49)), v50, v52, v54, v56])]) (xs := [(⟨y48, y49, y51, y53, y55, y57⟩ : GStmt)]) h 25 ElemOf41 rfl rfl rfl ⟨(rStmt_mk ⟨_, _, _, _, rfl, (h.rdAt 21 rfl), (h.rdAt 22 rfl), (h.rdAt 23 rfl), (h.rdAt 24 rfl)⟩), trivial⟩ rfl fun w u58 h => ?_)))
      obtain ⟨a59, hs⟩ := o_grd hs
      refine w_app (R := rStmt) (m := [(⟨y48, y49, y51, y53, y55, y57⟩ : GStmt)]) h 15 rfl (h.ownS 25 rfl) ElemOf41 rfl rfl rfl a59.1 a59.2 fun w u60 h => wl_ok (r_assign (v := u60) rfl) (wl_nil (inBlock_normal (then_loop ?_)))
      replace h := h.copyR 19 16 rfl
      replace h := h.copyR 20 17 rfl
      subst hnx38
      exact lend ⟨m371, u60, (x28 ++ [(⟨y48, y49, y51, y53, y55, y57⟩ : GStmt)]), v43, y44, v45, y46, y47⟩ ⟨h.cn _, hs⟩
     ·
      refine wc_seq (wc_region (wl_ok (r_move (v := (.pointer (some ⟨sb, 0, none⟩))) rfl) ?_))
      obtain ⟨l61a, l61b, l61c⟩ := h.lendS 1 (C := (.blk sb [v29, v31, (.bool (y33))] : Chunk)) rfl trivial
      obtain ⟨y62, e63, hs⟩ := o_bind hs
      refine w_call fnOk24 rfl rfl (words_reader_next_c _ _ l61c sb (⟨y30, y32, y33⟩ : Reader) v29 v31 l61a l61b (h.rdC 1 16 rfl rfl) (h.rdC 1 17 rfl rfl) _ e63) ?_
      rintro _ w ⟨k68, u64, u66, rfl, h69, h70, g65, g67⟩
      refine ⟨_, rfl, ?_⟩
      replace h := h.back 1 (C := (.blk sb [v29, v31, (.bool (y33))] : Chunk)) (C' := (.blk sb [u64, u66, (.bool (y62.2.bad))] : Chunk)) rfl trivial h69 k68 h70
      replace h := h.knowRd 26 (backRd g65)
      replace h := h.knowRd 27 (backRd g67).up
      refine wl_nil (then_normal (wc_block (wc_seq (wc_region (wl_ok (r_eqls rfl rfl) (wl_ok (r_assign (v := (.bool (decide ((y62.1 : Str) = [125])))) rfl) (wl_nil (then_normal (wc_ifb hs rfl (fun c71 hs => ?_) (fun c71 hs => ?_))))))))))
      ·
       refine wc_seq (wc_region (wl_ok (r_move (v := v27) rfl) (wl_ok (r_assign (v := v27) rfl) (wl_nil (then_normal (wc_ret (inBlock_ret (then_ret (inBlock_ret (then_ret (inBlock_ret (then_ret (fin1 (v := v27) Tryz.results26 rfl ?_)))))))))))))
       replace h := h.freeze 15 rfl
       obtain rfl := Option.some.inj hs
       subst hK0
       obtain ⟨o1, o2, o3⟩ := h.outS 1 (C := (.blk sb [u64, u66, (.bool (y62.2.bad))] : Chunk)) rfl trivial
       exact ⟨o2, v27, u64, u66, rfl, o1, o3, h.outRdC 1 15 rfl rfl, h.outRdC 1 26 rfl rfl, h.outRdC 1 27 rfl rfl⟩
      ·
       refine wc_seq (wc_region (wl_ok (r_eqls rfl rfl) (wl_ok (r_assign (v := (.bool (decide ((y62.1 : Str) = [115, 101, 116])))) rfl) (wl_nil (then_normal (wc_ifb hs rfl (fun c72 hs => ?_) (fun c72 hs => ?_)))))))
       ·
        refine wc_seq (wc_region (wl_ok (r_move (v := (.pointer (some ⟨sb, 0, none⟩))) rfl) (wl_ok (r_move (v := (.pointer (some ⟨sb, 0, none⟩))) rfl) ?_)))
        obtain ⟨l73a, l73b, l73c⟩ := h.lendS 1 (C := (.blk sb [u64, u66, (.bool (y62.2.bad))] : Chunk)) rfl trivial
        obtain ⟨y74, e75, hs⟩ := o_bind hs
        refine w_call fnOk24 rfl rfl (words_reader_next_c _ _ l73c sb y62.2 u64 u66 l73a l73b (h.rdC 1 26 rfl rfl) (h.rdC 1 27 rfl rfl) _ e75) ?_
        rintro _ w ⟨k80, u76, u78, rfl, h81, h82, g77, g79⟩
        refine ⟨_, rfl, ?_⟩
        replace h := h.back 1 (C := (.blk sb [u64, u66, (.bool (y62.2.bad))] : Chunk)) (C' := (.blk sb [u76, u78, (.bool (y74.2.bad))] : Chunk)) rfl trivial h81 k80 h82
        replace h := h.knowRd 28 (backRd g77)
        replace h := h.knowRd 29 (backRd g79).up
        obtain ⟨l83a, l83b, l83c⟩ := h.lendS 1 (C := (.blk sb [u76, u78, (.bool (y74.2.bad))] : Chunk)) rfl trivial
        obtain ⟨y84, e85, hs⟩ := o_bind hs
        refine w_call fnOk25 rfl rfl (words_reader_number_c _ _ l83c (hT.goK h.keep hG) sb y74.2 u76 u78 l83a l83b (h.rdC 1 28 rfl rfl) (h.rdC 1 29 rfl rfl) y74.1 [] (h.aboveG hT hG 1 (C := (.blk sb [u76, u78, (.bool (y74.2.bad))] : Chunk)) rfl) _ e85) ?_
        rintro _ w ⟨k90, u86, u88, rfl, h91, h92, g87, g89⟩
        refine ⟨_, rfl, ?_⟩
        replace h := h.back 1 (C := (.blk sb [u76, u78, (.bool (y74.2.bad))] : Chunk)) (C' := (.blk sb [u86, u88, (.bool (y84.2.bad))] : Chunk)) rfl trivial h91 k90 h92
        replace h := h.knowRd 30 (backRd g87)
        replace h := h.knowRd 31 (backRd g89).up
        refine wl_ok (r_build (pv := [(0, (.int .i64 (1))), (1, (.int .i64 (y84.1)))]) (out := [(.int .i64 (1)), (.int .i64 (y84.1)), (.slice none 0 0), (.slice none 0 0), (.slice none 0 0), (.slice none 0 0)]) Struct65 rfl ⟨0, 1, [(.int .i64 (1))], rfl, rfl, rfl, Nat.le_of_ble_eq_true rfl, ⟨1, 1, [(.int .i64 (y84.1))], rfl, rfl, rfl, Nat.le_of_ble_eq_true rfl, rfl⟩⟩) (w_stN (vs := [(.int .i64 (1)), (.int .i64 (y84.1)), (.slice none 0 0), (.slice none 0 0), (.slice none 0 0), (.slice none 0 0)]) h 18 [(.int .i64 (1)), (.int .i64 (y84.1)), (.slice none 0 0), (.slice none 0 0), (.slice none 0 0), (.slice none 0 0)] rfl Many65 rfl rfl rfl rfl rfl (ones_cons rfl (ones_cons rfl (ones_cons rfl (ones_cons rfl (ones_cons rfl (ones_cons rfl ones_nil)))))) fun w h => wl_nil (then_normal (wc_region (wl_ok (r_move (v := (.pointer (some ⟨sb, 0, none⟩))) rfl) ?_))))
        obtain ⟨l93a, l93b, l93c⟩ := h.lendS 1 (C := (.blk sb [u86, u88, (.bool (y84.2.bad))] : Chunk)) rfl trivial
        obtain ⟨y94, e95, hs⟩ := o_bind hs
        refine w_call fnOk65 rfl rfl (words_reader_expr_c N _ _ l93c (hT.goK h.keep hG) sb y84.2 u86 u88 l93a l93b (h.rdC 1 30 rfl rfl) (h.rdC 1 31 rfl rfl) (h.aboveG hT hG 1 (C := (.blk sb [u86, u88, (.bool (y84.2.bad))] : Chunk)) rfl) _ e95) ?_
        rintro _ w ⟨k102, u96, u98, u100, rfl, h103, h104, g97, g99, g101⟩
        refine ⟨_, rfl, ?_⟩
        replace h := h.back 1 (C := (.blk sb [u86, u88, (.bool (y84.2.bad))] : Chunk)) (C' := (.blk sb [u98, u100, (.bool (y94.2.bad))] : Chunk)) rfl trivial h103 k102 h104
        replace h := h.knowRd 32 (backRd g97)
        replace h := h.knowRd 33 (backRd g99).up
        replace h := h.knowRd 34 (backRd g101).up.up
        refine wl_ok (r_fieldAddr Fld65x2 rfl) (w_st1 h 18 [(.int .i64 (1)), (.int .i64 (y84.1)), u96, (.slice none 0 0), (.slice none 0 0), (.slice none 0 0)] rfl One63 rfl rfl rfl rfl (h.rdAt 32 rfl).one fun w h => wl_nil (inBlock_normal (then_loop ?_)))
        replace h := h.copyR 33 19 rfl
        replace h := h.copyR 34 20 rfl
        replace h := h.copyR 32 21 rfl
        replace h := h.knowRd 22 (Rd2.nil (R := rTok))
        replace h := h.knowRd 23 (Rd2.nil (R := rStmt))
        replace h := h.knowRd 24 (Rd2.nil (R := rStmt))
        exact jend (u98, y94.2.w, u100, y94.2.params, y94.2.bad, 1, y84.1, u96, y94.1, (.slice none 0 0), [], (.slice none 0 0), [], (.slice none 0 0), []) ⟨h.cn _, hs⟩
       ·
        refine wc_seq (wc_region (wl_ok (r_eqls rfl rfl) (wl_ok (r_assign (v := (.bool (decide ((y62.1 : Str) = [112, 117, 116])))) rfl) (wl_nil (then_normal (wc_ifb hs rfl (fun c105 hs => ?_) (fun c105 hs => ?_)))))))
        ·
         refine wc_seq (wc_region (wl_ok (r_move (v := (.pointer (some ⟨sb, 0, none⟩))) rfl) (wl_ok (r_move (v := (.pointer (some ⟨sb, 0, none⟩))) rfl) ?_)))
         obtain ⟨l106a, l106b, l106c⟩ := h.lendS 1 (C := (.blk sb [u64, u66, (.bool (y62.2.bad))] : Chunk)) rfl trivial
         obtain ⟨y107, e108, hs⟩ := o_bind hs
         refine w_call fnOk24 rfl rfl (words_reader_next_c _ _ l106c sb y62.2 u64 u66 l106a l106b (h.rdC 1 26 rfl rfl) (h.rdC 1 27 rfl rfl) _ e108) ?_
         rintro _ w ⟨k113, u109, u111, rfl, h114, h115, g110, g112⟩
         refine ⟨_, rfl, ?_⟩
         replace h := h.back 1 (C := (.blk sb [u64, u66, (.bool (y62.2.bad))] : Chunk)) (C' := (.blk sb [u109, u111, (.bool (y107.2.bad))] : Chunk)) rfl trivial h114 k113 h115
         replace h := h.knowRd 35 (backRd g110)
         replace h := h.knowRd 36 (backRd g112).up
         obtain ⟨l116a, l116b, l116c⟩ := h.lendS 1 (C := (.blk sb [u109, u111, (.bool (y107.2.bad))] : Chunk)) rfl trivial
         obtain ⟨y117, e118, hs⟩ := o_bind hs
         refine w_call fnOk25 rfl rfl (words_reader_number_c _ _ l116c (hT.goK h.keep hG) sb y107.2 u109 u111 l116a l116b (h.rdC 1 35 rfl rfl) (h.rdC 1 36 rfl rfl) y107.1 [] (h.aboveG hT hG 1 (C := (.blk sb [u109, u111, (.bool (y107.2.bad))] : Chunk)) rfl) _ e118) ?_
         rintro _ w ⟨k123, u119, u121, rfl, h124, h125, g120, g122⟩
         refine ⟨_, rfl, ?_⟩
         replace h := h.back 1 (C := (.blk sb [u109, u111, (.bool (y107.2.bad))] : Chunk)) (C' := (.blk sb [u119, u121, (.bool (y117.2.bad))] : Chunk)) rfl trivial h124 k123 h125
         replace h := h.knowRd 37 (backRd g120)
         replace h := h.knowRd 38 (backRd g122).up
         refine wl_ok (r_build (pv := [(0, (.int .i64 (2))), (1, (.int .i64 (y117.1)))]) (out := [(.int .i64 (2)), (.int .i64 (y117.1)), (.slice none 0 0), (.slice none 0 0), (.slice none 0 0), (.slice none 0 0)]) Struct65 rfl ⟨0, 1, [(.int .i64 (2))], rfl, rfl, rfl, Nat.le_of_ble_eq_true rfl, ⟨1, 1, [(.int .i64 (y117.1))], rfl, rfl, rfl, Nat.le_of_ble_eq_true rfl, rfl⟩⟩) (w_stN (vs := [(.int .i64 (2)), (.int .i64 (y117.1)), (.slice none 0 0), (.slice none 0 0), (.slice none 0 0), (.slice none 0 0)]) h 18 [(.int .i64 (2)), (.int .i64 (y117.1)), (.slice none 0 0), (.slice none 0 0), (.slice none 0 0), (.slice none 0 0)] rfl Many65 rfl rfl rfl rfl rfl (ones_cons rfl (ones_cons rfl (ones_cons rfl (ones_cons rfl (ones_cons rfl (ones_cons rfl ones_nil)))))) fun w h => wl_nil (then_normal (wc_seq (wc_region (wl_ok (r_move (v := (.pointer (some ⟨sb, 0, none⟩))) rfl) ?_)))))
         obtain ⟨l126a, l126b, l126c⟩ := h.lendS 1 (C := (.blk sb [u119, u121, (.bool (y117.2.bad))] : Chunk)) rfl trivial
         obtain ⟨y127, e128, hs⟩ := o_bind hs
         refine w_call fnOk65 rfl rfl (words_reader_expr_c N _ _ l126c (hT.goK h.keep hG) sb y117.2 u119 u121 l126a l126b (h.rdC 1 37 rfl rfl) (h.rdC 1 38 rfl rfl) (h.aboveG hT hG 1 (C := (.blk sb [u119, u121, (.bool (y117.2.bad))] : Chunk)) rfl) _ e128) ?_
         rintro _ w ⟨k135, u129, u131, u133, rfl, h136, h137, g130, g132, g134⟩
         refine ⟨_, rfl, ?_⟩
         replace h := h.back 1 (C := (.blk sb [u119, u121, (.bool (y117.2.bad))] : Chunk)) (C' := (.blk sb [u131, u133, (.bool (y127.2.bad))] : Chunk)) rfl trivial h136 k135 h137
         replace h := h.knowRd 39 (backRd g130)
         replace h := h.knowRd 40 (backRd g132).up
         replace h := h.knowRd 41 (backRd g134).up.up
         refine wl_ok (r_fieldAddr Fld65x2 rfl) (w_st1 h 18 [(.int .i64 (2)), (.int .i64 (y117.1)), u129, (.slice none 0 0), (.slice none 0 0), (.slice none 0 0)] rfl One63 rfl rfl rfl rfl (h.rdAt 39 rfl).one fun w h => wl_nil (then_normal (wc_region (wl_ok (r_move (v := (.pointer (some ⟨sb, 0, none⟩))) rfl) ?_))))
         obtain ⟨l138a, l138b, l138c⟩ := h.lendS 1 (C := (.blk sb [u131, u133, (.bool (y127.2.bad))] : Chunk)) rfl trivial
         obtain ⟨y139, e140, hs⟩ := o_bind hs
         refine w_call fnOk65 rfl rfl (words_reader_expr_c N _ _ l138c (hT.goK h.keep hG) sb y127.2 u131 u133 l138a l138b (h.rdC 1 40 rfl rfl) (h.rdC 1 41 rfl rfl) (h.aboveG hT hG 1 (C := (.blk sb [u131, u133, (.bool (y127.2.bad))] : Chunk)) rfl) _ e140) ?_
         rintro _ w ⟨k147, u141, u143, u145, rfl, h148, h149, g142, g144, g146⟩
         refine ⟨_, rfl, ?_⟩
         replace h := h.back 1 (C := (.blk sb [u131, u133, (.bool (y127.2.bad))] : Chunk)) (C' := (.blk sb [u143, u145, (.bool (y139.2.bad))] : Chunk)) rfl trivial h148 k147 h149
         replace h := h.knowRd 42 (backRd g142)
         replace h := h.knowRd 43 (backRd g144).up
         replace h := h.knowRd 44 (backRd g146).up.up
         refine wl_ok (r_fieldAddr Fld65x3 rfl) (w_st1 h 18 [(.int .i64 (2)), (.int .i64 (y117.1)), u129, u141, (.slice none 0 0), (.slice none 0 0)] rfl One63 rfl rfl rfl rfl (h.rdAt 42 rfl).one fun w h => wl_nil (inBlock_normal (then_loop ?_)))
         replace h := h.copyR 43 19 rfl
         replace h := h.copyR 44 20 rfl
         replace h := h.copyR 39 21 rfl
         replace h := h.copyR 42 22 rfl
         replace h := h.knowRd 23 (Rd2.nil (R := rStmt))
         replace h := h.knowRd 24 (Rd2.nil (R := rStmt))
         exact jend (u143, y139.2.w, u145, y139.2.params, y139.2.bad, 2, y117.1, u129, y127.1, u141, y139.1, (.slice none 0 0), [], (.slice none 0 0), []) ⟨h.cn _, hs⟩
        ·
         refine wc_seq (wc_region (wl_ok (r_eqls rfl rfl) (wl_ok (r_assign (v := (.bool (decide ((y62.1 : Str) = [115, 97, 121])))) rfl) (wl_nil (then_normal (wc_ifb hs rfl (fun c150 hs => ?_) (fun c150 hs => ?_)))))))
         ·
          refine wc_region (wl_ok (r_move (v := (.pointer (some ⟨sb, 0, none⟩))) rfl) ?_)
          obtain ⟨l151a, l151b, l151c⟩ := h.lendS 1 (C := (.blk sb [u64, u66, (.bool (y62.2.bad))] : Chunk)) rfl trivial
          obtain ⟨y152, e153, hs⟩ := o_bind hs
          refine w_call fnOk65 rfl rfl (words_reader_expr_c N _ _ l151c (hT.goK h.keep hG) sb y62.2 u64 u66 l151a l151b (h.rdC 1 26 rfl rfl) (h.rdC 1 27 rfl rfl) (h.aboveG hT hG 1 (C := (.blk sb [u64, u66, (.bool (y62.2.bad))] : Chunk)) rfl) _ e153) ?_
          rintro _ w ⟨k160, u154, u156, u158, rfl, h161, h162, g155, g157, g159⟩
          refine ⟨_, rfl, ?_⟩
          replace h := h.back 1 (C := (.blk sb [u64, u66, (.bool (y62.2.bad))] : Chunk)) (C' := (.blk sb [u156, u158, (.bool (y152.2.bad))] : Chunk)) rfl trivial h161 k160 h162
          replace h := h.knowRd 45 (backRd g155)
          replace h := h.knowRd 46 (backRd g157).up
          replace h := h.knowRd 47 (backRd g159).up.up
          refine wl_ok (r_build (pv := [(0, (.int .i64 (3))), (2, u154)]) (out := [(.int .i64 (3)), (.int .i64 (0)), u154, (.slice none 0 0), (.slice none 0 0), (.slice none 0 0)]) Struct65 rfl ⟨0, 1, [(.int .i64 (3))], rfl, rfl, rfl, Nat.le_of_ble_eq_true rfl, ⟨2, 1, [u154], rfl, (toList_of_one (h.rdAt 45 rfl).one), rfl, Nat.le_of_ble_eq_true rfl, rfl⟩⟩) (w_stN (vs := [(.int .i64 (3)), (.int .i64 (0)), u154, (.slice none 0 0), (.slice none 0 0), (.slice none 0 0)]) h 18 [(.int .i64 (3)), (.int .i64 (0)), u154, (.slice none 0 0), (.slice none 0 0), (.slice none 0 0)] rfl Many65 rfl rfl rfl rfl rfl (ones_cons rfl (ones_cons rfl (ones_cons (h.rdAt 45 rfl).one (ones_cons rfl (ones_cons rfl (ones_cons rfl ones_nil)))))) fun w h => wl_nil (inBlock_normal (then_loop ?_)))
          replace h := h.copyR 46 19 rfl
          replace h := h.copyR 47 20 rfl
          replace h := h.copyR 45 21 rfl
          replace h := h.knowRd 22 (Rd2.nil (R := rTok))
          replace h := h.knowRd 23 (Rd2.nil (R := rStmt))
          replace h := h.knowRd 24 (Rd2.nil (R := rStmt))
          exact jend (u156, y152.2.w, u158, y152.2.params, y152.2.bad, 3, 0, u154, y152.1, (.slice none 0 0), [], (.slice none 0 0), [], (.slice none 0 0), []) ⟨h.cn _, hs⟩
         ·
          refine wc_seq (wc_region (wl_ok (r_eqls rfl rfl) (wl_ok (r_assign (v := (.bool (decide ((y62.1 : Str) = [112, 97, 117, 115, 101])))) rfl) (wl_nil (then_normal (wc_ifb hs rfl (fun c163 hs => ?_) (fun c163 hs => ?_)))))))
          ·
           refine wc_region (wl_ok (r_fieldAddr Fld65x0 rfl) (w_st1 h 18 [(.int .i64 (4)), (.int .i64 (0)), (.slice none 0 0), (.slice none 0 0), (.slice none 0 0), (.slice none 0 0)] rfl One3 rfl rfl rfl rfl rfl fun w h => wl_nil (inBlock_normal (then_loop ?_))))
           replace h := h.copyR 26 19 rfl
           replace h := h.copyR 27 20 rfl
           replace h := h.knowRd 21 (Rd2.nil (R := rTok))
           replace h := h.knowRd 22 (Rd2.nil (R := rTok))
           replace h := h.knowRd 23 (Rd2.nil (R := rStmt))
           replace h := h.knowRd 24 (Rd2.nil (R := rStmt))
           exact jend (u64, y62.2.w, u66, y62.2.params, y62.2.bad, 4, 0, (.slice none 0 0), [], (.slice none 0 0), [], (.slice none 0 0), [], (.slice none 0 0), []) ⟨h.cn _, hs⟩
          ·
           refine wc_seq (wc_region (wl_ok (r_eqls rfl rfl) (wl_ok (r_assign (v := (.bool (decide ((y62.1 : Str) = [103, 111])))) rfl) (wl_nil (then_normal (wc_ifb hs rfl (fun c164 hs => ?_) (fun c164 hs => ?_)))))))
           ·
            refine wc_region (wl_ok (r_move (v := (.pointer (some ⟨sb, 0, none⟩))) rfl) ?_)
            obtain ⟨l165a, l165b, l165c⟩ := h.lendS 1 (C := (.blk sb [u64, u66, (.bool (y62.2.bad))] : Chunk)) rfl trivial
            obtain ⟨y166, e167, hs⟩ := o_bind hs
            refine w_call fnOk65 rfl rfl (words_reader_expr_c N _ _ l165c (hT.goK h.keep hG) sb y62.2 u64 u66 l165a l165b (h.rdC 1 26 rfl rfl) (h.rdC 1 27 rfl rfl) (h.aboveG hT hG 1 (C := (.blk sb [u64, u66, (.bool (y62.2.bad))] : Chunk)) rfl) _ e167) ?_
            rintro _ w ⟨k174, u168, u170, u172, rfl, h175, h176, g169, g171, g173⟩
            refine ⟨_, rfl, ?_⟩
            replace h := h.back 1 (C := (.blk sb [u64, u66, (.bool (y62.2.bad))] : Chunk)) (C' := (.blk sb [u170, u172, (.bool (y166.2.bad))] : Chunk)) rfl trivial h175 k174 h176
            replace h := h.knowRd 48 (backRd g169)
            replace h := h.knowRd 49 (backRd g171).up
            replace h := h.knowRd 50 (backRd g173).up.up
            refine wl_ok (r_build (pv := [(0, (.int .i64 (5))), (2, u168)]) (out := [(.int .i64 (5)), (.int .i64 (0)), u168, (.slice none 0 0), (.slice none 0 0), (.slice none 0 0)]) Struct65 rfl ⟨0, 1, [(.int .i64 (5))], rfl, rfl, rfl, Nat.le_of_ble_eq_true rfl, ⟨2, 1, [u168], rfl, (toList_of_one (h.rdAt 48 rfl).one), rfl, Nat.le_of_ble_eq_true rfl, rfl⟩⟩) (w_stN (vs := [(.int .i64 (5)), (.int .i64 (0)), u168, (.slice none 0 0), (.slice none 0 0), (.slice none 0 0)]) h 18 [(.int .i64 (5)), (.int .i64 (0)), u168, (.slice none 0 0), (.slice none 0 0), (.slice none 0 0)] rfl Many65 rfl rfl rfl rfl rfl (ones_cons rfl (ones_cons rfl (ones_cons (h.rdAt 48 rfl).one (ones_cons rfl (ones_cons rfl (ones_cons rfl ones_nil)))))) fun w h => wl_nil (inBlock_normal (then_loop ?_)))
            replace h := h.copyR 49 19 rfl
            replace h := h.copyR 50 20 rfl
            replace h := h.copyR 48 21 rfl
            replace h := h.knowRd 22 (Rd2.nil (R := rTok))
            replace h := h.knowRd 23 (Rd2.nil (R := rStmt))
            replace h := h.knowRd 24 (Rd2.nil (R := rStmt))
            exact jend (u170, y166.2.w, u172, y166.2.params, y166.2.bad, 5, 0, u168, y166.1, (.slice none 0 0), [], (.slice none 0 0), [], (.slice none 0 0), []) ⟨h.cn _, hs⟩
           ·
            refine wc_seq (wc_region (wl_ok (r_eqls rfl rfl) (wl_ok (r_assign (v := (.bool (decide ((y62.1 : Str) = [105, 102])))) rfl) (wl_nil (then_normal (wc_ifb hs rfl (fun c177 hs => ?_) (fun c177 hs => ?_)))))))
            ·
             refine wc_seq (wc_region (wl_ok (r_move (v := (.pointer (some ⟨sb, 0, none⟩))) rfl) ?_))
             obtain ⟨l178a, l178b, l178c⟩ := h.lendS 1 (C := (.blk sb [u64, u66, (.bool (y62.2.bad))] : Chunk)) rfl trivial
             obtain ⟨y179, e180, hs⟩ := o_bind hs
             refine w_call fnOk65 rfl rfl (words_reader_expr_c N _ _ l178c (hT.goK h.keep hG) sb y62.2 u64 u66 l178a l178b (h.rdC 1 26 rfl rfl) (h.rdC 1 27 rfl rfl) (h.aboveG hT hG 1 (C := (.blk sb [u64, u66, (.bool (y62.2.bad))] : Chunk)) rfl) _ e180) ?_
             rintro _ w ⟨k187, u181, u183, u185, rfl, h188, h189, g182, g184, g186⟩
             refine ⟨_, rfl, ?_⟩
             replace h := h.back 1 (C := (.blk sb [u64, u66, (.bool (y62.2.bad))] : Chunk)) (C' := (.blk sb [u183, u185, (.bool (y179.2.bad))] : Chunk)) rfl trivial h188 k187 h189
             replace h := h.knowRd 51 (backRd g182)
             replace h := h.knowRd 52 (backRd g184).up
             replace h := h.knowRd 53 (backRd g186).up.up
             refine wl_ok (r_build (pv := [(0, (.int .i64 (6))), (2, u181)]) (out := [(.int .i64 (6)), (.int .i64 (0)), u181, (.slice none 0 0), (.slice none 0 0), (.slice none 0 0)]) Struct65 rfl ⟨0, 1, [(.int .i64 (6))], rfl, rfl, rfl, Nat.le_of_ble_eq_true rfl, ⟨2, 1, [u181], rfl, (toList_of_one (h.rdAt 51 rfl).one), rfl, Nat.le_of_ble_eq_true rfl, rfl⟩⟩) (w_stN (vs := [(.int .i64 (6)), (.int .i64 (0)), u181, (.slice none 0 0), (.slice none 0 0), (.slice none 0 0)]) h 18 [(.int .i64 (6)), (.int .i64 (0)), u181, (.slice none 0 0), (.slice none 0 0), (.slice none 0 0)] rfl Many65 rfl rfl rfl rfl rfl (ones_cons rfl (ones_cons rfl (ones_cons (h.rdAt 51 rfl).one (ones_cons rfl (ones_cons rfl (ones_cons rfl ones_nil)))))) fun w h => wl_nil (then_normal (wc_seq (wc_region (wl_ok (r_move (v := (.pointer (some ⟨sb, 0, none⟩))) rfl) (wl_ok (r_move (v := (.int .i64 (a))) rfl) ?_))))))
             obtain ⟨a190, hs⟩ := o_grd hs
             refine wl_ok (r_add rfl rfl a190) ?_
             obtain ⟨l191a, l191b, l191c⟩ := h.lendS 1 (C := (.blk sb [u183, u185, (.bool (y179.2.bad))] : Chunk)) rfl trivial
             obtain ⟨y192, e193, hs⟩ := o_bind hs
             refine w_call fnOk26 rfl rfl (ih _ _ l191c (hT.goK h.keep hG) sb y179.2 u183 u185 l191a l191b (h.rdC 1 52 rfl rfl) (h.rdC 1 53 rfl rfl) (a + 1) (h.aboveG hT hG 1 (C := (.blk sb [u183, u185, (.bool (y179.2.bad))] : Chunk)) rfl) _ e193) ?_
             rintro _ w ⟨k200, u194, u196, u198, rfl, h201, h202, g195, g197, g199⟩
             refine ⟨_, rfl, ?_⟩
             replace h := h.back 1 (C := (.blk sb [u183, u185, (.bool (y179.2.bad))] : Chunk)) (C' := (.blk sb [u196, u198, (.bool (y192.2.bad))] : Chunk)) rfl trivial h201 k200 h202
             replace h := h.knowRd 54 (backRd g195)
             replace h := h.knowRd 55 (backRd g197).up
             replace h := h.knowRd 56 (backRd g199).up.up
             refine wl_ok (r_fieldAddr Fld65x4 rfl) (w_st1 h 18 [(.int .i64 (6)), (.int .i64 (0)), u181, (.slice none 0 0), u194, (.slice none 0 0)] rfl One41 rfl rfl rfl rfl (h.rdAt 54 rfl).one fun w h => wl_nil (then_normal (wc_region (wl_ok (r_move (v := (.pointer (some ⟨sb, 0, none⟩))) rfl) (wl_ok (r_move (v := (.int .i64 (a))) rfl) ?_)))))
             obtain ⟨a203, hs⟩ := o_grd hs
             refine wl_ok (r_add rfl rfl a203) ?_
             obtain ⟨l204a, l204b, l204c⟩ := h.lendS 1 (C := (.blk sb [u196, u198, (.bool (y192.2.bad))] : Chunk)) rfl trivial
             obtain ⟨y205, e206, hs⟩ := o_bind hs
             refine w_call fnOk26 rfl rfl (ih _ _ l204c (hT.goK h.keep hG) sb y192.2 u196 u198 l204a l204b (h.rdC 1 55 rfl rfl) (h.rdC 1 56 rfl rfl) (a + 1) (h.aboveG hT hG 1 (C := (.blk sb [u196, u198, (.bool (y192.2.bad))] : Chunk)) rfl) _ e206) ?_
             rintro _ w ⟨k213, u207, u209, u211, rfl, h214, h215, g208, g210, g212⟩
             refine ⟨_, rfl, ?_⟩
             replace h := h.back 1 (C := (.blk sb [u196, u198, (.bool (y192.2.bad))] : Chunk)) (C' := (.blk sb [u209, u211, (.bool (y205.2.bad))] : Chunk)) rfl trivial h214 k213 h215
             replace h := h.knowRd 57 (backRd g208)
             replace h := h.knowRd 58 (backRd g210).up
             replace h := h.knowRd 59 (backRd g212).up.up
             refine wl_ok (r_fieldAddr Fld65x5 rfl) (w_st1 h 18 [(.int .i64 (6)), (.int .i64 (0)), u181, (.slice none 0 0), u194, u207] rfl One41 rfl rfl rfl rfl (h.rdAt 57 rfl).one fun w h => wl_nil (inBlock_normal (then_loop ?_)))
             replace h := h.copyR 58 19 rfl
             replace h := h.copyR 59 20 rfl
             replace h := h.copyR 51 21 rfl
             replace h := h.knowRd 22 (Rd2.nil (R := rTok))
             replace h := h.copyR 54 23 rfl
             replace h := h.copyR 57 24 rfl
             exact jend (u209, y205.2.w, u211, y205.2.params, y205.2.bad, 6, 0, u181, y179.1, (.slice none 0 0), [], u194, y192.1, u207, y205.1) ⟨h.cn _, hs⟩
            ·
             refine wc_seq (wc_region (wl_ok (r_eqls rfl rfl) (wl_ok (r_assign (v := (.bool (decide ((y62.1 : Str) = [119, 104, 105, 108, 101])))) rfl) (wl_nil (then_normal (wc_ifb hs rfl (fun c216 hs => ?_) (fun c216 hs => ?_)))))))
             ·
              refine wc_seq (wc_region (wl_ok (r_move (v := (.pointer (some ⟨sb, 0, none⟩))) rfl) ?_))
              obtain ⟨l217a, l217b, l217c⟩ := h.lendS 1 (C := (.blk sb [u64, u66, (.bool (y62.2.bad))] : Chunk)) rfl trivial
              obtain ⟨y218, e219, hs⟩ := o_bind hs
              refine w_call fnOk65 rfl rfl (words_reader_expr_c N _ _ l217c (hT.goK h.keep hG) sb y62.2 u64 u66 l217a l217b (h.rdC 1 26 rfl rfl) (h.rdC 1 27 rfl rfl) (h.aboveG hT hG 1 (C := (.blk sb [u64, u66, (.bool (y62.2.bad))] : Chunk)) rfl) _ e219) ?_
              rintro _ w ⟨k226, u220, u222, u224, rfl, h227, h228, g221, g223, g225⟩
              refine ⟨_, rfl, ?_⟩
              replace h := h.back 1 (C := (.blk sb [u64, u66, (.bool (y62.2.bad))] : Chunk)) (C' := (.blk sb [u222, u224, (.bool (y218.2.bad))] : Chunk)) rfl trivial h227 k226 h228
              replace h := h.knowRd 60 (backRd g221)
              replace h := h.knowRd 61 (backRd g223).up
              replace h := h.knowRd 62 (backRd g225).up.up
              refine wl_ok (r_build (pv := [(0, (.int .i64 (7))), (2, u220)]) (out := [(.int .i64 (7)), (.int .i64 (0)), u220, (.slice none 0 0), (.slice none 0 0), (.slice none 0 0)]) Struct65 rfl ⟨0, 1, [(.int .i64 (7))], rfl, rfl, rfl, Nat.le_of_ble_eq_true rfl, ⟨2, 1, [u220], rfl, (toList_of_one (h.rdAt 60 rfl).one), rfl, Nat.le_of_ble_eq_true rfl, rfl⟩⟩) (w_stN (vs := [(.int .i64 (7)), (.int .i64 (0)), u220, (.slice none 0 0), (.slice none 0 0), (.slice none 0 0)]) h 18 [(.int .i64 (7)), (.int .i64 (0)), u220, (.slice none 0 0), (.slice none 0 0), (.slice none 0 0)] rfl Many65 rfl rfl rfl rfl rfl (ones_cons rfl (ones_cons rfl (ones_cons (h.rdAt 60 rfl).one (ones_cons rfl (ones_cons rfl (ones_cons rfl ones_nil)))))) fun w h => wl_nil (then_normal (wc_region (wl_ok (r_move (v := (.pointer (some ⟨sb, 0, none⟩))) rfl) (wl_ok (r_move (v := (.int .i64 (a))) rfl) ?_)))))
              obtain ⟨a229, hs⟩ := o_grd hs
              refine wl_ok (r_add rfl rfl a229) ?_
              obtain ⟨l230a, l230b, l230c⟩ := h.lendS 1 (C := (.blk sb [u222, u224, (.bool (y218.2.bad))] : Chunk)) rfl trivial
              obtain ⟨y231, e232, hs⟩ := o_bind hs
              refine w_call fnOk26 rfl rfl (ih _ _ l230c (hT.goK h.keep hG) sb y218.2 u222 u224 l230a l230b (h.rdC 1 61 rfl rfl) (h.rdC 1 62 rfl rfl) (a + 1) (h.aboveG hT hG 1 (C := (.blk sb [u222, u224, (.bool (y218.2.bad))] : Chunk)) rfl) _ e232) ?_
              rintro _ w ⟨k239, u233, u235, u237, rfl, h240, h241, g234, g236, g238⟩
              refine ⟨_, rfl, ?_⟩
              replace h := h.back 1 (C := (.blk sb [u222, u224, (.bool (y218.2.bad))] : Chunk)) (C' := (.blk sb [u235, u237, (.bool (y231.2.bad))] : Chunk)) rfl trivial h240 k239 h241
              replace h := h.knowRd 63 (backRd g234)
              replace h := h.knowRd 64 (backRd g236).up
              replace h := h.knowRd 65 (backRd g238).up.up
              refine wl_ok (r_fieldAddr Fld65x4 rfl) (w_st1 h 18 [(.int .i64 (7)), (.int .i64 (0)), u220, (.slice none 0 0), u233, (.slice none 0 0)] rfl One41 rfl rfl rfl rfl (h.rdAt 63 rfl).one fun w h => wl_nil (inBlock_normal (then_loop ?_)))
              replace h := h.copyR 64 19 rfl
              replace h := h.copyR 65 20 rfl
              replace h := h.copyR 60 21 rfl
              replace h := h.knowRd 22 (Rd2.nil (R := rTok))
              replace h := h.copyR 63 23 rfl
              replace h := h.knowRd 24 (Rd2.nil (R := rStmt))
              exact jend (u235, y231.2.w, u237, y231.2.params, y231.2.bad, 7, 0, u220, y218.1, (.slice none 0 0), [], u233, y231.1, (.slice none 0 0), []) ⟨h.cn _, hs⟩
             ·
              refine wc_seq (wc_region (wl_ok (r_eqls rfl rfl) (wl_ok (r_assign (v := (.bool (decide ((y62.1 : Str) = [114, 101, 116, 117, 114, 110])))) rfl) (wl_nil (then_normal (wc_ifb hs rfl (fun c242 hs => ?_) (fun c242 hs => ?_)))))))
              ·
               refine wc_region (wl_ok (r_move (v := (.pointer (some ⟨sb, 0, none⟩))) rfl) ?_)
               obtain ⟨l243a, l243b, l243c⟩ := h.lendS 1 (C := (.blk sb [u64, u66, (.bool (y62.2.bad))] : Chunk)) rfl trivial
               obtain ⟨y244, e245, hs⟩ := o_bind hs
               refine w_call fnOk65 rfl rfl (words_reader_expr_c N _ _ l243c (hT.goK h.keep hG) sb y62.2 u64 u66 l243a l243b (h.rdC 1 26 rfl rfl) (h.rdC 1 27 rfl rfl) (h.aboveG hT hG 1 (C := (.blk sb [u64, u66, (.bool (y62.2.bad))] : Chunk)) rfl) _ e245) ?_
               rintro _ w ⟨k252, u246, u248, u250, rfl, h253, h254, g247, g249, g251⟩
               refine ⟨_, rfl, ?_⟩
               replace h := h.back 1 (C := (.blk sb [u64, u66, (.bool (y62.2.bad))] : Chunk)) (C' := (.blk sb [u248, u250, (.bool (y244.2.bad))] : Chunk)) rfl trivial h253 k252 h254
               replace h := h.knowRd 66 (backRd g247)
               replace h := h.knowRd 67 (backRd g249).up
               replace h := h.knowRd 68 (backRd g251).up.up
               refine wl_ok (r_build (pv := [(0, (.int .i64 (8))), (2, u246)]) (out := [(.int .i64 (8)), (.int .i64 (0)), u246, (.slice none 0 0), (.slice none 0 0), (.slice none 0 0)]) Struct65 rfl ⟨0, 1, [(.int .i64 (8))], rfl, rfl, rfl, Nat.le_of_ble_eq_true rfl, ⟨2, 1, [u246], rfl, (toList_of_one (h.rdAt 66 rfl).one), rfl, Nat.le_of_ble_eq_true rfl, rfl⟩⟩) (w_stN (vs := [(.int .i64 (8)), (.int .i64 (0)), u246, (.slice none 0 0), (.slice none 0 0), (.slice none 0 0)]) h 18 [(.int .i64 (8)), (.int .i64 (0)), u246, (.slice none 0 0), (.slice none 0 0), (.slice none 0 0)] rfl Many65 rfl rfl rfl rfl rfl (ones_cons rfl (ones_cons rfl (ones_cons (h.rdAt 66 rfl).one (ones_cons rfl (ones_cons rfl (ones_cons rfl ones_nil)))))) fun w h => wl_nil (inBlock_normal (then_loop ?_)))
               replace h := h.copyR 67 19 rfl
               replace h := h.copyR 68 20 rfl
               replace h := h.copyR 66 21 rfl
               replace h := h.knowRd 22 (Rd2.nil (R := rTok))
               replace h := h.knowRd 23 (Rd2.nil (R := rStmt))
               replace h := h.knowRd 24 (Rd2.nil (R := rStmt))
               exact jend (u248, y244.2.w, u250, y244.2.params, y244.2.bad, 8, 0, u246, y244.1, (.slice none 0 0), [], (.slice none 0 0), [], (.slice none 0 0), []) ⟨h.cn _, hs⟩
              ·
               refine wc_region (wl_ok (r_move (v := (.pointer (some ⟨sb, 0, none⟩))) rfl) (wl_ok (r_nilCheck rfl) (wl_ok (r_fieldAddr Fld54x2 rfl) (w_st1 h 1 [u64, u66, (.bool (true))] rfl One4 rfl rfl rfl rfl rfl fun w h => wl_nil (inBlock_normal (then_loop ?_))))))
               replace h := h.copyR 26 19 rfl
               replace h := h.copyR 27 20 rfl
               replace h := h.knowRd 21 (Rd2.nil (R := rTok))
               replace h := h.knowRd 22 (Rd2.nil (R := rTok))
               replace h := h.knowRd 23 (Rd2.nil (R := rStmt))
               replace h := h.knowRd 24 (Rd2.nil (R := rStmt))
               exact jend (u64, y62.2.w, u66, y62.2.params, true, 0, 0, (.slice none 0 0), [], (.slice none 0 0), [], (.slice none 0 0), [], (.slice none 0 0), []) ⟨h.cn _, hs⟩
    ·
     refine wc_exit (then_exit (then_exit (inBlock_eq (then_normal (wc_seq (wc_region (wl_ok (r_assign (v := (.slice none 0 0)) rfl) (wl_nil (then_normal (wc_ret (fin1 (v := (.slice none 0 0)) Tryz.results26 rfl ?_)))))))))))
     obtain rfl := Option.some.inj hs
     subst hK0
     obtain ⟨o1, o2, o3⟩ := h.outS 1 (C := (.blk sb [v29, v31, (.bool (y33))] : Chunk)) rfl trivial
     exact ⟨o2, .slice none 0 0, v29, v31, rfl, o1, o3, Rd2.nil, h.outRdC 1 16 rfl rfl, h.outRdC 1 17 rfl rfl⟩
  ·
   refine wc_seq (wc_region (wl_ok (r_move (v := (.pointer (some ⟨sb, 0, none⟩))) rfl) ?_))
   obtain ⟨l255a, l255b, l255c⟩ := h.lendS 1 (C := (.blk sb [vs0, vs1, (.bool (sx.bad))] : Chunk)) rfl trivial
   obtain ⟨y256, e257, hs⟩ := o_bind hs
   refine w_call fnOk24 rfl rfl (words_reader_next_c _ _ l255c sb sx vs0 vs1 l255a l255b (h.rdC 1 2 rfl rfl) (h.rdC 1 3 rfl rfl) _ e257) ?_
   rintro _ w ⟨k262, u258, u260, rfl, h263, h264, g259, g261⟩
   refine ⟨_, rfl, ?_⟩
   replace h := h.back 1 (C := (.blk sb [vs0, vs1, (.bool (sx.bad))] : Chunk)) (C' := (.blk sb [u258, u260, (.bool (y256.2.bad))] : Chunk)) rfl trivial h263 k262 h264
   replace h := h.knowRd 69 (backRd g259)
   replace h := h.knowRd 70 (backRd g261).up
   refine wl_ok (r_neqs rfl rfl) (wl_ok (r_move (v := (.bool (decide ((y256.1 : Str) ≠ [123])))) rfl) (wl_gd0 rfl rfl (fun q => r_move (v := (.int .i64 (a))) rfl) (wl_gd0 rfl rfl (fun q => r_gtr (gvt q) rfl) (wl_ok (r_por rfl rfl evc) (wl_nil (then_normal (wc_ifb hs rfl (fun c265 hs => ?_) (fun c265 hs => ?_))))))))
   ·
    refine wc_region (wl_ok (r_move (v := (.pointer (some ⟨sb, 0, none⟩))) rfl) (wl_ok (r_nilCheck rfl) (wl_ok (r_fieldAddr Fld54x2 rfl) (w_st1 h 1 [u258, u260, (.bool (true))] rfl One4 rfl rfl rfl rfl rfl fun w h => wl_nil (then_loop ?_)))))
    replace h := h.copyR 69 4 rfl
    replace h := h.copyR 70 5 rfl
    exact jend (u258, y256.2.w, u260, y256.2.params, true) ⟨h.cn _, hs⟩
   ·
    refine wc_skip (then_loop ?_)
    replace h := h.copyR 69 4 rfl
    replace h := h.copyR 70 5 rfl
    exact jend (u258, y256.2.w, u260, y256.2.params, y256.2.bad) ⟨h.cn _, hs⟩
def words_Parse_j3 (x36 : List Fun) (x117 : Bool) : Option (List Fun × Int) :=
  bif x117 then some ([], 1) else some (x36, 0)
def words_Parse_b4 (N : Nat) (s : List Fun × List Str × List Int × Bool) (nx46 : List Fun × List Str × List Int × Bool → Option (List Fun × Int)) : Option (List Fun × Int) :=
  match s with | (x36, y38, y40, y41) => bif (decide ((0 : Int) < (y38.length : Int)) && (!y41)) then (words_reader_next (⟨y38, y40, y41⟩ : Reader)).bind fun y51 => bif decide ((y51.1 : Str) ≠ [102, 117, 110]) then some ([], 1) else (words_reader_next y51.2).bind fun y63 => (words_reader_number y63.2 y63.1 []).bind fun y73 => (words_reader_next y73.2).bind fun y83 => (words_reader_number y83.2 y83.1 []).bind fun y93 => (words_reader_block N y93.2 1).bind fun y103 => grd (Room 40 x36 [(⟨y73.1, y93.1, y103.1⟩ : Fun)]) (nx46 ((x36 ++ [(⟨y73.1, y93.1, y103.1⟩ : Fun)]), y103.2.w, y103.2.params, y103.2.bad)) else bif y41 then words_Parse_j3 x36 true else (source_Check N x36).bind fun y120 => words_Parse_j3 x36 (decide ((y120 : Int) ≠ 0))
def words_Parse (N : Nat) (a : Str) : Option (List Fun × Int) :=
  bif decide ((60000 : Int) < (a.length : Int)) then some ([], 2) else (splitS a [32]).bind fun y2 => (words_heads y2).bind fun y7 => again (words_Parse_b4 N) N ([], y2, y7, false)
theorem words_Parse_c (N : Nat) (w0 : World) (M : BS) (hM : ∀ b, M b → b < w0.heap.size) (hT : Tabs Tryz.prog 5 w0) (a : Str) (r : List Fun × Int) (hs : words_Parse N a = some r) :
    Calls Tryz.prog 6 #[(strV a)] w0 (fun e w' => Grow w0 w' ∧ ∃ u0, e = .returned (.tuple #[u0, .int .i64 r.2]) ∧ OwnSl rFun 43 w' M u0 r.1 ∧ (∀ b, ob u0 b → w0.heap.size ≤ b)) := by
 refine calls_start (args := [(strV a)]) Tryz.func6 rfl Tryz.ntmps6 (Nat.le_of_ble_eq_true rfl) ?_
 have h := SH.init hM
 refine wc_seq (wc_region (wl_ok (r_assign (v := (.slice none 0 0)) rfl) (wl_ok (r_assign (v := (.int .i64 (0))) rfl) (wl_nil (then_normal (wc_seq (wc_seq (wc_region (wl_ok (r_move (v := (strV a)) rfl) (wl_ok (r_lenS Tryz.underlying9 rfl) (wl_ok (r_gtr rfl rfl) (wl_nil (then_normal (wc_ifb hs rfl (fun c1 hs => ?_) (fun c1 hs => ?_)))))))))))))))
 ·
  refine wc_seq (wc_region (wl_ok (r_assign (v := (.slice none 0 0)) rfl) (wl_ok (r_assign (v := (.int .i64 (2))) rfl) (wl_nil (then_normal (wc_ret (then_ret (fin2 (v1 := (.slice none 0 0)) (v2 := (.int .i64 (2))) Tryz.results6 rfl rfl ?_))))))))
  obtain rfl := Option.some.inj hs
  exact ⟨h.grown, _, rfl, OwnSl.nil, fresh_nil⟩
 ·
  refine wc_skip (then_normal (wc_seq (wc_region (wl_ok (r_move (v := (strV a)) rfl) ?_))))
  obtain ⟨y2, e3, hs⟩ := o_bind hs
  refine w_call fnOk22 rfl rfl (strings_Split_c _ _ h.lt (hT.go h.keep) a [32] _ e3) ?_
  rintro _ w ⟨k6, u4, rfl, g5⟩
  refine ⟨_, rfl, ?_⟩
  replace h := h.gotRd 1 k6 g5
  refine wl_ok (r_assign (v := u4) rfl) (wl_nil (then_normal (wc_seq (wc_region (wl_ok (r_move (v := u4) rfl) (wl_ok (r_move (v := u4) rfl) ?_))))))
  obtain ⟨y7, e8, hs⟩ := o_bind hs
  refine w_call fnOk23 rfl rfl (words_heads_c _ _ h.lt (hT.go h.keep) u4 y2 (h.rdS 1 rfl) _ e8) ?_
  rintro _ w ⟨k12, u9, rfl, g10, g11⟩
  refine ⟨_, rfl, ?_⟩
  replace h := h.gotOwn 2 k12 g10 g11
  refine wl_ok (r_build (pv := [(0, u4), (1, u9)]) (out := [u4, u9, (.bool (false))]) Struct54 rfl ⟨0, 1, [u4], rfl, (toList_of_one (h.rdAt 1 rfl).one), rfl, Nat.le_of_ble_eq_true rfl, ⟨1, 1, [u9], rfl, (toList_of_one (h.ownAt 2 rfl).one), rfl, Nat.le_of_ble_eq_true rfl, rfl⟩⟩) (w_box (cs := [u4, u9, (.bool (false))]) h 3 rfl rfl fun w b13 h => wl_ok (r_assign (v := (.pointer (some ⟨b13, 0, none⟩))) rfl) (wl_nil (then_normal (wc_seq (wc_region (wl_ok (r_assign (v := (.slice none 0 0)) rfl) (wl_nil (then_normal (wc_seq (wc_block ?_))))))))))
  replace h := h.nilO (R := rFun) (E := 43) 13
  replace h := h.copyR 1 14 rfl
  replace h := h.freeze 2 rfl
  replace h := h.copyR 2 15 rfl
  refine wc_lp (σ := Nat × Value × List Fun × Value × List Str × Value × List Int × Bool) (inl [2, 3, 6, 7, 18, 19, 20, 21, 22, 23, 24, 25, 26, 27, 28, 29, 30, 31, 32, 33, 34, 35, 36, 37, 38, 39, 40, 41, 42, 43, 44, 45, 46, 47, 48, 49, 50]) (fun ⟨m45, v35, x36, v37, y38, v39, y40, y41⟩ => [(6, v35)]) (fun ⟨m45, v35, x36, v37, y38, v39, y40, y41⟩ w => SH w0 M BE w (hset [(3, .blk b13 [v37, v39, (.bool (y41))]), (13, .own rFun 43 v35 x36), (14, .rd rStr v37 y38), (15, .rd rInt v39 y40)]) ∧ again (words_Parse_b4 N) m45 (x36, y38, y40, y41) = some r) (fun ⟨m45, v35, x36, v37, y38, v39, y40, y41⟩ => m45) ⟨N, (.slice none 0 0), [], u4, y2, u9, y7, false⟩ ⟨rfl, trivial⟩ ?_ ?_
  ·
   exact ⟨h.cn _, hs⟩
  ·
   rintro ⟨m45, v35, x36, v37, y38, v39, y40, y41⟩ w junk ⟨h, hs⟩
   obtain ⟨m451, m45e, m45h⟩ := again_pos hs
   subst m45e
   replace hs := m45h
   generalize hnx46 : again (words_Parse_b4 N) m451 = nx46 at hs
   refine wc_seq (wc_seq (wc_region (wl_ok (r_move (v := (.pointer (some ⟨b13, 0, none⟩))) rfl) (wl_ok (r_nilCheck rfl) (wl_ok (r_fieldAddr Fld54x0 rfl) (wl_ok (r_ldB h 3 rfl One45 rfl rfl) (wl_ok (r_len SliceOf45 rfl (h.rdS 14 rfl)) (wl_ok (r_gtr rfl rfl) (wl_ok (r_move (v := (.bool (decide ((0 : Int) < (y38.length : Int))))) rfl) (wl_gd0 rfl rfl (fun q => r_move (v := (.pointer (some ⟨b13, 0, none⟩))) rfl) (wl_gd0 rfl rfl (fun q => r_nilCheck (gvt q)) (wl_gd0 rfl rfl (fun q => r_fieldAddr Fld54x2 (gvt q)) (wl_gd0 rfl rfl (fun q => r_ldB h 3 rfl One4 (gvt q) rfl) (wl_gd0 rfl rfl (fun q => r_notb (gvt q)) (wl_ok (r_pand rfl rfl evc) (wl_nil (then_normal (wc_ifb hs rfl (fun c49 hs => ?_) (fun c49 hs => ?_)))))))))))))))))))
   ·
    refine wc_skip (then_normal (wc_block (wc_seq (wc_seq (wc_region (wl_ok (r_move (v := (.pointer (some ⟨b13, 0, none⟩))) rfl) ?_))))))
    obtain ⟨l50a, l50b, l50c⟩ := h.lendS 3 (C := (.blk b13 [v37, v39, (.bool (y41))] : Chunk)) rfl trivial
    obtain ⟨y51, e52, hs⟩ := o_bind hs
    refine w_call fnOk24 rfl rfl (words_reader_next_c _ _ l50c b13 (⟨y38, y40, y41⟩ : Reader) v37 v39 l50a l50b (h.rdC 3 14 rfl rfl) (h.rdC 3 15 rfl rfl) _ e52) ?_
    rintro _ w ⟨k57, u53, u55, rfl, h58, h59, g54, g56⟩
    refine ⟨_, rfl, ?_⟩
    replace h := h.back 3 (C := (.blk b13 [v37, v39, (.bool (y41))] : Chunk)) (C' := (.blk b13 [u53, u55, (.bool (y51.2.bad))] : Chunk)) rfl trivial h58 k57 h59
    replace h := h.knowRd 16 (backRd g54)
    replace h := h.knowRd 17 (backRd g56).up
    refine wl_ok (r_neqs rfl rfl) (wl_nil (then_normal (wc_ifb hs rfl (fun c60 hs => ?_) (fun c60 hs => ?_))))
    ·
     refine wc_seq (wc_region (wl_ok (r_assign (v := (.slice none 0 0)) rfl) (wl_ok (r_assign (v := (.int .i64 (1))) rfl) (wl_nil (then_normal (wc_ret (then_ret (inBlock_ret (then_ret (inBlock_ret (then_ret (fin2 (v1 := (.slice none 0 0)) (v2 := (.int .i64 (1))) Tryz.results6 rfl rfl ?_))))))))))))
     obtain rfl := Option.some.inj hs
     exact ⟨h.grown, _, rfl, OwnSl.nil, fresh_nil⟩
    ·
     refine wc_skip (then_normal (wc_seq (wc_region (w_allocN h 18 Many43 fun w b61 h => wl_nil (then_normal (wc_seq (wc_region (wl_ok (r_move (v := (.pointer (some ⟨b13, 0, none⟩))) rfl) (wl_ok (r_move (v := (.pointer (some ⟨b13, 0, none⟩))) rfl) ?_)))))))))
     obtain ⟨l62a, l62b, l62c⟩ := h.lendS 3 (C := (.blk b13 [u53, u55, (.bool (y51.2.bad))] : Chunk)) rfl trivial
     obtain ⟨y63, e64, hs⟩ := o_bind hs
     refine w_call fnOk24 rfl rfl (words_reader_next_c _ _ l62c b13 y51.2 u53 u55 l62a l62b (h.rdC 3 16 rfl rfl) (h.rdC 3 17 rfl rfl) _ e64) ?_
     rintro _ w ⟨k69, u65, u67, rfl, h70, h71, g66, g68⟩
     refine ⟨_, rfl, ?_⟩
     replace h := h.back 3 (C := (.blk b13 [u53, u55, (.bool (y51.2.bad))] : Chunk)) (C' := (.blk b13 [u65, u67, (.bool (y63.2.bad))] : Chunk)) rfl trivial h70 k69 h71
     replace h := h.knowRd 19 (backRd g66)
     replace h := h.knowRd 20 (backRd g68).up
     obtain ⟨l72a, l72b, l72c⟩ := h.lendS 3 (C := (.blk b13 [u65, u67, (.bool (y63.2.bad))] : Chunk)) rfl trivial
     obtain ⟨y73, e74, hs⟩ := o_bind hs
     refine w_call fnOk25 rfl rfl (words_reader_number_c _ _ l72c (hT.go h.keep) b13 y63.2 u65 u67 l72a l72b (h.rdC 3 19 rfl rfl) (h.rdC 3 20 rfl rfl) y63.1 [] (h.aboveG hT (fun _ h => h.elim) 3 (C := (.blk b13 [u65, u67, (.bool (y63.2.bad))] : Chunk)) rfl) _ e74) ?_
     rintro _ w ⟨k79, u75, u77, rfl, h80, h81, g76, g78⟩
     refine ⟨_, rfl, ?_⟩
     replace h := h.back 3 (C := (.blk b13 [u65, u67, (.bool (y63.2.bad))] : Chunk)) (C' := (.blk b13 [u75, u77, (.bool (y73.2.bad))] : Chunk)) rfl trivial h80 k79 h81
     replace h := h.knowRd 21 (backRd g76)
     replace h := h.knowRd 22 (backRd g78).up
     refine wl_ok (r_fieldAddr Fld43x0 rfl) (w_st1 h 18 [(.int .i64 (y73.1)), (.int .i64 (0)), (.slice none 0 0)] rfl One3 rfl rfl rfl rfl rfl fun w h => wl_nil (then_normal (wc_seq (wc_region (wl_ok (r_move (v := (.pointer (some ⟨b13, 0, none⟩))) rfl) (wl_ok (r_move (v := (.pointer (some ⟨b13, 0, none⟩))) rfl) ?_))))))
     obtain ⟨l82a, l82b, l82c⟩ := h.lendS 3 (C := (.blk b13 [u75, u77, (.bool (y73.2.bad))] : Chunk)) rfl trivial
     obtain ⟨y83, e84, hs⟩ := o_bind hs
     refine w_call fnOk24 rfl rfl (words_reader_next_c _ _ l82c b13 y73.2 u75 u77 l82a l82b (h.rdC 3 21 rfl rfl) (h.rdC 3 22 rfl rfl) _ e84) ?_
     rintro _ w ⟨k89, u85, u87, rfl, h90, h91, g86, g88⟩
     refine ⟨_, rfl, ?_⟩
     replace h := h.back 3 (C := (.blk b13 [u75, u77, (.bool (y73.2.bad))] : Chunk)) (C' := (.blk b13 [u85, u87, (.bool (y83.2.bad))] : Chunk)) rfl trivial h90 k89 h91
     replace h := h.knowRd 23 (backRd g86)
     replace h := h.knowRd 24 (backRd g88).up
     obtain ⟨l92a, l92b, l92c⟩ := h.lendS 3 (C := (.blk b13 [u85, u87, (.bool (y83.2.bad))] : Chunk)) rfl trivial
     obtain ⟨y93, e94, hs⟩ := o_bind hs
     refine w_call fnOk25 rfl rfl (words_reader_number_c _ _ l92c (hT.go h.keep) b13 y83.2 u85 u87 l92a l92b (h.rdC 3 23 rfl rfl) (h.rdC 3 24 rfl rfl) y83.1 [] (h.aboveG hT (fun _ h => h.elim) 3 (C := (.blk b13 [u85, u87, (.bool (y83.2.bad))] : Chunk)) rfl) _ e94) ?_
     rintro _ w ⟨k99, u95, u97, rfl, h100, h101, g96, g98⟩
     refine ⟨_, rfl, ?_⟩
     replace h := h.back 3 (C := (.blk b13 [u85, u87, (.bool (y83.2.bad))] : Chunk)) (C' := (.blk b13 [u95, u97, (.bool (y93.2.bad))] : Chunk)) rfl trivial h100 k99 h101
     replace h := h.knowRd 25 (backRd g96)
     replace h := h.knowRd 26 (backRd g98).up
     refine wl_ok (r_fieldAddr Fld43x1 rfl) (w_st1 h 18 [(.int .i64 (y73.1)), (.int .i64 (y93.1)), (.slice none 0 0)] rfl One3 rfl rfl rfl rfl rfl fun w h => wl_nil (then_normal (wc_seq (wc_region (wl_ok (r_move (v := (.pointer (some ⟨b13, 0, none⟩))) rfl) ?_)))))
     obtain ⟨l102a, l102b, l102c⟩ := h.lendS 3 (C := (.blk b13 [u95, u97, (.bool (y93.2.bad))] : Chunk)) rfl trivial
     obtain ⟨y103, e104, hs⟩ := o_bind hs
     refine w_call fnOk26 rfl rfl (words_reader_block_c N _ _ l102c (hT.go h.keep) b13 y93.2 u95 u97 l102a l102b (h.rdC 3 25 rfl rfl) (h.rdC 3 26 rfl rfl) 1 (h.aboveG hT (fun _ h => h.elim) 3 (C := (.blk b13 [u95, u97, (.bool (y93.2.bad))] : Chunk)) rfl) _ e104) ?_
     rintro _ w ⟨k111, u105, u107, u109, rfl, h112, h113, g106, g108, g110⟩
     refine ⟨_, rfl, ?_⟩
     replace h := h.back 3 (C := (.blk b13 [u95, u97, (.bool (y93.2.bad))] : Chunk)) (C' := (.blk b13 [u107, u109, (.bool (y103.2.bad))] : Chunk)) rfl trivial h112 k111 h113
     replace h := h.knowRd 27 (backRd g106)
     replace h := h.knowRd 28 (backRd g108).up
     replace h := h.knowRd 29 (backRd g110).up.up
     refine wl_ok (r_fieldAddr Fld43x2 rfl) (w_st1 h 18 [(.int .i64 (y73.1)), (.int .i64 (y93.1)), u105] rfl One41 rfl rfl rfl rfl (h.rdAt 27 rfl).one fun w h => wl_nil (then_normal (wc_region (wl_ok (r_move (v := v35) rfl) (wl_ok (r_ldBN (vs := [(.int .i64 (y73.1)), (.int .i64 (y93.1)), u105]) h 18 rfl Many43 rfl rfl rfl) (w_bs (R := rFun) (vs := [(.agg #[(.int .i64 (y73.1)), (.int .i64 (y93.1)), u105])]) (xs := [(⟨y73.1, y93.1, y103.1⟩ : Fun)]) h 30 ElemOf22 rfl rfl rfl ⟨⟨_, rfl, (h.rdAt 27 rfl)⟩, trivial⟩ rfl fun w u114 h => ?_))))))
     obtain ⟨a115, hs⟩ := o_grd hs
     refine w_app (R := rFun) (m := [(⟨y73.1, y93.1, y103.1⟩ : Fun)]) h 13 rfl (h.ownS 30 rfl) ElemOf22 rfl rfl rfl a115.1 a115.2 fun w u116 h => wl_ok (r_assign (v := u116) rfl) (wl_nil (inBlock_normal (then_loop ?_)))
     replace h := h.copyR 28 14 rfl
     replace h := h.copyR 29 15 rfl
     subst hnx46
     exact lend ⟨m451, u116, (x36 ++ [(⟨y73.1, y93.1, y103.1⟩ : Fun)]), u107, y103.2.w, u109, y103.2.params, y103.2.bad⟩ ⟨h.cn _, hs⟩
   ·
    refine wc_exit (then_exit (then_exit (inBlock_eq (then_normal (wc_seq (wc_join (σ := Bool) (inl [51, 52, 53, 54, 55, 56, 57, 58, 59]) (fun x117 => [(59, (.bool (x117)))]) (fun x117 w => SH w0 M BE w (hset [(13, .own rFun 43 v35 x36)]) ∧ words_Parse_j3 x36 x117 = some r) ?_ ?_))))))
    ·
     rintro x117 w junk ⟨h, hs⟩
     refine wc_ifb hs rfl (fun c118 hs => ?_) (fun c118 hs => ?_)
     ·
      refine wc_seq (wc_region (wl_ok (r_assign (v := (.slice none 0 0)) rfl) (wl_ok (r_assign (v := (.int .i64 (1))) rfl) (wl_nil (then_normal (wc_ret (then_ret (fin2 (v1 := (.slice none 0 0)) (v2 := (.int .i64 (1))) Tryz.results6 rfl rfl ?_))))))))
      obtain rfl := Option.some.inj hs
      exact ⟨h.grown, _, rfl, OwnSl.nil, fresh_nil⟩
     ·
      refine wc_skip (then_normal (wc_seq (wc_region (wl_ok (r_move (v := v35) rfl) (wl_ok (r_assign (v := v35) rfl) (wl_ok (r_assign (v := (.int .i64 (0))) rfl) (wl_nil (then_normal (wc_ret (fin2 (v1 := v35) (v2 := (.int .i64 (0))) Tryz.results6 rfl rfl ?_))))))))))
      obtain rfl := Option.some.inj hs
      exact ⟨h.grown, _, rfl, (h.outOwn 13 rfl).1, (h.outOwn 13 rfl).2⟩
    ·
     refine wc_region (wl_ok (r_move (v := (.pointer (some ⟨b13, 0, none⟩))) rfl) (wl_ok (r_nilCheck rfl) (wl_ok (r_fieldAddr Fld54x2 rfl) (wl_ok (r_ldB h 3 rfl One4 rfl rfl) (wl_ok (r_move (v := (.bool (y41))) rfl) (c_split (b := y41) hs (fun c119 hs => ?_) (fun c119 hs => ?_)))))))
     ·
      refine wl_off (b' := true) rfl (congrArg Value.bool c119) rfl (wl_off (b' := true) rfl (congrArg Value.bool c119) rfl (wl_off (b' := true) rfl (congrArg Value.bool c119) rfl (wl_ok (r_pick (b := true) (v := (.bool (true))) (congrArg Value.bool c119) rfl) (wl_nil (then_loop ?_)))))
      exact jend true ⟨h.cn _, hs⟩
     ·
      refine wl_on rfl (congrArg Value.bool c119) (wl_ok (r_move (v := v35) rfl) (wl_on rfl (congrArg Value.bool c119) ?_))
      obtain ⟨y120, e121, hs⟩ := o_bind hs
      refine w_call fnOk18 rfl rfl (source_Check_c N _ _ h.lt v35 x36 (h.ownS 13 rfl) _ e121) ?_
      rintro _ w ⟨k122, rfl⟩
      refine ⟨_, rfl, ?_⟩
      replace h := h.grow k122
      refine wl_on rfl (congrArg Value.bool c119) (wl_ok (r_neq rfl rfl) (wl_ok (r_pick (b := false) (v := (.bool (decide ((y120 : Int) ≠ 0)))) (congrArg Value.bool c119) rfl) (wl_nil (then_loop ?_))))
      exact jend (decide ((y120 : Int) ≠ 0)) ⟨h.cn _, hs⟩
def wandererref_in (a : Int) (b : Int) (c : Int) : Bool :=
  (decide ((b : Int) ≤ a) && decide ((a : Int) ≤ c))
theorem wandererref_in_c (w0 : World) (M : BS) (hM : ∀ b, M b → b < w0.heap.size) (a : Int) (b : Int) (c : Int) (r : Bool) (hs : wandererref_in a b c = r) :
    Calls Tryz.prog 27 #[(.int .i64 (a)), (.int .i64 (b)), (.int .i64 (c))] w0 (fun e w' => Grow w0 w' ∧ e = .returned (.bool r)) := by
 refine calls_start (args := [(.int .i64 (a)), (.int .i64 (b)), (.int .i64 (c))]) Tryz.func27 rfl Tryz.ntmps27 (Nat.le_of_ble_eq_true rfl) ?_
 have h := SH.init hM
 refine wc_seq (wc_region (wl_ok (r_assign (v := (.bool (false))) rfl) (wl_nil (then_normal (wc_seq (wc_region (wl_ok (r_move (v := (.int .i64 (b))) rfl) (wl_ok (r_move (v := (.int .i64 (a))) rfl) (wl_ok (r_leq rfl rfl) (wl_ok (r_move (v := (.bool (decide ((b : Int) ≤ a)))) rfl) (wl_gd0 rfl rfl (fun q => r_move (v := (.int .i64 (a))) rfl) (wl_gd0 rfl rfl (fun q => r_move (v := (.int .i64 (c))) rfl) (wl_gd0 rfl rfl (fun q => r_leq (gvt q) (gvt q)) (wl_ok (r_pand rfl rfl evc) (wl_ok (r_assign (v := (.bool ((decide ((b : Int) ≤ a) && decide ((a : Int) ≤ c))))) rfl) (wl_nil (then_normal (wc_ret (fin1 (v := (.bool ((decide ((b : Int) ≤ a) && decide ((a : Int) ≤ c))))) Tryz.results27 rfl ?_)))))))))))))))))))
 obtain rfl := hs
 exact ⟨h.grown, rfl⟩
def wandererref_sized_j120 (nx37 : Int → Option (Int × Bool)) (x40 : Int) : Option (Int × Bool) :=
  nx37 x40
def wandererref_sized_b121 (F0 : List GStmt → Int → Option (Int × Bool)) (b : Int) (x35 : List GStmt) (x32 : Int) (nx37 : Int → Option (Int × Bool)) : Option (Int × Bool) :=
  bif decide ((0 : Int) < (x35.length : Int)) then grd (I64 (b - 1)) ((F0 x35 (b - 1)).bind fun y50 => grd (I64 (x32 + y50.1)) (bif ((!y50.2) || decide ((30 : Int) < (x32 + y50.1))) then some (0, false) else wandererref_sized_j120 nx37 (x32 + y50.1))) else wandererref_sized_j120 nx37 x32
def wandererref_sized_k122 (nx10 : Int → Option (Int × Bool)) (x32 : Int) : Option (Int × Bool) :=
  bif decide ((30 : Int) < x32) then some (0, false) else nx10 x32
def wandererref_sized_b123 (F0 : List GStmt → Int → Option (Int × Bool)) (b : Int) (a : List GStmt) (x8 : GStmt) (x5 : Int) (nx10 : Int → Option (Int × Bool)) : Option (Int × Bool) :=
  grd (I64 (x5 + 1)) (each (wandererref_sized_b121 F0 b) (wandererref_sized_k122 nx10) [x8.a, x8.b] (x5 + 1))
def wandererref_sized_k124 (x5 : Int) : Option (Int × Bool) :=
  some (x5, true)
def wandererref_sized_r (F0 : List GStmt → Int → Option (Int × Bool)) (a : List GStmt) (b : Int) : Option (Int × Bool) :=
  bif decide ((b : Int) < 1) then some (0, false) else each (wandererref_sized_b123 F0 b a) wandererref_sized_k124 a 0
def wandererref_sized : Nat → List GStmt → Int → Option (Int × Bool)
  | 0 => fun _ _ => none
  | N + 1 => wandererref_sized_r (wandererref_sized N)
theorem wandererref_sized_c : ∀ (N : Nat) (w0 : World) (M : BS) (hM : ∀ b, M b → b < w0.heap.size) (va : Value) (a : List GStmt) (ha : Rd2 rStmt w0 BE M va a) (b : Int) (r : Int × Bool) (hs : wandererref_sized N a b = some r),
    Calls Tryz.prog 28 #[va, (.int .i64 (b))] w0 (fun e w' => Grow w0 w' ∧ e = .returned (.tuple #[.int .i64 r.1, .bool r.2])) := by
  intro N
  induction N with
  | zero => intro w0 M hM va a ha b r hs; cases hs
  | succ N ih =>
  intro w0 M hM va a ha b r hs
  replace hs : wandererref_sized_r (wandererref_sized N) a b = some r := hs
  generalize wandererref_sized N = F0 at hs ih
  refine calls_start (args := [va, (.int .i64 (b))]) Tryz.func28 rfl Tryz.ntmps28 (Nat.le_of_ble_eq_true rfl) ?_
  have h := SH.init hM
  replace h := h.argSr 1 ha none_own
  have hl_a := ha.len_le
  refine wc_seq (wc_region (wl_ok (r_assign (v := (.int .i64 (0))) rfl) (wl_ok (r_assign (v := (.bool (false))) rfl) (wl_nil (then_normal (wc_seq (wc_seq (wc_region (wl_ok (r_move (v := (.int .i64 (b))) rfl) (wl_ok (r_lss rfl rfl) (wl_nil (then_normal (wc_ifb hs rfl (fun c1 hs => ?_) (fun c1 hs => ?_))))))))))))))
  ·
   refine wc_seq (wc_region (wl_ok (r_assign (v := (.int .i64 (0))) rfl) (wl_ok (r_assign (v := (.bool (false))) rfl) (wl_nil (then_normal (wc_ret (then_ret (fin2 (v1 := (.int .i64 (0))) (v2 := (.bool (false))) Tryz.results28 rfl rfl ?_))))))))
   obtain rfl := Option.some.inj hs
   exact ⟨h.grown, rfl⟩
  ·
   refine wc_skip (then_normal (wc_seq (wc_region (wl_ok (r_assign (v := (.int .i64 (0))) rfl) (wl_nil (then_normal (wc_seq (wc_seq (wc_region (wl_ok (r_move (v := va) rfl) (wl_ok (r_len SliceOf41 rfl (h.srS 1 rfl)) (wl_ok (r_move (v := (.int .i64 (0))) rfl) (wl_nil (then_normal (wc_block (wc_lp (σ := Nat × Int × Int) (inl [4, 5, 6, 8, 10, 11, 12, 17, 18, 19, 20, 21, 22, 23, 24, 25, 26, 27, 28, 29, 30, 31, 32, 33, 34, 35, 36, 37, 38, 39, 40, 41, 42, 43, 44, 45, 46, 47, 48, 49, 50, 51, 52, 53, 54, 55]) (fun ⟨k6, i7, x5⟩ => [(6, (.int .i64 (x5))), (17, (.int .i64 (i7)))]) (fun ⟨k6, i7, x5⟩ w => SH w0 M BE w (hset [(1, .sr rStmt va a)]) ∧ i7 = (k6 : Int) ∧ each (wandererref_sized_b123 F0 b a) wandererref_sized_k124 (a.drop k6) x5 = some r) (fun ⟨k6, i7, x5⟩ => a.length - k6) ⟨0, 0, 0⟩ ⟨rfl, rfl, trivial⟩ ?_ ?_))))))))))))))))
   ·
    exact ⟨h.cn _, rfl, hs⟩
   ·
    rintro ⟨k6, i7, x5⟩ w junk ⟨h, hik, hs⟩
    refine wc_seq (wc_region ?_)
    refine wl_ok (r_lss rfl rfl) (wl_nil (then_normal ?_))
    refine wc_seq (wc_if rfl (fun e11 => ?_) (fun e11 => ?_))
    ·
     refine wc_skip (then_normal ?_)
     obtain ⟨x8, e12a, e12b⟩ := drop_lt (hik ▸ e11)
     rw [e12b, each_cons] at hs
     generalize hnx10 : each (wandererref_sized_b123 F0 b a) wandererref_sized_k124 (a.drop (k6 + 1)) = nx10 at hs
     have e12r := nat_rng ((h.srS 1 rfl)).len_le hik e11
     refine wc_seq (wc_block (wc_seq (wc_region ?_)))
     obtain ⟨b14, o15, cs16, h, r17, i13⟩ := h.ixS 1 2 rfl SliceOf41 rfl (nat_nn hik) (get_nat hik e12a)
     obtain ⟨u18, u20, u22, u24, rfl, g19, g21, g23, g25⟩ := rStmt_open r17
     replace h := h.knowRd 3 g19.up
     replace h := h.knowRd 4 g21.up.up
     replace h := h.knowRd 5 g23.up.up.up
     replace h := h.knowRd 6 g25.up.up.up.up
     refine wl_ok (i13 _ _ _ _ _ _ _ _ _ rfl rfl) (wl_ok (r_ldPN (k := 0) (vs := [(.int .i64 (x8.kind)), (.int .i64 (x8.n)), u18, u20, u22, u24]) h 2 rfl Many65 rfl rfl rfl (Nat.le_of_ble_eq_true rfl)) (w_allocN h 7 Many65 fun w b26 h => w_stN (vs := [(.int .i64 (x8.kind)), (.int .i64 (x8.n)), u18, u20, u22, u24]) h 7 [(.int .i64 (x8.kind)), (.int .i64 (x8.n)), u18, u20, u22, u24] rfl Many65 rfl rfl rfl rfl rfl (ones_cons rfl (ones_cons rfl (ones_cons (h.rdAt 3 rfl).one (ones_cons (h.rdAt 4 rfl).one (ones_cons (h.rdAt 5 rfl).one (ones_cons (h.rdAt 6 rfl).one ones_nil)))))) fun w h => wl_nil (then_normal (wc_seq (wc_region (wl_ok (r_move (v := (.int .i64 (x5))) rfl) ?_))))))
     obtain ⟨a27, hs⟩ := o_grd hs
     refine wl_ok (r_add rfl rfl a27) (wl_ok (r_assign (v := (.int .i64 ((x5 + 1)))) rfl) (wl_nil (then_normal (wc_seq (wc_seq (wc_region (wl_ok (r_fieldAddr Fld65x4 rfl) (wl_ok (r_ldB h 7 rfl One41 rfl rfl) (wl_ok (r_fieldAddr Fld65x5 rfl) (wl_ok (r_ldB h 7 rfl One41 rfl rfl) (w_bs (R := (rSl rStmt)) (vs := [u22, u24]) (xs := [x8.a, x8.b]) h 8 ElemOf107 rfl rfl rfl ⟨(h.rdAt 5 rfl).rdc, ⟨(h.rdAt 6 rfl).rdc, trivial⟩⟩ rfl fun w u28 h => wl_ok (r_len SliceOf107 rfl (h.ownS 8 rfl)) (wl_ok (r_move (v := (.int .i64 (0))) rfl) (wl_nil (then_normal (wc_block ?_)))))))))))))))
     replace h := h.freeze 8 rfl
     refine wc_lp (σ := Nat × Int × Int) (inl [4, 5, 6, 10, 11, 12, 29, 30, 31, 32, 33, 34, 35, 36, 37, 38, 39, 40, 41, 42, 43, 44, 45, 46, 47, 48, 49, 50, 51, 52]) (fun ⟨k33, i34, x32⟩ => [(6, (.int .i64 (x32))), (29, (.int .i64 (i34)))]) (fun ⟨k33, i34, x32⟩ w => SH w0 M BE w (hset [(1, .sr rStmt va a), (8, .rd (rSl rStmt) u28 [x8.a, x8.b])]) ∧ i34 = (k33 : Int) ∧ each (wandererref_sized_b121 F0 b) (wandererref_sized_k122 nx10) ([x8.a, x8.b].drop k33) x32 = some r) (fun ⟨k33, i34, x32⟩ => [x8.a, x8.b].length - k33) ⟨0, 0, (x5 + 1)⟩ ⟨rfl, rfl, trivial⟩ ?_ ?_
     ·
      exact ⟨h.cn _, rfl, hs⟩
     ·
      rintro ⟨k33, i34, x32⟩ w junk ⟨h, hik, hs⟩
      refine wc_seq (wc_region ?_)
      refine wl_ok (r_lss rfl rfl) (wl_nil (then_normal ?_))
      refine wc_seq (wc_if rfl (fun e38 => ?_) (fun e38 => ?_))
      ·
       refine wc_skip (then_normal ?_)
       obtain ⟨x35, e39a, e39b⟩ := drop_lt (hik ▸ e38)
       rw [e39b, each_cons] at hs
       generalize hnx37 : each (wandererref_sized_b121 F0 b) (wandererref_sized_k122 nx10) ([x8.a, x8.b].drop (k33 + 1)) = nx37 at hs
       have e39r := nat_rng ((h.rdS 8 rfl)).len_le hik e38
       refine wc_join (σ := Int) (inl [4, 5, 6, 10, 11, 12, 31, 32, 33, 34, 35, 36, 37, 38, 39, 40, 41, 42, 43, 44, 45, 46, 47, 48, 49, 50, 51]) (fun x40 => [(6, (.int .i64 (x40)))]) (fun x40 w => SH w0 M BE w (hset [(1, .sr rStmt va a), (8, .rd (rSl rStmt) u28 [x8.a, x8.b])]) ∧ wandererref_sized_j120 nx37 x40 = some r) ?_ ?_
       ·
        rintro x40 w junk ⟨h, hs⟩
        refine wc_region (wl_ok (r_add rfl rfl e39r) (wl_ok (r_move (v := (.int .i64 ((i34 + 1)))) rfl) (wl_nil (then_loop ?_))))
        subst hnx37
        exact lend ⟨k33 + 1, i34 + 1, x40⟩ ⟨h.cn _, by omega, hs⟩ (by have := of_decide_eq_true e38; dsimp only; omega)
       ·
        refine wc_block (wc_seq (wc_region ?_))
        obtain ⟨b42, o43, cs44, h, r45, i41⟩ := h.ixR 8 9 rfl SliceOf107 rfl (nat_nn hik) (get_nat hik e39a)
        obtain ⟨u46, rfl, g47⟩ := r45
        replace h := h.knowRd 10 g47.up
        refine wl_ok (i41 _ _ _ _ _ _ _ _ _ rfl rfl) (wl_ok (r_ldP (k := 0) h 9 rfl One41 rfl rfl) (wl_ok (r_assign (v := u46) rfl) (wl_nil (then_normal (wc_seq (wc_region (wl_ok (r_move (v := u46) rfl) (wl_ok (r_len SliceOf41 rfl (h.rdS 10 rfl)) (wl_ok (r_gtr rfl rfl) (wl_nil (then_normal (wc_ifb hs rfl (fun c48 hs => ?_) (fun c48 hs => ?_)))))))))))))
        ·
         refine wc_seq (wc_region (wl_ok (r_move (v := u46) rfl) (wl_ok (r_move (v := (.int .i64 (b))) rfl) ?_)))
         obtain ⟨a49, hs⟩ := o_grd hs
         refine wl_ok (r_sub rfl rfl a49) ?_
         obtain ⟨y50, e51, hs⟩ := o_bind hs
         refine w_call fnOk28 rfl rfl (ih _ _ h.lt u46 x35 (h.rdS 10 rfl) (b - 1) _ e51) ?_
         rintro _ w ⟨k52, rfl⟩
         refine ⟨_, rfl, ?_⟩
         replace h := h.grow k52
         refine wl_ok (r_move (v := (.tuple #[(.int .i64 (y50.1)), (.bool (y50.2))])) rfl) (wl_ok (r_extract rfl rfl) (wl_ok (r_extract rfl rfl) (wl_ok (r_assign (v := (.int .i64 (y50.1))) rfl) (wl_ok (r_assign (v := (.bool (y50.2))) rfl) (wl_nil (then_normal (wc_seq (wc_region (wl_ok (r_move (v := (.int .i64 (x32))) rfl) (wl_ok (r_move (v := (.int .i64 (y50.1))) rfl) ?_))))))))))
         obtain ⟨a53, hs⟩ := o_grd hs
         refine wl_ok (r_add rfl rfl a53) (wl_ok (r_assign (v := (.int .i64 ((x32 + y50.1)))) rfl) (wl_nil (then_normal (wc_seq (wc_region (wl_ok (r_move (v := (.bool (y50.2))) rfl) (wl_ok (r_notb rfl) (wl_ok (r_move (v := (.bool ((!y50.2)))) rfl) (wl_gd0 rfl rfl (fun q => r_move (v := (.int .i64 ((x32 + y50.1)))) rfl) (wl_gd0 rfl rfl (fun q => r_gtr (gvt q) rfl) (wl_ok (r_por rfl rfl evc) (wl_nil (then_normal (wc_ifb hs rfl (fun c54 hs => ?_) (fun c54 hs => ?_)))))))))))))))
         ·
          refine wc_seq (wc_region (wl_ok (r_assign (v := (.int .i64 (0))) rfl) (wl_ok (r_assign (v := (.bool (false))) rfl) (wl_nil (then_normal (wc_ret (inBlock_ret (then_ret (then_ret (inBlock_ret (then_ret (inBlock_ret (then_ret (then_ret (inBlock_ret (then_ret (fin2 (v1 := (.int .i64 (0))) (v2 := (.bool (false))) Tryz.results28 rfl rfl ?_)))))))))))))))))
          obtain rfl := Option.some.inj hs
          exact ⟨h.grown, rfl⟩
         ·
          refine wc_skip (inBlock_normal (then_loop ?_))
          exact jend (x32 + y50.1) ⟨h.cn _, hs⟩
        ·
         refine wc_skip (inBlock_normal (then_loop ?_))
         exact jend x32 ⟨h.cn _, hs⟩
      ·
       rw [drop_ge (hik ▸ e38), each_nil] at hs
       refine wc_exit (then_exit (then_exit (inBlock_eq (then_normal (wc_seq (wc_region (wl_ok (r_move (v := (.int .i64 (x32))) rfl) (wl_ok (r_gtr rfl rfl) (wl_nil (then_normal (wc_ifb hs rfl (fun c55 hs => ?_) (fun c55 hs => ?_))))))))))))
       ·
        refine wc_seq (wc_region (wl_ok (r_assign (v := (.int .i64 (0))) rfl) (wl_ok (r_assign (v := (.bool (false))) rfl) (wl_nil (then_normal (wc_ret (inBlock_ret (then_ret (then_ret (inBlock_ret (then_ret (fin2 (v1 := (.int .i64 (0))) (v2 := (.bool (false))) Tryz.results28 rfl rfl ?_))))))))))))
        obtain rfl := Option.some.inj hs
        exact ⟨h.grown, rfl⟩
       ·
        refine wc_skip (inBlock_normal (then_normal (wc_region (wl_ok (r_add rfl rfl e12r) (wl_ok (r_move (v := (.int .i64 ((i7 + 1)))) rfl) (wl_nil (then_loop ?_)))))))
        subst hnx10
        exact lend ⟨k6 + 1, i7 + 1, x32⟩ ⟨h.cn _, by omega, hs⟩ (by have := of_decide_eq_true e11; dsimp only; omega)
    ·
     rw [drop_ge (hik ▸ e11), each_nil] at hs
     refine wc_exit (then_exit (then_exit (inBlock_eq (then_normal (wc_seq (wc_region (wl_ok (r_move (v := (.int .i64 (x5))) rfl) (wl_ok (r_assign (v := (.int .i64 (x5))) rfl) (wl_ok (r_assign (v := (.bool (true))) rfl) (wl_nil (then_normal (wc_ret (fin2 (v1 := (.int .i64 (x5))) (v2 := (.bool (true))) Tryz.results28 rfl rfl ?_)))))))))))))
     obtain rfl := Option.some.inj hs
     exact ⟨h.grown, rfl⟩
theorem strings_Contains_c (w0 : World) (M : BS) (hM : ∀ b, M b → b < w0.heap.size) (a : Str) (b : UInt8) (r : Bool) (hs : hasB a b = r) :
    Calls Tryz.prog 67 #[(strV a), (strV [b])] w0 (fun e w' => Grow w0 w' ∧ e = .returned (.bool r)) := by
  refine (Tryz.strings_Contains_one ⟨a.toArray⟩ b w0).mono ?_
  rintro e w' ⟨rfl, rfl⟩
  subst hs
  exact ⟨Keep.refl _ _, by simp [hasB]⟩
def wandererref_below (a : Int) (b : Int) : Bool :=
  (decide ((0 : Int) ≤ a) && decide ((a : Int) < b))
theorem wandererref_below_c (w0 : World) (M : BS) (hM : ∀ b, M b → b < w0.heap.size) (a : Int) (b : Int) (r : Bool) (hs : wandererref_below a b = r) :
    Calls Tryz.prog 68 #[(.int .i64 (a)), (.int .i64 (b))] w0 (fun e w' => Grow w0 w' ∧ e = .returned (.bool r)) := by
 refine calls_start (args := [(.int .i64 (a)), (.int .i64 (b))]) Tryz.func68 rfl Tryz.ntmps68 (Nat.le_of_ble_eq_true rfl) ?_
 have h := SH.init hM
 refine wc_seq (wc_region (wl_ok (r_assign (v := (.bool (false))) rfl) (wl_nil (then_normal (wc_seq (wc_region (wl_ok (r_move (v := (.int .i64 (a))) rfl) (wl_ok (r_geq rfl rfl) (wl_ok (r_move (v := (.bool (decide ((0 : Int) ≤ a)))) rfl) (wl_gd0 rfl rfl (fun q => r_move (v := (.int .i64 (a))) rfl) (wl_gd0 rfl rfl (fun q => r_move (v := (.int .i64 (b))) rfl) (wl_gd0 rfl rfl (fun q => r_lss (gvt q) (gvt q)) (wl_ok (r_pand rfl rfl evc) (wl_ok (r_assign (v := (.bool ((decide ((0 : Int) ≤ a) && decide ((a : Int) < b))))) rfl) (wl_nil (then_normal (wc_ret (fin1 (v := (.bool ((decide ((0 : Int) ≤ a) && decide ((a : Int) < b))))) Tryz.results68 rfl ?_))))))))))))))))))
 obtain rfl := hs
 exact ⟨h.grown, rfl⟩
def wandererref_fits (a : Int) : Bool :=
  (wandererref_in a (-1000000000) 1000000000)
theorem wandererref_fits_c (w0 : World) (M : BS) (hM : ∀ b, M b → b < w0.heap.size) (a : Int) (r : Bool) (hs : wandererref_fits a = r) :
    Calls Tryz.prog 74 #[(.int .i64 (a))] w0 (fun e w' => Grow w0 w' ∧ e = .returned (.bool r)) := by
 refine calls_start (args := [(.int .i64 (a))]) Tryz.func74 rfl Tryz.ntmps74 (Nat.le_of_ble_eq_true rfl) ?_
 have h := SH.init hM
 refine wc_seq (wc_region (wl_ok (r_assign (v := (.bool (false))) rfl) (wl_nil (then_normal (wc_seq (wc_region (wl_ok (r_move (v := (.int .i64 (a))) rfl) (w_call fnOk27 rfl rfl (wandererref_in_c _ _ h.lt a (-1000000000) 1000000000 _ rfl) ?_))))))))
 rintro _ w ⟨k1, rfl⟩
 refine ⟨_, rfl, ?_⟩
 replace h := h.grow k1
 refine wl_ok (r_assign (v := (.bool ((wandererref_in a (-1000000000) 1000000000)))) rfl) (wl_nil (then_normal (wc_ret (fin1 (v := (.bool ((wandererref_in a (-1000000000) 1000000000)))) Tryz.results74 rfl ?_))))
 obtain rfl := hs
 exact ⟨h.grown, rfl⟩
def wandererref_CheckTok_j1 (x2 : Bool) : Int :=
  bif (!x2) then 3 else 0
def wandererref_CheckTok (a : Tok) (b : List Fun) (c : Int) : Int :=
  bif decide ((a.kind : Int) = 1) then wandererref_CheckTok_j1 (wandererref_fits a.n) else bif decide ((a.kind : Int) = 2) then wandererref_CheckTok_j1 (wandererref_below a.n c) else bif decide ((a.kind : Int) = 3) then wandererref_CheckTok_j1 (wandererref_in a.n 1 5) else bif decide ((a.kind : Int) = 4) then wandererref_CheckTok_j1 (wandererref_in a.n 0 3) else bif decide ((a.kind : Int) = 5) then wandererref_CheckTok_j1 (wandererref_in a.n 1 4) else bif decide ((a.kind : Int) = 6) then bif (!(wandererref_below a.n (b.length : Int))) then 5 else wandererref_CheckTok_j1 true else 4
end
end Go.Proofs.YtckocfgmnlhcmaaGreatDoor
