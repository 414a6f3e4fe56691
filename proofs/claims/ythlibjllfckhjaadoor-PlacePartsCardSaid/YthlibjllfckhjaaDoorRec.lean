/-
  Functions of the program, each as plain Lean, and that the code does just that.
-/
import Derived.Test.YthlibjllfckhjaaDoorProg
import Derived.Test.YthlibjllfckhjaaDoorLiftC
import Derived.Test.YthlibjllfckhjaaDoorRecStrs
import Derived.Test.YthlibjllfckhjaaDoorRecShelf
set_option linter.unusedSimpArgs false
set_option linter.unusedVariables false
set_option maxRecDepth 10000
namespace Go.Proofs.YthlibjllfckhjaaDoor
open Go Go.Proofs Go.LX
theorem ElemOf22 : ElemOf Tryd.prog 22 3 1 8 := ⟨Tryd.underlying22, elem_of (z := (.int .i64 (0))) (by kernel_rfl) rfl⟩
theorem ElemOf61 : ElemOf Tryd.prog 61 9 1 16 := ⟨Tryd.underlying61, elem_of (z := (strV [])) (by kernel_rfl) rfl⟩
theorem ElemOf91 : ElemOf Tryd.prog 91 22 1 24 := ⟨Tryd.underlying91, elem_of (z := (.slice none 0 0)) (by kernel_rfl) rfl⟩
theorem Fld24x0 : FieldAt Tryd.prog 24 0 0 := ⟨_, _, 0, Tryd.underlying24, rfl, rfl, by kernel_rfl⟩
theorem Fld24x1 : FieldAt Tryd.prog 24 1 1 := ⟨_, _, 0, Tryd.underlying24, rfl, rfl, by kernel_rfl⟩
theorem Fld24x2 : FieldAt Tryd.prog 24 2 2 := ⟨_, _, 0, Tryd.underlying24, rfl, rfl, by kernel_rfl⟩
theorem Fld24x3 : FieldAt Tryd.prog 24 3 3 := ⟨_, _, 0, Tryd.underlying24, rfl, rfl, by kernel_rfl⟩
theorem Fld24x4 : FieldAt Tryd.prog 24 4 4 := ⟨_, _, 0, Tryd.underlying24, rfl, rfl, by kernel_rfl⟩
theorem Fld24x5 : FieldAt Tryd.prog 24 5 5 := ⟨_, _, 0, Tryd.underlying24, rfl, rfl, by kernel_rfl⟩
theorem fnOk10 : FnOk Tryd.prog 10 := ⟨_, Tryd.func10, by kernel_rfl, rfl⟩
theorem fnOk11 : FnOk Tryd.prog 11 := ⟨_, Tryd.func11, by kernel_rfl, rfl⟩
theorem fnOk12 : FnOk Tryd.prog 12 := ⟨_, Tryd.func12, by kernel_rfl, rfl⟩
theorem fnOk13 : FnOk Tryd.prog 13 := ⟨_, Tryd.func13, by kernel_rfl, rfl⟩
theorem fnOk14 : FnOk Tryd.prog 14 := ⟨_, Tryd.func14, by kernel_rfl, rfl⟩
theorem fnOk15 : FnOk Tryd.prog 15 := ⟨_, Tryd.func15, by kernel_rfl, rfl⟩
theorem fnOk36 : FnOk Tryd.prog 36 := ⟨_, Tryd.func36, by kernel_rfl, rfl⟩
theorem fnOk37 : FnOk Tryd.prog 37 := ⟨_, Tryd.func37, by kernel_rfl, rfl⟩
theorem fnOk38 : FnOk Tryd.prog 38 := ⟨_, Tryd.func38, by kernel_rfl, rfl⟩
theorem fnOk39 : FnOk Tryd.prog 39 := ⟨_, Tryd.func39, by kernel_rfl, rfl⟩
theorem fnOk40 : FnOk Tryd.prog 40 := ⟨_, Tryd.func40, by kernel_rfl, rfl⟩
theorem fnOk41 : FnOk Tryd.prog 41 := ⟨_, Tryd.func41, by kernel_rfl, rfl⟩
theorem fnOk42 : FnOk Tryd.prog 42 := ⟨_, Tryd.func42, by kernel_rfl, rfl⟩
theorem fnOk43 : FnOk Tryd.prog 43 := ⟨_, Tryd.func43, by kernel_rfl, rfl⟩
theorem fnOk44 : FnOk Tryd.prog 44 := ⟨_, Tryd.func44, by kernel_rfl, rfl⟩
theorem fnOk45 : FnOk Tryd.prog 45 := ⟨_, Tryd.func45, by kernel_rfl, rfl⟩
theorem fnOk59 : FnOk Tryd.prog 59 := ⟨_, Tryd.func59, by kernel_rfl, rfl⟩
theorem fnOk67 : FnOk Tryd.prog 67 := ⟨_, Tryd.func67, by kernel_rfl, rfl⟩
theorem fnOk68 : FnOk Tryd.prog 68 := ⟨_, Tryd.func68, by kernel_rfl, rfl⟩
theorem fnOk69 : FnOk Tryd.prog 69 := ⟨_, Tryd.func69, by kernel_rfl, rfl⟩
theorem fnOk70 : FnOk Tryd.prog 70 := ⟨_, Tryd.func70, by kernel_rfl, rfl⟩
theorem fnOk8 : FnOk Tryd.prog 8 := ⟨_, Tryd.func8, by kernel_rfl, rfl⟩
theorem fnOk9 : FnOk Tryd.prog 9 := ⟨_, Tryd.func9, by kernel_rfl, rfl⟩
theorem IfaceT67 : IfaceT Tryd.prog 67 := ⟨by kernel_rfl⟩
theorem Many24 : Many Tryd.prog 24 [(.int .i64 (0)), (.int .i64 (0)), (.int .i64 (0)), (.int .i64 (0)), (.slice none 0 0), (.slice none 0 0)] := ⟨⟨_, Tryd.underlying24, trivial⟩, by kernel_rfl⟩
theorem MapOf101 : MapOf Tryd.prog 101 (strV []) := ⟨_, _, Tryd.underlying101, Tryd.underlying3, by kernel_rfl⟩
theorem One22 : One Tryd.prog 22 (.slice none 0 0) := ⟨⟨_, Tryd.underlying22, trivial⟩, by kernel_rfl, rfl⟩
theorem One3 : One Tryd.prog 3 (.int .i64 (0)) := ⟨⟨_, Tryd.underlying3, trivial⟩, by kernel_rfl, rfl⟩
theorem One9 : One Tryd.prog 9 (strV []) := ⟨⟨_, Tryd.underlying9, trivial⟩, by kernel_rfl, rfl⟩
theorem SliceOf22 : SliceOf Tryd.prog 22 3 1 := ⟨Tryd.underlying22, by kernel_rfl⟩
theorem SliceOf61 : SliceOf Tryd.prog 61 9 1 := ⟨Tryd.underlying61, by kernel_rfl⟩
theorem SliceOf91 : SliceOf Tryd.prog 91 22 1 := ⟨Tryd.underlying91, by kernel_rfl⟩
theorem Struct24 : Struct Tryd.prog 24 [(.int .i64 (0)), (.int .i64 (0)), (.int .i64 (0)), (.int .i64 (0)), (.slice none 0 0), (.slice none 0 0)] [(0, 1), (1, 1), (2, 1), (3, 1), (4, 1), (5, 1)] := ⟨by kernel_rfl, _, Tryd.underlying24, by kernel_rfl⟩
theorem mixed : Tryd.prog.follows .mixedOrders = true := by kernel_rfl
def record_Check (a : Rec) : Int :=
  bif (decide ((a.kind : Int) < 1) || decide ((5 : Int) < a.kind)) then 4 else bif (((((decide ((a.co : Int) < 0) || decide ((3 : Int) ≤ a.co)) || decide ((a.epoch : Int) < 0)) || decide ((100 : Int) < a.epoch)) || decide ((a.place : Int) < 0)) || decide ((3 : Int) ≤ a.place)) then 3 else bif (decide ((40 : Int) < (a.says.length : Int)) || decide ((1200 : Int) < (a.image.length : Int))) then 2 else bif ((((decide ((a.kind : Int) ≠ 3) && decide ((a.place : Int) ≠ 0)) || (decide ((a.kind : Int) ≠ 2) && decide ((0 : Int) < (a.says.length : Int)))) || (((decide ((a.kind : Int) = 1) || decide ((a.kind : Int) = 2)) || decide ((a.kind : Int) = 4)) != decide ((0 : Int) < (a.image.length : Int)))) || decide ((a.epoch : Int) = 0)) then 4 else 0
theorem record_Check_c (w0 : World) (M : BS) (hM : ∀ b, M b → b < w0.heap.size) (a : Rec) (va4 va5 : Value) (ha4 : Rd2 rInt w0 BE M va4 a.says) (ha5 : Rd2 rInt w0 BE M va5 a.image) (r : Int) (hs : record_Check a = r) :
    Calls Tryd.prog 13 #[(.agg #[(.int .i64 (a.kind)), (.int .i64 (a.co)), (.int .i64 (a.epoch)), (.int .i64 (a.place)), va4, va5])] w0 (fun e w' => Grow w0 w' ∧ e = .returned (.int .i64 r)) := by
 refine calls_start (args := [(.agg #[(.int .i64 (a.kind)), (.int .i64 (a.co)), (.int .i64 (a.epoch)), (.int .i64 (a.place)), va4, va5])]) Tryd.func13 rfl Tryd.ntmps13 (Nat.le_of_ble_eq_true rfl) ?_
 have h := SH.init hM
 replace h := h.argSr 1 ha4 none_own
 replace h := h.argSr 2 ha5 (hupd_own_sr none_own)
 refine wc_seq (wc_region (w_box (cs := [(.int .i64 (a.kind)), (.int .i64 (a.co)), (.int .i64 (a.epoch)), (.int .i64 (a.place)), va4, va5]) h 3 rfl rfl fun w b1 h => wl_ok (r_assign (v := (.int .i64 (0))) rfl) (wl_nil (then_normal (wc_seq (wc_seq (wc_region (wl_ok (r_fieldAddr Fld24x0 rfl) (wl_ok (r_ldB h 3 rfl One3 rfl rfl) (wl_ok (r_lss rfl rfl) (wl_ok (r_move (v := (.bool (decide ((a.kind : Int) < 1)))) rfl) (wl_gd0 rfl rfl (fun q => r_fieldAddr Fld24x0 rfl) (wl_gd0 rfl rfl (fun q => r_ldB h 3 rfl One3 (gvt q) rfl) (wl_gd0 rfl rfl (fun q => r_gtr (gvt q) rfl) (wl_ok (r_por rfl rfl evc) (wl_nil (then_normal (wc_ifb hs rfl (fun c2 hs => ?_) (fun c2 hs => ?_)))))))))))))))))))
 ·
  refine wc_seq (wc_region (wl_ok (r_assign (v := (.int .i64 (4))) rfl) (wl_nil (then_normal (wc_ret (then_ret (fin1 (v := (.int .i64 (4))) Tryd.results13 rfl ?_)))))))
  obtain rfl := hs
  exact ⟨h.grown, rfl⟩
 ·
  refine wc_skip (then_normal (wc_seq (wc_seq (wc_region (wl_ok (r_fieldAddr Fld24x1 rfl) (wl_ok (r_ldB h 3 rfl One3 rfl rfl) (wl_ok (r_lss rfl rfl) (wl_ok (r_move (v := (.bool (decide ((a.co : Int) < 0)))) rfl) (wl_gd0 rfl rfl (fun q => r_fieldAddr Fld24x1 rfl) (wl_gd0 rfl rfl (fun q => r_ldB h 3 rfl One3 (gvt q) rfl) (wl_gd0 rfl rfl (fun q => r_geq (gvt q) rfl) (wl_ok (r_por rfl rfl evc) (wl_ok (r_move (v := (.bool ((decide ((a.co : Int) < 0) || decide ((3 : Int) ≤ a.co))))) rfl) (wl_gd0 rfl rfl (fun q => r_fieldAddr Fld24x2 rfl) (wl_gd0 rfl rfl (fun q => r_ldB h 3 rfl One3 (gvt q) rfl) (wl_gd0 rfl rfl (fun q => r_lss (gvt q) rfl) (wl_ok (r_por rfl rfl evc) (wl_ok (r_move (v := (.bool (((decide ((a.co : Int) < 0) || decide ((3 : Int) ≤ a.co)) || decide ((a.epoch : Int) < 0))))) rfl) (wl_gd0 rfl rfl (fun q => r_fieldAddr Fld24x2 rfl) (wl_gd0 rfl rfl (fun q => r_ldB h 3 rfl One3 (gvt q) rfl) (wl_gd0 rfl rfl (fun q => r_gtr (gvt q) rfl) (wl_ok (r_por rfl rfl evc) (wl_ok (r_move (v := (.bool ((((decide ((a.co : Int) < 0) || decide ((3 : Int) ≤ a.co)) || decide ((a.epoch : Int) < 0)) || decide ((100 : Int) < a.epoch))))) rfl) ?_)))))))))))))))))))))))
  refine wl_gd0 rfl rfl (fun q => r_fieldAddr Fld24x3 rfl) (wl_gd0 rfl rfl (fun q => r_ldB h 3 rfl One3 (gvt q) rfl) (wl_gd0 rfl rfl (fun q => r_lss (gvt q) rfl) (wl_ok (r_por rfl rfl evc) (wl_ok (r_move (v := (.bool (((((decide ((a.co : Int) < 0) || decide ((3 : Int) ≤ a.co)) || decide ((a.epoch : Int) < 0)) || decide ((100 : Int) < a.epoch)) || decide ((a.place : Int) < 0))))) rfl) (wl_gd0 rfl rfl (fun q => r_fieldAddr Fld24x3 rfl) (wl_gd0 rfl rfl (fun q => r_ldB h 3 rfl One3 (gvt q) rfl) (wl_gd0 rfl rfl (fun q => r_geq (gvt q) rfl) (wl_ok (r_por rfl rfl evc) (wl_nil (then_normal (wc_ifb hs rfl (fun c3 hs => ?_) (fun c3 hs => ?_))))))))))))
  ·
   refine wc_seq (wc_region (wl_ok (r_assign (v := (.int .i64 (3))) rfl) (wl_nil (then_normal (wc_ret (then_ret (fin1 (v := (.int .i64 (3))) Tryd.results13 rfl ?_)))))))
   obtain rfl := hs
   exact ⟨h.grown, rfl⟩
  ·
   refine wc_skip (then_normal (wc_seq (wc_seq (wc_region (wl_ok (r_fieldAddr Fld24x4 rfl) (wl_ok (r_ldB h 3 rfl One22 rfl rfl) (wl_ok (r_len SliceOf22 rfl (h.srS 1 rfl)) (wl_ok (r_gtr rfl rfl) (wl_ok (r_move (v := (.bool (decide ((40 : Int) < (a.says.length : Int))))) rfl) (wl_gd0 rfl rfl (fun q => r_fieldAddr Fld24x5 rfl) (wl_gd0 rfl rfl (fun q => r_ldB h 3 rfl One22 (gvt q) rfl) (wl_gd0 rfl rfl (fun q => r_len SliceOf22 (gvt q) (h.srS 2 rfl)) (wl_gd0 rfl rfl (fun q => r_gtr (gvt q) rfl) (wl_ok (r_por rfl rfl evc) (wl_nil (then_normal (wc_ifb hs rfl (fun c4 hs => ?_) (fun c4 hs => ?_))))))))))))))))))
   ·
    refine wc_seq (wc_region (wl_ok (r_assign (v := (.int .i64 (2))) rfl) (wl_nil (then_normal (wc_ret (then_ret (fin1 (v := (.int .i64 (2))) Tryd.results13 rfl ?_)))))))
    obtain rfl := hs
    exact ⟨h.grown, rfl⟩
   ·
    refine wc_skip (then_normal (wc_seq (wc_region (wl_ok (r_fieldAddr Fld24x0 rfl) (wl_ok (r_ldB h 3 rfl One3 rfl rfl) (wl_ok (r_eql rfl rfl) (wl_ok (r_move (v := (.bool (decide ((a.kind : Int) = 1)))) rfl) (wl_gd0 rfl rfl (fun q => r_fieldAddr Fld24x0 rfl) (wl_gd0 rfl rfl (fun q => r_ldB h 3 rfl One3 (gvt q) rfl) (wl_gd0 rfl rfl (fun q => r_eql (gvt q) rfl) (wl_ok (r_por rfl rfl evc) (wl_ok (r_move (v := (.bool ((decide ((a.kind : Int) = 1) || decide ((a.kind : Int) = 2))))) rfl) (wl_gd0 rfl rfl (fun q => r_fieldAddr Fld24x0 rfl) (wl_gd0 rfl rfl (fun q => r_ldB h 3 rfl One3 (gvt q) rfl) (wl_gd0 rfl rfl (fun q => r_eql (gvt q) rfl) (wl_ok (r_por rfl rfl evc) (wl_ok (r_assign (v := (.bool (((decide ((a.kind : Int) = 1) || decide ((a.kind : Int) = 2)) || decide ((a.kind : Int) = 4))))) rfl) (wl_nil (then_normal (wc_seq (wc_seq (wc_region (wl_ok (r_fieldAddr Fld24x0 rfl) ?_)))))))))))))))))))))))
    refine wl_ok (r_ldB h 3 rfl One3 rfl rfl) (wl_ok (r_neq rfl rfl) (wl_ok (r_move (v := (.bool (decide ((a.kind : Int) ≠ 3)))) rfl) (wl_gd0 rfl rfl (fun q => r_fieldAddr Fld24x3 rfl) (wl_gd0 rfl rfl (fun q => r_ldB h 3 rfl One3 (gvt q) rfl) (wl_gd0 rfl rfl (fun q => r_neq (gvt q) rfl) (wl_ok (r_pand rfl rfl evc) (wl_ok (r_move (v := (.bool ((decide ((a.kind : Int) ≠ 3) && decide ((a.place : Int) ≠ 0))))) rfl) (wl_gd0 rfl rfl (fun q => r_fieldAddr Fld24x0 rfl) (wl_gd0 rfl rfl (fun q => r_ldB h 3 rfl One3 (gvt q) rfl) (wl_gd0 rfl rfl (fun q => r_neq (gvt q) rfl) (wl_gd0 rfl rfl (fun q => r_move (v := (.bool (decide ((a.kind : Int) ≠ 2)))) (gvt q)) (wl_gd ((decide ((a.kind : Int) ≠ 3) && decide ((a.place : Int) ≠ 0)) == false) rfl rfl (fun q => r_fieldAddr Fld24x4 rfl) (wl_gd ((decide ((a.kind : Int) ≠ 3) && decide ((a.place : Int) ≠ 0)) == false) rfl rfl (fun q => r_ldB h 3 rfl One22 (gvt q) rfl) (wl_gd ((decide ((a.kind : Int) ≠ 3) && decide ((a.place : Int) ≠ 0)) == false) rfl rfl (fun q => r_len SliceOf22 (gvt q) (h.srS 1 rfl)) (wl_gd ((decide ((a.kind : Int) ≠ 3) && decide ((a.place : Int) ≠ 0)) == false) rfl rfl (fun q => r_gtr (gvt q) rfl) (wl_gd0 rfl rfl (fun q => r_pand (gvt q) (gvn q) evc) (wl_ok (r_por rfl rfl evc) (wl_ok (r_move (v := (.bool (((decide ((a.kind : Int) ≠ 3) && decide ((a.place : Int) ≠ 0)) || (decide ((a.kind : Int) ≠ 2) && decide ((0 : Int) < (a.says.length : Int))))))) rfl) (wl_gd0 rfl rfl (fun q => r_move (v := (.bool (((decide ((a.kind : Int) = 1) || decide ((a.kind : Int) = 2)) || decide ((a.kind : Int) = 4))))) rfl) (wl_gd0 rfl rfl (fun q => r_fieldAddr Fld24x5 rfl) (wl_gd0 rfl rfl (fun q => r_ldB h 3 rfl One22 (gvt q) rfl) (wl_gd0 rfl rfl (fun q => r_len SliceOf22 (gvt q) (h.srS 2 rfl)) (wl_gd0 rfl rfl (fun q => r_gtr (gvt q) rfl) ?_)))))))))))))))))))))))
    refine wl_gd0 rfl rfl (fun q => r_neqb Tryd.underlying4 (gvt q) (gvt q)) (wl_ok (r_por rfl rfl evc) (wl_ok (r_move (v := (.bool ((((decide ((a.kind : Int) ≠ 3) && decide ((a.place : Int) ≠ 0)) || (decide ((a.kind : Int) ≠ 2) && decide ((0 : Int) < (a.says.length : Int)))) || (((decide ((a.kind : Int) = 1) || decide ((a.kind : Int) = 2)) || decide ((a.kind : Int) = 4)) != decide ((0 : Int) < (a.image.length : Int))))))) rfl) (wl_gd0 rfl rfl (fun q => r_fieldAddr Fld24x2 rfl) (wl_gd0 rfl rfl (fun q => r_ldB h 3 rfl One3 (gvt q) rfl) (wl_gd0 rfl rfl (fun q => r_eql (gvt q) rfl) (wl_ok (r_por rfl rfl evc) (wl_nil (then_normal (wc_ifb hs rfl (fun c5 hs => ?_) (fun c5 hs => ?_))))))))))
    ·
     refine wc_seq (wc_region (wl_ok (r_assign (v := (.int .i64 (4))) rfl) (wl_nil (then_normal (wc_ret (then_ret (fin1 (v := (.int .i64 (4))) Tryd.results13 rfl ?_)))))))
     obtain rfl := hs
     exact ⟨h.grown, rfl⟩
    ·
     refine wc_skip (then_normal (wc_seq (wc_region (wl_ok (r_assign (v := (.int .i64 (0))) rfl) (wl_nil (then_normal (wc_ret (fin1 (v := (.int .i64 (0))) Tryd.results13 rfl ?_))))))))
     obtain rfl := hs
     exact ⟨h.grown, rfl⟩
theorem slices_Grow_int_c (w0 : World) (M : BS) (hM : ∀ b, M b → b < w0.heap.size) (a : Int) (r : List Int) (hs : growN 8 a = some r) :
    Calls Tryd.prog 59 #[.slice none 0 0, .int .i64 a] w0 (fun e w' => Grow w0 w' ∧ ∃ u, e = .returned u ∧ OwnSl rInt 3 w' M u r ∧ (∀ b, ob u b → w0.heap.size ≤ b)) := by
  obtain ⟨hr, hs⟩ := o_grd hs
  cases hs
  obtain ⟨k, rfl⟩ := Int.eq_ofNat_of_zero_le hr.1
  have hkb : k * 8 ≤ 140737488355328 := by omega
  refine calls_start (args := [.slice none 0 0, .int .i64 (k : Int)]) Tryd.func59 rfl Tryd.ntmps59 (Nat.le_of_ble_eq_true rfl) ?_
  refine wc_seq (wc_region (wl_ok (r_assign (v := .slice none 0 0) rfl) (wl_nil (then_normal ?_))))
  refine wc_seq (wc_seq (wc_region (wl_ok (r_move (v := .int .i64 (k : Int)) rfl) (wl_ok (r_lss (p := (k : Int)) (q := 0) rfl rfl) (wl_nil (then_normal ?_))))))
  refine wc_if rfl (fun c => absurd (of_decide_eq_true c) (by omega)) (fun _ => wc_skip (then_normal ?_))
  refine wc_seq (wc_seq (wc_region ?_))
  refine wl_ok (r_move (v := .int .i64 (k : Int)) rfl) (wl_ok (r_move (v := .slice none 0 0) rfl) (wl_ok (r_cap (a := none) (l := 0) (c := 0) SliceOf22 rfl) (wl_ok (r_move (v := .slice none 0 0) rfl) (wl_ok (r_len_slice (a := none) (l := 0) (c := 0) SliceOf22 rfl) (wl_ok (r_sub (p := 0) (q := 0) rfl rfl (by decide)) (wl_ok (r_sub (p := (k : Int)) (q := 0 - 0) rfl rfl (by omega)) (wl_ok (r_assign (v := .int .i64 ((k : Int) - (0 - 0))) rfl) (wl_nil (then_normal ?_)))))))))
  refine wc_seq (wc_region (wl_ok (r_move (v := .int .i64 ((k : Int) - (0 - 0))) rfl) (wl_ok (r_gtr (p := (k : Int) - (0 - 0)) (q := 0) rfl rfl) (wl_nil (then_normal ?_)))))
  refine wc_if rfl (fun c => ?_) (fun c => ?_)
  · have hk : 0 < k := by have := of_decide_eq_true c; omega
    refine wc_region ?_
    refine wl_ok (r_move (v := .slice none 0 0) rfl) (wl_ok (r_move (v := .slice none 0 0) rfl) (wl_ok (r_cap (a := none) (l := 0) (c := 0) SliceOf22 rfl) (wl_ok (r_sliceTo (b := 0) (ad := none) (len := 0) (cap := 0) SliceOf22 rfl (.inl rfl) (.inl ⟨rfl, rfl⟩) rfl (Nat.le_refl _)) (wl_ok (r_move (v := .int .i64 (k : Nat)) (congrArg (Value.int .i64) (by omega))) ?_))))
    refine wl_growNil (R := rInt) (A := M) (k := k) ElemOf22 rfl Tryd.underlying3 rfl rfl hk (by decide) hkb fun w gg cap hg h1 h2 h3 ho => ?_
    refine wl_ok (r_move (v := .slice none 0 0) rfl) (wl_ok (r_len_slice (a := none) (l := 0) (c := 0) SliceOf22 rfl) (wl_ok (r_sliceTo (b := 0) (ad := some ⟨gg, 0, none⟩) (len := k) (cap := cap) SliceOf22 rfl (.inr ⟨gg, rfl⟩) (.inl ⟨rfl, rfl⟩) rfl (Nat.zero_le _)) (wl_ok (r_assign (v := .slice (some ⟨gg, 0, none⟩) 0 cap) rfl) (wl_nil (then_normal ?_)))))
    refine wc_seq (wc_region (wl_ok (r_move (v := .slice (some ⟨gg, 0, none⟩) 0 cap) rfl) (wl_ok (r_assign (v := .slice (some ⟨gg, 0, none⟩) 0 cap) rfl) (wl_nil (then_normal (wc_ret ?_))))))
    exact fin1 (v := .slice (some ⟨gg, 0, none⟩) 0 cap) Tryd.results59 rfl ⟨hg, _, rfl, ho, fun b hb => by have : b = gg := hb; omega⟩
  · refine wc_skip (then_normal (wc_seq (wc_region (wl_ok (r_move (v := .slice none 0 0) rfl) (wl_ok (r_assign (v := .slice none 0 0) rfl) (wl_nil (then_normal (wc_ret ?_))))))))
    exact fin1 (v := .slice none 0 0) Tryd.results59 rfl ⟨Keep.refl _ _, _, rfl, OwnSl.nil, fresh_nil⟩
def slices_Concat_int_b5 (x37 : List Int) (x34 : List Int) (nx39 : List Int → Option (List Int)) : Option (List Int) :=
  grd (Room 8 x34 x37) (nx39 (x34 ++ x37))
def slices_Concat_int_k6 (x34 : List Int) : Option (List Int) :=
  some x34
def slices_Concat_int_b7 (x7 : List Int) (x4 : Int) (nx9 : Int → Option (List Int)) : Option (List Int) :=
  grd (I64 (x4 + (x7.length : Int))) (bif decide (((x4 + (x7.length : Int)) : Int) < 0) then none else nx9 (x4 + (x7.length : Int)))
def slices_Concat_int_k8 (a : List (List Int)) (x4 : Int) : Option (List Int) :=
  (growN 8 x4).bind fun y21 => each slices_Concat_int_b5 slices_Concat_int_k6 a y21
def slices_Concat_int (a : List (List Int)) : Option (List Int) :=
  each slices_Concat_int_b7 (slices_Concat_int_k8 a) a 0
theorem slices_Concat_int_c (w0 : World) (M : BS) (hM : ∀ b, M b → b < w0.heap.size) (va : Value) (a : List (List Int)) (ha : Rd2 (rSl rInt) w0 BE M va a) (r : List Int) (hs : slices_Concat_int a = some r) :
    Calls Tryd.prog 36 #[va] w0 (fun e w' => Grow w0 w' ∧ ∃ u0, e = .returned (u0) ∧ OwnSl rInt 3 w' M u0 r ∧ (∀ b, ob u0 b → w0.heap.size ≤ b)) := by
 refine calls_start (args := [va]) Tryd.func36 rfl Tryd.ntmps36 (Nat.le_of_ble_eq_true rfl) ?_
 have h := SH.init hM
 replace h := h.argSr 1 ha none_own
 have hl_a := ha.len_le
 refine wc_seq (wc_region (wl_ok (r_assign (v := (.slice none 0 0)) rfl) (wl_nil (then_normal (wc_seq (wc_region (wl_ok (r_assign (v := (.int .i64 (0))) rfl) (wl_nil (then_normal (wc_seq (wc_seq (wc_region (wl_ok (r_move (v := va) rfl) (wl_ok (r_len SliceOf91 rfl (h.srS 1 rfl)) (wl_ok (r_move (v := (.int .i64 (0))) rfl) (wl_nil (then_normal (wc_block (wc_lp (σ := Nat × Int × Int) (inl [3, 5, 11, 12, 13, 14, 15, 16, 17, 18, 19, 20, 21, 22]) (fun ⟨k5, i6, x4⟩ => [(3, (.int .i64 (x4))), (11, (.int .i64 (i6)))]) (fun ⟨k5, i6, x4⟩ w => SH w0 M BE w (hset [(1, .sr (rSl rInt) va a)]) ∧ i6 = (k5 : Int) ∧ each slices_Concat_int_b7 (slices_Concat_int_k8 a) (a.drop k5) x4 = some r) (fun ⟨k5, i6, x4⟩ => a.length - k5) ⟨0, 0, 0⟩ ⟨rfl, rfl, trivial⟩ ?_ ?_)))))))))))))))))))
 ·
  exact ⟨h.cn _, rfl, hs⟩
 ·
  rintro ⟨k5, i6, x4⟩ w junk ⟨h, hik, hs⟩
  refine wc_seq (wc_region ?_)
  refine wl_ok (r_lss rfl rfl) (wl_nil (then_normal ?_))
  refine wc_seq (wc_if rfl (fun e10 => ?_) (fun e10 => ?_))
  ·
   refine wc_skip (then_normal ?_)
   obtain ⟨x7, e11a, e11b⟩ := drop_lt (hik ▸ e10)
   rw [e11b, each_cons] at hs
   generalize hnx9 : each slices_Concat_int_b7 (slices_Concat_int_k8 a) (a.drop (k5 + 1)) = nx9 at hs
   have e11r := nat_rng ((h.srS 1 rfl)).len_le hik e10
   refine wc_seq (wc_block (wc_seq (wc_region ?_)))
   obtain ⟨b13, o14, cs15, h, r16, i12⟩ := h.ixS 1 2 rfl SliceOf91 rfl (nat_nn hik) (get_nat hik e11a)
   obtain ⟨u17, rfl, g18⟩ := r16
   replace h := h.knowRd 3 g18.up
   refine wl_ok (i12 _ _ _ _ _ _ _ _ _ rfl rfl) (wl_ok (r_ldP (k := 0) h 2 rfl One22 rfl rfl) (wl_ok (r_assign (v := u17) rfl) (wl_nil (then_normal (wc_seq (wc_region (wl_ok (r_move (v := (.int .i64 (x4))) rfl) (wl_ok (r_move (v := u17) rfl) (wl_ok (r_len SliceOf22 rfl (h.rdS 3 rfl)) ?_)))))))))
   obtain ⟨a19, hs⟩ := o_grd hs
   refine wl_ok (r_add rfl rfl a19) (wl_ok (r_assign (v := (.int .i64 ((x4 + (x7.length : Int))))) rfl) (wl_nil (then_normal (wc_seq (wc_region (wl_ok (r_move (v := (.int .i64 ((x4 + (x7.length : Int))))) rfl) (wl_ok (r_lss rfl rfl) (wl_nil (then_normal (wc_ifb hs rfl (fun c20 hs => ?_) (fun c20 hs => ?_)))))))))))
   ·
    cases hs
   ·
    refine wc_skip (inBlock_normal (then_normal (wc_region (wl_ok (r_add rfl rfl e11r) (wl_ok (r_move (v := (.int .i64 ((i6 + 1)))) rfl) (wl_nil (then_loop ?_)))))))
    subst hnx9
    exact lend ⟨k5 + 1, i6 + 1, (x4 + (x7.length : Int))⟩ ⟨h.cn _, by omega, hs⟩ (by have := of_decide_eq_true e10; dsimp only; omega)
  ·
   rw [drop_ge (hik ▸ e10), each_nil] at hs
   refine wc_exit (then_exit (then_exit (inBlock_eq (then_normal (wc_seq (wc_region (wl_ok (r_move (v := (.int .i64 (x4))) rfl) ?_)))))))
   obtain ⟨y21, e22, hs⟩ := o_bind hs
   refine w_call fnOk59 rfl rfl (slices_Grow_int_c _ _ h.lt x4 _ e22) ?_
   rintro _ w ⟨k26, u23, rfl, g24, g25⟩
   refine ⟨_, rfl, ?_⟩
   replace h := h.gotOwn 4 k26 g24 g25
   refine wl_ok (r_assign (v := u23) rfl) (wl_nil (then_normal (wc_seq (wc_seq (wc_region (wl_ok (r_move (v := va) rfl) (wl_ok (r_len SliceOf91 rfl (h.srS 1 rfl)) (wl_ok (r_move (v := (.int .i64 (0))) rfl) (wl_nil (then_normal (wc_block (wc_lp (σ := Nat × Int × Value × List Int) (inl [6, 8, 27, 28, 29, 30, 31, 32, 33, 34]) (fun ⟨k35, i36, v33, x34⟩ => [(6, v33), (27, (.int .i64 (i36)))]) (fun ⟨k35, i36, v33, x34⟩ w => SH w0 M BE w (hset [(1, .sr (rSl rInt) va a), (4, .own rInt 3 v33 x34)]) ∧ i36 = (k35 : Int) ∧ each slices_Concat_int_b5 slices_Concat_int_k6 (a.drop k35) x34 = some r) (fun ⟨k35, i36, v33, x34⟩ => a.length - k35) ⟨0, 0, u23, y21⟩ ⟨rfl, rfl, trivial⟩ ?_ ?_))))))))))))
   ·
    exact ⟨h.cn _, rfl, hs⟩
   ·
    rintro ⟨k35, i36, v33, x34⟩ w junk ⟨h, hik, hs⟩
    refine wc_seq (wc_region ?_)
    refine wl_ok (r_lss rfl rfl) (wl_nil (then_normal ?_))
    refine wc_seq (wc_if rfl (fun e40 => ?_) (fun e40 => ?_))
    ·
     refine wc_skip (then_normal ?_)
     obtain ⟨x37, e41a, e41b⟩ := drop_lt (hik ▸ e40)
     rw [e41b, each_cons] at hs
     generalize hnx39 : each slices_Concat_int_b5 slices_Concat_int_k6 (a.drop (k35 + 1)) = nx39 at hs
     have e41r := nat_rng ((h.srS 1 rfl)).len_le hik e40
     refine wc_seq (wc_block (wc_seq (wc_region ?_)))
     obtain ⟨b43, o44, cs45, h, r46, i42⟩ := h.ixS 1 5 rfl SliceOf91 rfl (nat_nn hik) (get_nat hik e41a)
     obtain ⟨u47, rfl, g48⟩ := r46
     replace h := h.knowRd 6 g48.up
     refine wl_ok (i42 _ _ _ _ _ _ _ _ _ rfl rfl) (wl_ok (r_ldP (k := 0) h 5 rfl One22 rfl rfl) (wl_ok (r_assign (v := u47) rfl) (wl_nil (then_normal (wc_region (wl_ok (r_move (v := v33) rfl) (wl_ok (r_move (v := u47) rfl) ?_)))))))
     obtain ⟨a49, hs⟩ := o_grd hs
     refine w_app (R := rInt) (m := x37) h 4 rfl (h.rdS 6 rfl) ElemOf22 rfl rfl rfl a49.1 a49.2 fun w u50 h => wl_ok (r_assign (v := u50) rfl) (wl_nil (inBlock_normal (then_normal (wc_region (wl_ok (r_add rfl rfl e41r) (wl_ok (r_move (v := (.int .i64 ((i36 + 1)))) rfl) (wl_nil (then_loop ?_))))))))
     subst hnx39
     exact lend ⟨k35 + 1, i36 + 1, u50, (x34 ++ x37)⟩ ⟨h.cn _, by omega, hs⟩ (by have := of_decide_eq_true e40; dsimp only; omega)
    ·
     rw [drop_ge (hik ▸ e40), each_nil] at hs
     refine wc_exit (then_exit (then_exit (inBlock_eq (then_normal (wc_seq (wc_region (wl_ok (r_move (v := v33) rfl) (wl_ok (r_assign (v := v33) rfl) (wl_nil (then_normal (wc_ret (fin1 (v := v33) Tryd.results36 rfl ?_))))))))))))
     obtain rfl := Option.some.inj hs
     exact ⟨h.grown, _, rfl, (h.outOwn 4 rfl).1, (h.outOwn 4 rfl).2⟩
theorem strconv_Itoa_c (w0 : World) (M : BS) (hM : ∀ b, M b → b < w0.heap.size) (hT : Tabs Tryd.prog 3 w0) (a : Int) (r : Str) (hs : itoaS a = some r) :
    Calls Tryd.prog 37 #[.int .i64 a] w0 (fun e w' => Grow w0 w' ∧ e = .returned (strV r)) :=
  itoa_w Tryd.strconv_Itoa hT hs
theorem strings_Join_c (w0 : World) (M : BS) (hM : ∀ b, M b → b < w0.heap.size) (va : Value) (a : List Str) (ha : Rd2 rStr w0 BE M va a) (b : Str) (r : Str) (hs : joinS a b = some r) :
    Calls Tryd.prog 38 #[va, strV b] w0 (fun e w' => Grow w0 w' ∧ e = .returned (strV r)) :=
  join_w Tryd.strings_Join_none Tryd.strings_Join ha hs
def record_Print_b3 (i19 : Int) (x20 : Int) (x17 : List Str) (nx22 : List Str → Option (Str × Int)) : Option (Str × Int) :=
  (itoaS x20).bind fun y30 => (idx x17 i19).bind fun x33 => nx22 (x17.set (i19).toNat y30)
def record_Print_k4 (x17 : List Str) : Option (Str × Int) :=
  (joinS x17 [32]).bind fun y38 => some (y38, 0)
def record_Print (a : Rec) : Option (Str × Int) :=
  bif decide (((record_Check a) : Int) ≠ 0) then some ([], (record_Check a)) else (slices_Concat_int [[a.kind, a.co, a.epoch, a.place, (a.says.length : Int)], a.says, a.image]).bind fun y6 => grd (0 ≤ (y6.length : Int) ∧ (y6.length : Int) * 16 ≤ 140737488355328) (eachI record_Print_b3 record_Print_k4 0 y6 (List.replicate (y6.length : Int).toNat ([] : Str)))
theorem record_Print_c (w0 : World) (M : BS) (hM : ∀ b, M b → b < w0.heap.size) (hT : Tabs Tryd.prog 3 w0) (a : Rec) (va4 va5 : Value) (ha4 : RdSl rInt w0 M va4 a.says) (ha5 : RdSl rInt w0 M va5 a.image) (r : Str × Int) (hs : record_Print a = some r) :
    Calls Tryd.prog 8 #[(.agg #[(.int .i64 (a.kind)), (.int .i64 (a.co)), (.int .i64 (a.epoch)), (.int .i64 (a.place)), va4, va5])] w0 (fun e w' => Grow w0 w' ∧ e = .returned (.tuple #[strV r.1, .int .i64 r.2])) := by
 refine calls_start (args := [(.agg #[(.int .i64 (a.kind)), (.int .i64 (a.co)), (.int .i64 (a.epoch)), (.int .i64 (a.place)), va4, va5])]) Tryd.func8 rfl Tryd.ntmps8 (Nat.le_of_ble_eq_true rfl) ?_
 have h := SH.init hM
 replace h := h.argRd 1 ha4 none_own
 replace h := h.argRd 2 ha5 (hupd_own_rd none_own)
 refine wc_seq (wc_region (w_box (cs := [(.int .i64 (a.kind)), (.int .i64 (a.co)), (.int .i64 (a.epoch)), (.int .i64 (a.place)), va4, va5]) h 3 rfl rfl fun w b1 h => wl_ok (r_assign (v := (strV [])) rfl) (wl_ok (r_assign (v := (.int .i64 (0))) rfl) (wl_nil (then_normal (wc_seq (wc_seq (wc_region (wl_ok (r_ldBN (vs := [(.int .i64 (a.kind)), (.int .i64 (a.co)), (.int .i64 (a.epoch)), (.int .i64 (a.place)), va4, va5]) h 3 rfl Many24 rfl rfl rfl) (w_call fnOk13 rfl rfl (record_Check_c _ _ h.lt a va4 va5 (h.rdS 1 rfl) (h.rdS 2 rfl) _ rfl) ?_))))))))))
 rintro _ w ⟨k2, rfl⟩
 refine ⟨_, rfl, ?_⟩
 replace h := h.grow k2
 refine wl_ok (r_assign (v := (.int .i64 ((record_Check a)))) rfl) (wl_nil (then_normal (wc_seq (wc_region (wl_ok (r_move (v := (.int .i64 ((record_Check a)))) rfl) (wl_ok (r_neq rfl rfl) (wl_nil (then_normal (wc_ifb hs rfl (fun c3 hs => ?_) (fun c3 hs => ?_))))))))))
 ·
  refine wc_seq (wc_region (wl_ok (r_move (v := (.int .i64 ((record_Check a)))) rfl) (wl_ok (r_assign (v := (strV [])) rfl) (wl_ok (r_assign (v := (.int .i64 ((record_Check a)))) rfl) (wl_nil (then_normal (wc_ret (then_ret (fin2 (v1 := (strV [])) (v2 := (.int .i64 ((record_Check a)))) Tryd.results8 rfl rfl ?_)))))))))
  obtain rfl := Option.some.inj hs
  exact ⟨h.grown, rfl⟩
 ·
  refine wc_skip (then_normal (wc_seq (wc_region (wl_ok (r_fieldAddr Fld24x0 rfl) (wl_ok (r_ldB h 3 rfl One3 rfl rfl) (wl_ok (r_fieldAddr Fld24x1 rfl) (wl_ok (r_ldB h 3 rfl One3 rfl rfl) (wl_ok (r_fieldAddr Fld24x2 rfl) (wl_ok (r_ldB h 3 rfl One3 rfl rfl) (wl_ok (r_fieldAddr Fld24x3 rfl) (wl_ok (r_ldB h 3 rfl One3 rfl rfl) (wl_ok (r_fieldAddr Fld24x4 rfl) (wl_ok (r_ldB h 3 rfl One22 rfl rfl) (wl_ok (r_len SliceOf22 rfl (h.rdS 1 rfl)) (w_bs (R := rInt) (vs := [(.int .i64 (a.kind)), (.int .i64 (a.co)), (.int .i64 (a.epoch)), (.int .i64 (a.place)), (.int .i64 ((a.says.length : Int)))]) (xs := [a.kind, a.co, a.epoch, a.place, (a.says.length : Int)]) h 4 ElemOf22 rfl rfl rfl ⟨rfl, ⟨rfl, ⟨rfl, ⟨rfl, ⟨rfl, trivial⟩⟩⟩⟩⟩ rfl fun w u4 h => wl_ok (r_fieldAddr Fld24x4 rfl) (wl_ok (r_ldB h 3 rfl One22 rfl rfl) (wl_ok (r_fieldAddr Fld24x5 rfl) (wl_ok (r_ldB h 3 rfl One22 rfl rfl) ?_))))))))))))))))))
  replace h := h.freeze 4 rfl
  refine w_bs (R := (rSl rInt)) (vs := [u4, va4, va5]) (xs := [[a.kind, a.co, a.epoch, a.place, (a.says.length : Int)], a.says, a.image]) h 5 ElemOf91 rfl rfl rfl ⟨(h.rdAt 4 rfl).rdc, ⟨(h.rdAt 1 rfl).rdc, ⟨(h.rdAt 2 rfl).rdc, trivial⟩⟩⟩ rfl fun w u5 h => ?_
  obtain ⟨y6, e7, hs⟩ := o_bind hs
  refine w_call fnOk36 rfl rfl (slices_Concat_int_c _ _ h.lt u5 [[a.kind, a.co, a.epoch, a.place, (a.says.length : Int)], a.says, a.image] (h.ownS 5 rfl) _ e7) ?_
  rintro _ w ⟨k11, u8, rfl, g9, g10⟩
  refine ⟨_, rfl, ?_⟩
  replace h := h.gotOwn 6 k11 g9 g10
  refine wl_ok (r_assign (v := u8) rfl) (wl_nil (then_normal (wc_seq (wc_region (wl_ok (r_move (v := u8) rfl) (wl_ok (r_len SliceOf22 rfl (h.ownS 6 rfl)) ?_))))))
  obtain ⟨a13, hs⟩ := o_grd hs
  refine w_makeSl (R := rStr) (a := ([] : Str)) h 7 ElemOf61 One9 rfl (by decide) rfl rfl a13 (fun _ _ => rfl) fun w u12 h => wl_ok (r_assign (v := u12) rfl) (wl_nil (then_normal (wc_seq (wc_seq (wc_region (wl_ok (r_move (v := u8) rfl) (wl_ok (r_len SliceOf22 rfl (h.ownS 6 rfl)) (wl_ok (r_move (v := (.int .i64 (0))) rfl) (wl_nil (then_normal (wc_block ?_)))))))))))
  replace h := h.freeze 6 rfl
  refine wc_lp (σ := Nat × Int × List Str) (inl [7, 8, 37, 38, 39, 40, 41, 42, 43, 44, 45, 46, 47]) (fun ⟨k18, i19, x17⟩ => [(37, (.int .i64 (i19)))]) (fun ⟨k18, i19, x17⟩ w => SH w0 M BE w (hset [(6, .rd rInt u8 y6), (7, .own rStr 9 u12 x17)]) ∧ i19 = (k18 : Int) ∧ eachI record_Print_b3 record_Print_k4 i19 (y6.drop k18) x17 = some r) (fun ⟨k18, i19, x17⟩ => y6.length - k18) ⟨0, 0, (List.replicate (y6.length : Int).toNat ([] : Str))⟩ ⟨rfl, trivial⟩ ?_ ?_
  ·
   exact ⟨h.cn _, rfl, hs⟩
  ·
   rintro ⟨k18, i19, x17⟩ w junk ⟨h, hik, hs⟩
   refine wc_seq (wc_region ?_)
   refine wl_ok (r_lss rfl rfl) (wl_nil (then_normal ?_))
   refine wc_seq (wc_if rfl (fun e23 => ?_) (fun e23 => ?_))
   ·
    refine wc_skip (then_normal ?_)
    obtain ⟨x20, e24a, e24b⟩ := drop_lt (hik ▸ e23)
    rw [e24b, eachI_cons] at hs
    generalize hnx22 : eachI record_Print_b3 record_Print_k4 (i19 + 1) (y6.drop (k18 + 1)) = nx22 at hs
    have e24r := nat_rng ((h.rdS 6 rfl)).len_le hik e23
    refine wc_seq (wc_block (wc_seq (wc_region (wl_ok (r_move (v := (.int .i64 (i19))) rfl) ?_))))
    obtain ⟨b26, o27, cs28, h, r29, i25⟩ := h.ixR 6 8 rfl SliceOf22 rfl (nat_nn hik) (get_nat hik e24a)
    obtain rfl := r29
    refine wl_ok (i25 _ _ _ _ _ _ _ _ _ rfl rfl) (wl_ok (r_ldP (k := 0) h 8 rfl One3 rfl rfl) (wl_ok (r_assign (v := (.int .i64 (i19))) rfl) (wl_ok (r_assign (v := (.int .i64 (x20))) rfl) (wl_nil (then_normal (wc_region (wl_ok (r_move (v := u12) rfl) (wl_ok (r_move (v := (.int .i64 (i19))) rfl) (wl_ok (r_move (v := (.int .i64 (x20))) rfl) ?_)))))))))
    obtain ⟨y30, e31, hs⟩ := o_bind hs
    refine w_call fnOk37 rfl rfl (strconv_Itoa_c _ _ h.lt (hT.go h.keep) x20 _ e31) ?_
    rintro _ w ⟨k32, rfl⟩
    refine ⟨_, rfl, ?_⟩
    replace h := h.grow k32
    obtain ⟨x33, e34, hs⟩ := o_bind hs
    obtain ⟨b36, q37, i35⟩ := h.ixO 7 rfl SliceOf61 rfl (o_idx e34).1 (o_idx e34).2
    refine wl_ok (i35 _ _ _ _ _ _ _ _ _ rfl rfl) (w_stO (off := 0) (a' := y30) h 7 rfl q37 rfl (o_idx e34).2 One9 rfl rfl rfl rfl (fun cs hq => set1 rfl hq rfl rfl) fun w h => wl_nil (inBlock_normal (then_normal (wc_region (wl_ok (r_add rfl rfl e24r) (wl_ok (r_move (v := (.int .i64 ((i19 + 1)))) rfl) (wl_nil (then_loop ?_))))))))
    subst hnx22
    exact lend ⟨k18 + 1, i19 + 1, (x17.set (i19).toNat y30)⟩ ⟨h.cn _, by omega, hs⟩ (by have := of_decide_eq_true e23; dsimp only; omega)
   ·
    rw [drop_ge (hik ▸ e23), eachI_nil] at hs
    refine wc_exit (then_exit (then_exit (inBlock_eq (then_normal (wc_seq (wc_region (wl_ok (r_move (v := u12) rfl) ?_)))))))
    obtain ⟨y38, e39, hs⟩ := o_bind hs
    refine w_call fnOk38 rfl rfl (strings_Join_c _ _ h.lt u12 x17 (h.ownS 7 rfl) [32] _ e39) ?_
    rintro _ w ⟨k40, rfl⟩
    refine ⟨_, rfl, ?_⟩
    replace h := h.grow k40
    refine wl_ok (r_assign (v := (strV y38)) rfl) (wl_ok (r_assign (v := (.int .i64 (0))) rfl) (wl_nil (then_normal (wc_ret (fin2 (v1 := (strV y38)) (v2 := (.int .i64 (0))) Tryd.results8 rfl rfl ?_)))))
    obtain rfl := Option.some.inj hs
    exact ⟨h.grown, rfl⟩
theorem strings_Split_c (w0 : World) (M : BS) (hM : ∀ b, M b → b < w0.heap.size) (hT : Tabs Tryd.prog 3 w0) (a : Str) (b : Str) (r : List Str) (hs : splitS a b = some r) :
    Calls Tryd.prog 40 #[strV a, strV b] w0 (fun e w' => Grow w0 w' ∧ ∃ u, e = .returned u ∧ RdSl rStr w' M u r) :=
  split_w Tryd.strings_Split hM hT hs
theorem strconv_Atoi_c (w0 : World) (M : BS) (hM : ∀ b, M b → b < w0.heap.size) (hT : Tabs Tryd.prog 3 w0) (a : Str) (r : Int × Bool) (hs : atoiS a = some r) :
    Calls Tryd.prog 41 #[strV a] w0 (fun e w' => Grow w0 w' ∧ ∃ u, e = .returned (.tuple #[.int .i64 r.1, u]) ∧ IsErr u r.2) :=
  atoi_w Tryd.strconv_Atoi_ok Tryd.strconv_Atoi_syntax_var Tryd.strconv_Atoi_range_var hT hs
theorem slices_Clone_int_c (w0 : World) (M : BS) (hM : ∀ b, M b → b < w0.heap.size) (va : Value) (a : List Int) (ha : Rd2 rInt w0 BE M va a) (r : List Int) (hs : clone 8 a = some r) :
    Calls Tryd.prog 42 #[va] w0 (fun e w' => Grow w0 w' ∧ ∃ u0, e = .returned u0 ∧ OwnSl rInt 3 w' M u0 r ∧ (∀ b, ob u0 b → w0.heap.size ≤ b)) := by
  obtain ⟨hr, hs⟩ := o_grd hs
  cases hs
  refine calls_start (args := [va]) Tryd.func42 rfl Tryd.ntmps42 (Nat.le_of_ble_eq_true rfl) ?_
  have h := (SH.init hM).argSr 1 ha none_own
  refine wc_seq (wc_region (wl_ok (r_assign rfl) (wl_nil (then_normal ?_))))
  refine wc_seq (wc_seq (wc_region (wl_ok (r_move rfl) (wl_ok (r_eqnil SliceOf22 rfl (h.srS 1 rfl) rfl) (wl_nil (then_normal ?_))))))
  refine wc_if rfl (fun c => ?_) (fun c => ?_)
  · obtain ⟨c1, c2⟩ := nil_of_isNil (h.srS 1 rfl) c
    refine wc_seq (wc_region (wl_ok (r_assign rfl) (wl_nil (then_normal (wc_ret (then_ret ?_))))))
    refine fin1 (v := .slice none 0 0) Tryd.results42 rfl ?_
    rw [c2]
    exact ⟨h.grown, _, rfl, OwnSl.nil, fresh_nil⟩
  · refine wc_skip (then_normal ?_)
    refine wc_seq (wc_region ?_)
    refine w_bs (R := rInt) (vs := []) (xs := []) h 2 ElemOf22 rfl rfl rfl trivial rfl fun w u h => ?_
    refine wl_ok (r_move rfl) ?_
    refine w_app (R := rInt) (m := a) h 2 rfl (h.srS 1 rfl) ElemOf22 rfl rfl rfl hr.1 hr.2 fun w u h => ?_
    refine wl_ok (r_assign rfl) (wl_nil (then_normal (wc_ret ?_)))
    refine fin1 (v := u) Tryd.results42 rfl ?_
    exact ⟨h.grown, _, rfl, (h.outOwn 2 rfl).1, (h.outOwn 2 rfl).2⟩
def record_Parse_j26 (x15 : List Int) (y28 : Int × Bool) (nx20 : List Int → Option (Rec × Int)) (x33 : Bool) : Option (Rec × Int) :=
  bif x33 then some ((⟨0, 0, 0, 0, [], []⟩ : Rec), 1) else grd (Room 8 x15 [y28.1]) (nx20 (x15 ++ [y28.1]))
def record_Parse_j29 (y45 : Int) (y46 : Int) (y47 : Int) (y48 : Int) (y50 : List Int) (y52 : List Int) : Option (Rec × Int) :=
  bif decide (((record_Check (⟨y45, y46, y47, y48, y50, y52⟩ : Rec)) : Int) ≠ 0) then some ((⟨0, 0, 0, 0, [], []⟩ : Rec), (record_Check (⟨y45, y46, y47, y48, y50, y52⟩ : Rec))) else some ((⟨y45, y46, y47, y48, y50, y52⟩ : Rec), 0)
def record_Parse_j28 (x15 : List Int) (x42 : Bool) : Option (Rec × Int) :=
  bif x42 then some ((⟨0, 0, 0, 0, [], []⟩ : Rec), 1) else (idx x15 0).bind fun xq55x1_1 => (idx x15 1).bind fun xq55x4_1 => (idx x15 2).bind fun xq55x7_1 => (idx x15 3).bind fun xq55x10_1 => (idx x15 4).bind fun xq55x14_1 => grd (I64 (5 + xq55x14_1)) ((sub? x15 5 (5 + xq55x14_1)).bind fun xq55x17_1 => grd (I64 (5 + xq55x14_1)) ((sub? x15 (5 + xq55x14_1) (x15.length : Int)).bind fun xq55x24_1 => (clone 8 xq55x17_1).bind fun yq55x18_1 => (clone 8 xq55x24_1).bind fun yq55x25_1 => record_Parse_j29 xq55x1_1 xq55x4_1 xq55x7_1 xq55x10_1 yq55x18_1 yq55x25_1))
def record_Parse_b30 (x18 : Str) (x15 : List Int) (nx20 : List Int → Option (Rec × Int)) : Option (Rec × Int) :=
  (atoiS x18).bind fun y28 => bif y28.2 then record_Parse_j26 x15 y28 nx20 true else (itoaS y28.1).bind fun y39 => record_Parse_j26 x15 y28 nx20 (decide ((y39 : Str) ≠ x18))
def record_Parse_k31 (x15 : List Int) : Option (Rec × Int) :=
  bif decide (((x15.length : Int) : Int) < 5) then record_Parse_j28 x15 true else (idx x15 4).bind fun x59 => bif decide ((x59 : Int) < 0) then record_Parse_j28 x15 true else grd (I64 ((x15.length : Int) - 5)) (record_Parse_j28 x15 (decide ((((x15.length : Int) - 5) : Int) < x59)))
def record_Parse (a : Str) : Option (Rec × Int) :=
  bif decide ((60000 : Int) < (a.length : Int)) then some ((⟨0, 0, 0, 0, [], []⟩ : Rec), 2) else (splitS a [32]).bind fun y3 => each record_Parse_b30 record_Parse_k31 y3 []
theorem record_Parse_c (w0 : World) (M : BS) (hM : ∀ b, M b → b < w0.heap.size) (hT : Tabs Tryd.prog 3 w0) (a : Str) (r : Rec × Int) (hs : record_Parse a = some r) :
    Calls Tryd.prog 11 #[(strV a)] w0 (fun e w' => Grow w0 w' ∧ ∃ u0_4, ∃ u0_5, e = .returned (.tuple #[.agg #[.int .i64 r.1.kind, .int .i64 r.1.co, .int .i64 r.1.epoch, .int .i64 r.1.place, u0_4, u0_5], .int .i64 r.2]) ∧ RdSl rInt w' M u0_4 r.1.says ∧ RdSl rInt w' M u0_5 r.1.image) := by
 refine calls_start (args := [(strV a)]) Tryd.func11 rfl Tryd.ntmps11 (Nat.le_of_ble_eq_true rfl) ?_
 have h := SH.init hM
 refine wc_seq (wc_region (w_allocN h 1 Many24 fun w b1 h => wl_ok (r_assign (v := (.int .i64 (0))) rfl) (wl_nil (then_normal (wc_seq (wc_seq (wc_region (wl_ok (r_move (v := (strV a)) rfl) (wl_ok (r_lenS Tryd.underlying9 rfl) (wl_ok (r_gtr rfl rfl) (wl_nil (then_normal (wc_ifb hs rfl (fun c2 hs => ?_) (fun c2 hs => ?_))))))))))))))
 ·
  refine wc_seq (wc_region (wl_ok (r_build (pv := []) (out := [(.int .i64 (0)), (.int .i64 (0)), (.int .i64 (0)), (.int .i64 (0)), (.slice none 0 0), (.slice none 0 0)]) Struct24 rfl rfl) (w_stN (vs := [(.int .i64 (0)), (.int .i64 (0)), (.int .i64 (0)), (.int .i64 (0)), (.slice none 0 0), (.slice none 0 0)]) h 1 [(.int .i64 (0)), (.int .i64 (0)), (.int .i64 (0)), (.int .i64 (0)), (.slice none 0 0), (.slice none 0 0)] rfl Many24 rfl rfl rfl rfl rfl (ones_cons rfl (ones_cons rfl (ones_cons rfl (ones_cons rfl (ones_cons rfl (ones_cons rfl ones_nil)))))) fun w h => wl_ok (r_assign (v := (.int .i64 (2))) rfl) (wl_nil (then_normal (wc_ret (then_ret (fin_ct (vs := [(.int .i64 (0)), (.int .i64 (0)), (.int .i64 (0)), (.int .i64 (0)), (.slice none 0 0), (.slice none 0 0)]) (v2 := (.int .i64 (2))) Tryd.results11 rfl rfl h 1 rfl Many24 rfl ?_))))))))
  obtain rfl := Option.some.inj hs
  exact ⟨h.grown, _, _, rfl, Rd2.nil, Rd2.nil⟩
 ·
  refine wc_skip (then_normal (wc_seq (wc_region (wl_ok (r_assign (v := (.slice none 0 0)) rfl) (wl_nil (then_normal (wc_seq (wc_seq (wc_region (wl_ok (r_move (v := (strV a)) rfl) ?_))))))))))
  obtain ⟨y3, e4, hs⟩ := o_bind hs
  refine w_call fnOk40 rfl rfl (strings_Split_c _ _ h.lt (hT.go h.keep) a [32] _ e4) ?_
  rintro _ w ⟨k7, u5, rfl, g6⟩
  refine ⟨_, rfl, ?_⟩
  replace h := h.gotRd 2 k7 g6
  refine wl_ok (r_len SliceOf61 rfl (h.rdS 2 rfl)) (wl_ok (r_move (v := (.int .i64 (0))) rfl) (wl_nil (then_normal (wc_block ?_))))
  replace h := h.nilO (R := rInt) (E := 3) 6
  refine wc_lp (σ := Nat × Int × Value × List Int) (inl [3, 4, 6, 7, 8, 18, 19, 20, 21, 22, 23, 24, 25, 26, 27, 28, 29, 30, 31, 32, 33, 34, 35, 36, 37, 38, 39, 40]) (fun ⟨k16, i17, v14, x15⟩ => [(4, v14), (18, (.int .i64 (i17)))]) (fun ⟨k16, i17, v14, x15⟩ w => SH w0 M BE w (hset [(1, .blk b1 [(.int .i64 (0)), (.int .i64 (0)), (.int .i64 (0)), (.int .i64 (0)), (.slice none 0 0), (.slice none 0 0)]), (2, .rd rStr u5 y3), (6, .own rInt 3 v14 x15)]) ∧ i17 = (k16 : Int) ∧ each record_Parse_b30 record_Parse_k31 (y3.drop k16) x15 = some r) (fun ⟨k16, i17, v14, x15⟩ => y3.length - k16) ⟨0, 0, (.slice none 0 0), []⟩ ⟨rfl, rfl, trivial⟩ ?_ ?_
  ·
   exact ⟨h.cn _, rfl, hs⟩
  ·
   rintro ⟨k16, i17, v14, x15⟩ w junk ⟨h, hik, hs⟩
   refine wc_seq (wc_region ?_)
   refine wl_ok (r_lss rfl rfl) (wl_nil (then_normal ?_))
   refine wc_seq (wc_if rfl (fun e21 => ?_) (fun e21 => ?_))
   ·
    refine wc_skip (then_normal ?_)
    obtain ⟨x18, e22a, e22b⟩ := drop_lt (hik ▸ e21)
    rw [e22b, each_cons] at hs
    generalize hnx20 : each record_Parse_b30 record_Parse_k31 (y3.drop (k16 + 1)) = nx20 at hs
    have e22r := nat_rng ((h.rdS 2 rfl)).len_le hik e21
    refine wc_seq (wc_block (wc_seq (wc_region ?_)))
    obtain ⟨b24, o25, cs26, h, r27, i23⟩ := h.ixR 2 7 rfl SliceOf61 rfl (nat_nn hik) (get_nat hik e22a)
    obtain rfl := r27
    refine wl_ok (i23 _ _ _ _ _ _ _ _ _ rfl rfl) (wl_ok (r_ldP (k := 0) h 7 rfl One9 rfl rfl) (wl_ok (r_assign (v := (strV x18)) rfl) (wl_nil (then_normal (wc_seq (wc_region (wl_ok (r_move (v := (strV x18)) rfl) ?_)))))))
    obtain ⟨y28, e29, hs⟩ := o_bind hs
    refine w_call fnOk41 rfl rfl (strconv_Atoi_c _ _ h.lt (hT.go h.keep) x18 _ e29) ?_
    rintro _ w ⟨k32, u30, rfl, g31⟩
    refine ⟨_, rfl, ?_⟩
    replace h := h.grow k32
    refine wl_ok (r_move (v := (.tuple #[(.int .i64 (y28.1)), u30])) rfl) (wl_ok (r_extract rfl rfl) (wl_ok (r_extract rfl rfl) (wl_ok (r_assign (v := (.int .i64 (y28.1))) rfl) (wl_ok (r_assign (v := u30) rfl) (wl_nil (then_normal (wc_seq (wc_join (σ := Bool) (inl [27, 28, 29, 30, 31, 32, 33, 34]) (fun x33 => [(34, (.bool (x33)))]) (fun x33 w => SH w0 M BE w (hset [(1, .blk b1 [(.int .i64 (0)), (.int .i64 (0)), (.int .i64 (0)), (.int .i64 (0)), (.slice none 0 0), (.slice none 0 0)]), (2, .rd rStr u5 y3), (6, .own rInt 3 v14 x15)]) ∧ record_Parse_j26 x15 y28 nx20 x33 = some r) ?_ ?_))))))))
    ·
     rintro x33 w junk ⟨h, hs⟩
     refine wc_ifb hs rfl (fun c34 hs => ?_) (fun c34 hs => ?_)
     ·
      refine wc_seq (wc_region (wl_ok (r_build (pv := []) (out := [(.int .i64 (0)), (.int .i64 (0)), (.int .i64 (0)), (.int .i64 (0)), (.slice none 0 0), (.slice none 0 0)]) Struct24 rfl rfl) (w_stN (vs := [(.int .i64 (0)), (.int .i64 (0)), (.int .i64 (0)), (.int .i64 (0)), (.slice none 0 0), (.slice none 0 0)]) h 1 [(.int .i64 (0)), (.int .i64 (0)), (.int .i64 (0)), (.int .i64 (0)), (.slice none 0 0), (.slice none 0 0)] rfl Many24 rfl rfl rfl rfl rfl (ones_cons rfl (ones_cons rfl (ones_cons rfl (ones_cons rfl (ones_cons rfl (ones_cons rfl ones_nil)))))) fun w h => wl_ok (r_assign (v := (.int .i64 (1))) rfl) (wl_nil (then_normal (wc_ret (then_ret (inBlock_ret (then_ret (then_ret (inBlock_ret (then_ret (fin_ct (vs := [(.int .i64 (0)), (.int .i64 (0)), (.int .i64 (0)), (.int .i64 (0)), (.slice none 0 0), (.slice none 0 0)]) (v2 := (.int .i64 (1))) Tryd.results11 rfl rfl h 1 rfl Many24 rfl ?_)))))))))))))
      obtain rfl := Option.some.inj hs
      exact ⟨h.grown, _, _, rfl, Rd2.nil, Rd2.nil⟩
     ·
      refine wc_skip (then_normal (wc_region (wl_ok (r_move (v := v14) rfl) (wl_ok (r_move (v := (.int .i64 (y28.1))) rfl) (w_bs (R := rInt) (vs := [(.int .i64 (y28.1))]) (xs := [y28.1]) h 8 ElemOf22 rfl rfl rfl ⟨rfl, trivial⟩ rfl fun w u35 h => ?_)))))
      obtain ⟨a36, hs⟩ := o_grd hs
      refine w_app (R := rInt) (m := [y28.1]) h 6 rfl (h.ownS 8 rfl) ElemOf22 rfl rfl rfl a36.1 a36.2 fun w u37 h => wl_ok (r_assign (v := u37) rfl) (wl_nil (inBlock_normal (then_normal (wc_region (wl_ok (r_add rfl rfl e22r) (wl_ok (r_move (v := (.int .i64 ((i17 + 1)))) rfl) (wl_nil (then_loop ?_))))))))
      subst hnx20
      exact lend ⟨k16 + 1, i17 + 1, u37, (x15 ++ [y28.1])⟩ ⟨h.cn _, by omega, hs⟩ (by have := of_decide_eq_true e21; dsimp only; omega)
    ·
     refine wc_region (wl_ok (r_move (v := u30) rfl) (wl_ok (r_neqnilI IfaceT67 rfl g31 rfl) (wl_ok (r_move (v := (.bool (y28.2))) rfl) (c_split (b := y28.2) hs (fun c38 hs => ?_) (fun c38 hs => ?_)))))
     ·
      refine wl_off (b' := true) rfl (congrArg Value.bool c38) rfl (wl_off (b' := true) rfl (congrArg Value.bool c38) rfl (wl_off (b' := true) rfl (congrArg Value.bool c38) rfl (wl_off (b' := true) rfl (congrArg Value.bool c38) rfl (wl_ok (r_pick (b := true) (v := (.bool (true))) (congrArg Value.bool c38) rfl) (wl_nil (then_loop ?_))))))
      exact jend true ⟨h.cn _, hs⟩
     ·
      refine wl_on rfl (congrArg Value.bool c38) (wl_ok (r_move (v := (.int .i64 (y28.1))) rfl) (wl_on rfl (congrArg Value.bool c38) ?_))
      obtain ⟨y39, e40, hs⟩ := o_bind hs
      refine w_call fnOk37 rfl rfl (strconv_Itoa_c _ _ h.lt (hT.go h.keep) y28.1 _ e40) ?_
      rintro _ w ⟨k41, rfl⟩
      refine ⟨_, rfl, ?_⟩
      replace h := h.grow k41
      refine wl_on rfl (congrArg Value.bool c38) (wl_ok (r_move (v := (strV x18)) rfl) (wl_on rfl (congrArg Value.bool c38) (wl_ok (r_neqs rfl rfl) (wl_ok (r_pick (b := false) (v := (.bool (decide ((y39 : Str) ≠ x18)))) (congrArg Value.bool c38) rfl) (wl_nil (then_loop ?_))))))
      exact jend (decide ((y39 : Str) ≠ x18)) ⟨h.cn _, hs⟩
   ·
    rw [drop_ge (hik ▸ e21), each_nil] at hs
    refine wc_exit (then_exit (then_exit (inBlock_eq (then_normal (wc_seq (wc_join (σ := Bool) (inl [41, 42, 43, 44, 45, 46, 47, 48, 49, 50, 51, 52, 53, 54, 55, 56, 57, 58]) (fun x42 => [(58, (.bool (x42)))]) (fun x42 w => SH w0 M BE w (hset [(1, .blk b1 [(.int .i64 (0)), (.int .i64 (0)), (.int .i64 (0)), (.int .i64 (0)), (.slice none 0 0), (.slice none 0 0)]), (6, .own rInt 3 v14 x15)]) ∧ record_Parse_j28 x15 x42 = some r) ?_ ?_))))))
    ·
     rintro x42 w junk ⟨h, hs⟩
     refine wc_ifb hs rfl (fun c43 hs => ?_) (fun c43 hs => ?_)
     ·
      refine wc_seq (wc_region (wl_ok (r_build (pv := []) (out := [(.int .i64 (0)), (.int .i64 (0)), (.int .i64 (0)), (.int .i64 (0)), (.slice none 0 0), (.slice none 0 0)]) Struct24 rfl rfl) (w_stN (vs := [(.int .i64 (0)), (.int .i64 (0)), (.int .i64 (0)), (.int .i64 (0)), (.slice none 0 0), (.slice none 0 0)]) h 1 [(.int .i64 (0)), (.int .i64 (0)), (.int .i64 (0)), (.int .i64 (0)), (.slice none 0 0), (.slice none 0 0)] rfl Many24 rfl rfl rfl rfl rfl (ones_cons rfl (ones_cons rfl (ones_cons rfl (ones_cons rfl (ones_cons rfl (ones_cons rfl ones_nil)))))) fun w h => wl_ok (r_assign (v := (.int .i64 (1))) rfl) (wl_nil (then_normal (wc_ret (then_ret (fin_ct (vs := [(.int .i64 (0)), (.int .i64 (0)), (.int .i64 (0)), (.int .i64 (0)), (.slice none 0 0), (.slice none 0 0)]) (v2 := (.int .i64 (1))) Tryd.results11 rfl rfl h 1 rfl Many24 rfl ?_))))))))
      obtain rfl := Option.some.inj hs
      exact ⟨h.grown, _, _, rfl, Rd2.nil, Rd2.nil⟩
     ·
      refine wc_skip (then_normal (wc_join (σ := Nat × Int × Int × Int × Int × Value × List Int × Value × List Int) (inl [9, 60, 61, 62, 63, 64, 65, 66, 67, 68, 69, 70, 71, 72, 73, 74, 75, 76, 77, 78, 79, 80, 81, 82, 83, 84, 85, 86]) (fun ⟨b44, y45, y46, y47, y48, v49, y50, v51, y52⟩ => [(9, (.pointer (some ⟨b44, 0, none⟩)))]) (fun ⟨b44, y45, y46, y47, y48, v49, y50, v51, y52⟩ w => SH w0 M BE w (hset [(1, .blk b1 [(.int .i64 (0)), (.int .i64 (0)), (.int .i64 (0)), (.int .i64 (0)), (.slice none 0 0), (.slice none 0 0)]), (225, .own rInt 3 v49 y50), (309, .own rInt 3 v51 y52), (333, .blk b44 [(.int .i64 (y45)), (.int .i64 (y46)), (.int .i64 (y47)), (.int .i64 (y48)), v49, v51])]) ∧ record_Parse_j29 y45 y46 y47 y48 y50 y52 = some r) ?_ ?_))
      ·
       rintro ⟨b44, y45, y46, y47, y48, v49, y50, v51, y52⟩ w junk ⟨h, hs⟩
       refine wc_seq (wc_seq (wc_region (wl_ok (r_ldBN (vs := [(.int .i64 (y45)), (.int .i64 (y46)), (.int .i64 (y47)), (.int .i64 (y48)), v49, v51]) h 333 rfl Many24 rfl rfl rfl) (w_call fnOk13 rfl rfl (record_Check_c _ _ h.lt (⟨y45, y46, y47, y48, y50, y52⟩ : Rec) v49 v51 (h.ownS 225 rfl) (h.ownS 309 rfl) _ rfl) ?_))))
       rintro _ w ⟨k53, rfl⟩
       refine ⟨_, rfl, ?_⟩
       replace h := h.grow k53
       refine wl_ok (r_assign (v := (.int .i64 ((record_Check (⟨y45, y46, y47, y48, y50, y52⟩ : Rec))))) rfl) (wl_nil (then_normal (wc_seq (wc_region (wl_ok (r_move (v := (.int .i64 ((record_Check (⟨y45, y46, y47, y48, y50, y52⟩ : Rec))))) rfl) (wl_ok (r_neq rfl rfl) (wl_nil (then_normal (wc_ifb hs rfl (fun c54 hs => ?_) (fun c54 hs => ?_))))))))))
       ·
        refine wc_seq (wc_region (wl_ok (r_build (pv := []) (out := [(.int .i64 (0)), (.int .i64 (0)), (.int .i64 (0)), (.int .i64 (0)), (.slice none 0 0), (.slice none 0 0)]) Struct24 rfl rfl) (wl_ok (r_move (v := (.int .i64 ((record_Check (⟨y45, y46, y47, y48, y50, y52⟩ : Rec))))) rfl) (w_stN (vs := [(.int .i64 (0)), (.int .i64 (0)), (.int .i64 (0)), (.int .i64 (0)), (.slice none 0 0), (.slice none 0 0)]) h 1 [(.int .i64 (0)), (.int .i64 (0)), (.int .i64 (0)), (.int .i64 (0)), (.slice none 0 0), (.slice none 0 0)] rfl Many24 rfl rfl rfl rfl rfl (ones_cons rfl (ones_cons rfl (ones_cons rfl (ones_cons rfl (ones_cons rfl (ones_cons rfl ones_nil)))))) fun w h => wl_ok (r_assign (v := (.int .i64 ((record_Check (⟨y45, y46, y47, y48, y50, y52⟩ : Rec))))) rfl) (wl_nil (then_normal (wc_ret (then_ret (fin_ct (vs := [(.int .i64 (0)), (.int .i64 (0)), (.int .i64 (0)), (.int .i64 (0)), (.slice none 0 0), (.slice none 0 0)]) (v2 := (.int .i64 ((record_Check (⟨y45, y46, y47, y48, y50, y52⟩ : Rec))))) Tryd.results11 rfl rfl h 1 rfl Many24 rfl ?_)))))))))
        obtain rfl := Option.some.inj hs
        exact ⟨h.grown, _, _, rfl, Rd2.nil, Rd2.nil⟩
       ·
        refine wc_skip (then_normal (wc_seq (wc_region (wl_ok (r_ldBN (vs := [(.int .i64 (y45)), (.int .i64 (y46)), (.int .i64 (y47)), (.int .i64 (y48)), v49, v51]) h 333 rfl Many24 rfl rfl rfl) (w_stN (vs := [(.int .i64 (y45)), (.int .i64 (y46)), (.int .i64 (y47)), (.int .i64 (y48)), v49, v51]) h 1 [(.int .i64 (y45)), (.int .i64 (y46)), (.int .i64 (y47)), (.int .i64 (y48)), v49, v51] rfl Many24 rfl rfl rfl rfl rfl (ones_cons rfl (ones_cons rfl (ones_cons rfl (ones_cons rfl (ones_cons (h.ownAt 225 rfl).one (ones_cons (h.ownAt 309 rfl).one ones_nil)))))) fun w h => wl_ok (r_assign (v := (.int .i64 (0))) rfl) (wl_nil (then_normal (wc_ret (fin_ct (vs := [(.int .i64 (y45)), (.int .i64 (y46)), (.int .i64 (y47)), (.int .i64 (y48)), v49, v51]) (v2 := (.int .i64 (0))) Tryd.results11 rfl rfl h 1 rfl Many24 rfl ?_)))))))))
        replace h := h.freeze 225 rfl
        replace h := h.freeze 309 rfl
        obtain rfl := Option.some.inj hs
        exact ⟨h.grown, _, _, rfl, h.outRd 225 rfl, h.outRd 309 rfl⟩
      ·
       refine wc_held mixed h fun w h => wh_ok 0 (Keep.refl BE _) rfl want_none (by kernel_rfl) (by kernel_rfl) (by kernel_rfl) (fun w hk => r_move (v := v14) rfl) ?_
       obtain ⟨xq55x1_1, eq55x1_2, hs⟩ := o_bind hs
       obtain ⟨bq55x1_4, qq55x1_5, iq55x1_3⟩ := h.ixO 6 rfl SliceOf22 rfl (o_idx eq55x1_2).1 (o_idx eq55x1_2).2
       refine wh_ok 1 (Keep.refl BE _) rfl want_none (by kernel_rfl) (by kernel_rfl) (by kernel_rfl) (fun w hk => iq55x1_3 _ _ _ _ _ _ _ _ _ rfl rfl) ?_
       obtain ⟨csq55x2_1, mq55x2_2, rq55x2_3⟩ := h.elO 6 rfl qq55x1_5 (o_idx eq55x1_2).2
       obtain rfl := rq55x2_3
       refine wh_ok 2 (Keep.refl BE _) rfl want_none (by kernel_rfl) (by kernel_rfl) (by kernel_rfl) (fun w hk => have h := h.grow hk; r_ldA (k := 0) (mq55x2_2.grow hk) One3 rfl rfl) (wh_ok 3 (Keep.refl BE _) rfl want_none (by kernel_rfl) (by kernel_rfl) (by kernel_rfl) (fun w hk => r_move (v := v14) rfl) ?_)
       obtain ⟨xq55x4_1, eq55x4_2, hs⟩ := o_bind hs
       obtain ⟨bq55x4_4, qq55x4_5, iq55x4_3⟩ := h.ixO 6 rfl SliceOf22 rfl (o_idx eq55x4_2).1 (o_idx eq55x4_2).2
       refine wh_ok 4 (Keep.refl BE _) rfl want_none (by kernel_rfl) (by kernel_rfl) (by kernel_rfl) (fun w hk => iq55x4_3 _ _ _ _ _ _ _ _ _ rfl rfl) ?_
       obtain ⟨csq55x5_1, mq55x5_2, rq55x5_3⟩ := h.elO 6 rfl qq55x4_5 (o_idx eq55x4_2).2
       obtain rfl := rq55x5_3
       refine wh_ok 5 (Keep.refl BE _) rfl want_none (by kernel_rfl) (by kernel_rfl) (by kernel_rfl) (fun w hk => have h := h.grow hk; r_ldA (k := 0) (mq55x5_2.grow hk) One3 rfl rfl) (wh_ok 6 (Keep.refl BE _) rfl want_none (by kernel_rfl) (by kernel_rfl) (by kernel_rfl) (fun w hk => r_move (v := v14) rfl) ?_)
       obtain ⟨xq55x7_1, eq55x7_2, hs⟩ := o_bind hs
       obtain ⟨bq55x7_4, qq55x7_5, iq55x7_3⟩ := h.ixO 6 rfl SliceOf22 rfl (o_idx eq55x7_2).1 (o_idx eq55x7_2).2
       refine wh_ok 7 (Keep.refl BE _) rfl want_none (by kernel_rfl) (by kernel_rfl) (by kernel_rfl) (fun w hk => iq55x7_3 _ _ _ _ _ _ _ _ _ rfl rfl) ?_
       obtain ⟨csq55x8_1, mq55x8_2, rq55x8_3⟩ := h.elO 6 rfl qq55x7_5 (o_idx eq55x7_2).2
       obtain rfl := rq55x8_3
       refine wh_ok 8 (Keep.refl BE _) rfl want_none (by kernel_rfl) (by kernel_rfl) (by kernel_rfl) (fun w hk => have h := h.grow hk; r_ldA (k := 0) (mq55x8_2.grow hk) One3 rfl rfl) (wh_ok 9 (Keep.refl BE _) rfl want_none (by kernel_rfl) (by kernel_rfl) (by kernel_rfl) (fun w hk => r_move (v := v14) rfl) ?_)
       obtain ⟨xq55x10_1, eq55x10_2, hs⟩ := o_bind hs
       obtain ⟨bq55x10_4, qq55x10_5, iq55x10_3⟩ := h.ixO 6 rfl SliceOf22 rfl (o_idx eq55x10_2).1 (o_idx eq55x10_2).2
       refine wh_ok 10 (Keep.refl BE _) rfl want_none (by kernel_rfl) (by kernel_rfl) (by kernel_rfl) (fun w hk => iq55x10_3 _ _ _ _ _ _ _ _ _ rfl rfl) ?_
       obtain ⟨csq55x11_1, mq55x11_2, rq55x11_3⟩ := h.elO 6 rfl qq55x10_5 (o_idx eq55x10_2).2
       obtain rfl := rq55x11_3
       refine wh_ok 11 (Keep.refl BE _) rfl want_none (by kernel_rfl) (by kernel_rfl) (by kernel_rfl) (fun w hk => have h := h.grow hk; r_ldA (k := 0) (mq55x11_2.grow hk) One3 rfl rfl) (wh_ok 12 (Keep.refl BE _) rfl want_none (by kernel_rfl) (by kernel_rfl) (by kernel_rfl) (fun w hk => r_move (v := v14) rfl) (wh_ok 13 (Keep.refl BE _) rfl want_none (by kernel_rfl) (by kernel_rfl) (by kernel_rfl) (fun w hk => r_move (v := v14) rfl) ?_))
       obtain ⟨xq55x14_1, eq55x14_2, hs⟩ := o_bind hs
       obtain ⟨bq55x14_4, qq55x14_5, iq55x14_3⟩ := h.ixO 6 rfl SliceOf22 rfl (o_idx eq55x14_2).1 (o_idx eq55x14_2).2
       refine wh_ok 14 (Keep.refl BE _) rfl want_none (by kernel_rfl) (by kernel_rfl) (by kernel_rfl) (fun w hk => iq55x14_3 _ _ _ _ _ _ _ _ _ rfl rfl) ?_
       obtain ⟨csq55x15_1, mq55x15_2, rq55x15_3⟩ := h.elO 6 rfl qq55x14_5 (o_idx eq55x14_2).2
       obtain rfl := rq55x15_3
       refine wh_ok 15 (Keep.refl BE _) rfl want_none (by kernel_rfl) (by kernel_rfl) (by kernel_rfl) (fun w hk => have h := h.grow hk; r_ldA (k := 0) (mq55x15_2.grow hk) One3 rfl rfl) ?_
       obtain ⟨aq55x16_1, hs⟩ := o_grd hs
       refine wh_ok 16 (Keep.refl BE _) rfl want_none (by kernel_rfl) (by kernel_rfl) (by kernel_rfl) (fun w hk => r_add rfl rfl aq55x16_1) ?_
       obtain ⟨xq55x17_1, eq55x17_2, hs⟩ := o_bind hs
       obtain ⟨eq55x17_5, eq55x17_5a, eq55x17_5b, eq55x17_5c⟩ := o_sub eq55x17_2
       obtain ⟨uq55x17_3, iq55x17_4, -, iq55x17_4v⟩ := r_slv SliceOf22 (h.ownS 6 rfl) eq55x17_5a eq55x17_5b eq55x17_5c
       refine wh_ok 17 (Keep.refl BE _) rfl want_none (by kernel_rfl) (by kernel_rfl) (by kernel_rfl) (fun w hk => iq55x17_4 _ _ _ _ _ _ _ _ _ _ rfl (.inr (congrArg some rfl)) (.inr (congrArg some rfl))) (wh_ok 19 (Keep.refl BE _) rfl want_none (by kernel_rfl) (by kernel_rfl) (by kernel_rfl) (fun w hk => r_move (v := v14) rfl) (wh_ok 20 (Keep.refl BE _) rfl want_none (by kernel_rfl) (by kernel_rfl) (by kernel_rfl) (fun w hk => r_move (v := v14) rfl) ?_))
       obtain ⟨bq55x21_2, qq55x21_3, iq55x21_1⟩ := h.ixO 6 rfl SliceOf22 rfl (o_idx eq55x14_2).1 (o_idx eq55x14_2).2
       refine wh_ok 21 (Keep.refl BE _) rfl want_none (by kernel_rfl) (by kernel_rfl) (by kernel_rfl) (fun w hk => iq55x21_1 _ _ _ _ _ _ _ _ _ rfl rfl) ?_
       obtain ⟨csq55x22_1, mq55x22_2, rq55x22_3⟩ := h.elO 6 rfl qq55x21_3 (o_idx eq55x14_2).2
       obtain rfl := rq55x22_3
       refine wh_ok 22 (Keep.refl BE _) rfl want_none (by kernel_rfl) (by kernel_rfl) (by kernel_rfl) (fun w hk => have h := h.grow hk; r_ldA (k := 0) (mq55x22_2.grow hk) One3 rfl rfl) ?_
       obtain ⟨aq55x23_1, hs⟩ := o_grd hs
       refine wh_ok 23 (Keep.refl BE _) rfl want_none (by kernel_rfl) (by kernel_rfl) (by kernel_rfl) (fun w hk => r_add rfl rfl aq55x23_1) ?_
       obtain ⟨xq55x24_1, eq55x24_2, hs⟩ := o_bind hs
       obtain ⟨eq55x24_5, eq55x24_5a, eq55x24_5b, eq55x24_5c⟩ := o_sub eq55x24_2
       obtain ⟨uq55x24_3, iq55x24_4, -, iq55x24_4v⟩ := r_slv SliceOf22 (h.ownS 6 rfl) eq55x24_5a eq55x24_5b eq55x24_5c
       refine wh_ok 24 (Keep.refl BE _) rfl want_none (by kernel_rfl) (by kernel_rfl) (by kernel_rfl) (fun w hk => iq55x24_4 _ _ _ _ _ _ _ _ _ _ rfl (.inr (congrArg some rfl)) (.inl ⟨rfl, rfl⟩)) ?_
       obtain ⟨yq55x18_1, eq55x18_2, hs⟩ := o_bind hs
       obtain ⟨yq55x25_1, eq55x25_2, hs⟩ := o_bind hs
       obtain ⟨ws56, ws56e⟩ : ∃ x, x = w := ⟨_, rfl⟩
       have hg57 : Grow ws56 w := ws56e ▸ Keep.refl BE w
       refine wh_at ws56e.symm (wh_eff2 18 27 (by kernel_rfl) rfl want_none rfl want_none ?_ ?_)
       ·
        refine w_call fnOk42 rfl rfl (slices_Clone_int_c _ _ h.lt uq55x17_3 xq55x17_1 (by rw [eq55x17_5]; exact iq55x17_4v _ _ _ _ (h.ownS 6 rfl) rfl) _ eq55x18_2) ?_
        rintro _ w ⟨kq55x18_6, uq55x18_3, rfl, gq55x18_4, gq55x18_5⟩
        refine ⟨_, rfl, ?_⟩
        replace h := h.gotOwn 225 kq55x18_6 gq55x18_4 gq55x18_5
        have uq55x18_3q : ∀ b, ob uq55x18_3 b → ws56.heap.size ≤ b := fun b hb => Nat.le_trans hg57.size (gq55x18_5 b hb)
        replace hg57 := hg57.trans kq55x18_6
        refine wl_nil (wh_back hg57 (wh_eff2 25 27 (by kernel_rfl) rfl want_none rfl want_none ?_ ?_))
        ·
         refine w_call fnOk42 rfl rfl (slices_Clone_int_c _ _ h.lt uq55x24_3 xq55x24_1 (by rw [eq55x24_5]; exact iq55x24_4v _ _ _ _ (h.ownS 6 rfl) rfl) _ eq55x25_2) ?_
         rintro _ w ⟨kq55x25_6, uq55x25_3, rfl, gq55x25_4, gq55x25_5⟩
         refine ⟨_, rfl, ?_⟩
         replace h := h.gotOwn 309 kq55x25_6 gq55x25_4 gq55x25_5
         have uq55x25_3q : ∀ b, ob uq55x25_3 b → ws56.heap.size ≤ b := fun b hb => Nat.le_trans hg57.size (gq55x25_5 b hb)
         replace hg57 := hg57.trans kq55x25_6
         refine wl_nil (wh_back hg57 (wh_ok 26 hg57 rfl want_none (by kernel_rfl) (by kernel_rfl) (by kernel_rfl) (fun w hk => r_build (pv := [(0, (.int .i64 (xq55x1_1))), (1, (.int .i64 (xq55x4_1))), (2, (.int .i64 (xq55x7_1))), (3, (.int .i64 (xq55x10_1))), (4, uq55x18_3), (5, uq55x25_3)]) (out := [(.int .i64 (xq55x1_1)), (.int .i64 (xq55x4_1)), (.int .i64 (xq55x7_1)), (.int .i64 (xq55x10_1)), uq55x18_3, uq55x25_3]) Struct24 rfl ⟨0, 1, [(.int .i64 (xq55x1_1))], rfl, rfl, rfl, Nat.le_of_ble_eq_true rfl, ⟨1, 1, [(.int .i64 (xq55x4_1))], rfl, rfl, rfl, Nat.le_of_ble_eq_true rfl, ⟨2, 1, [(.int .i64 (xq55x7_1))], rfl, rfl, rfl, Nat.le_of_ble_eq_true rfl, ⟨3, 1, [(.int .i64 (xq55x10_1))], rfl, rfl, rfl, Nat.le_of_ble_eq_true rfl, ⟨4, 1, [uq55x18_3], rfl, (toList_of_one (h.ownAt 225 rfl).one), rfl, Nat.le_of_ble_eq_true rfl, ⟨5, 1, [uq55x25_3], rfl, (toList_of_one (h.ownAt 309 rfl).one), rfl, Nat.le_of_ble_eq_true rfl, rfl⟩⟩⟩⟩⟩⟩) (wh_eff 27 (by kernel_rfl) rfl want_none (w_allocNG h 333 Many24 fun w bq55x27_1 h bq55x27_1k bq55x27_1f => ?_))))
         have bq55x27_1q : ws56.heap.size ≤ bq55x27_1 := Nat.le_trans hg57.size bq55x27_1f
         replace hg57 := hg57.trans bq55x27_1k
         refine wl_nil (wh_back hg57 (wh_eff 28 (by kernel_rfl) rfl want_none (w_stNG (vs := [(.int .i64 (xq55x1_1)), (.int .i64 (xq55x4_1)), (.int .i64 (xq55x7_1)), (.int .i64 (xq55x10_1)), uq55x18_3, uq55x25_3]) h 333 [(.int .i64 (xq55x1_1)), (.int .i64 (xq55x4_1)), (.int .i64 (xq55x7_1)), (.int .i64 (xq55x10_1)), uq55x18_3, uq55x25_3] rfl Many24 rfl rfl rfl rfl rfl (ones_cons rfl (ones_cons rfl (ones_cons rfl (ones_cons rfl (ones_cons (h.ownAt 225 rfl).one (ones_cons (h.ownAt 309 rfl).one ones_nil)))))) fun w h kq55x28_1 => ?_)))
         replace hg57 := hg57.fresh kq55x28_1 (fun x hx => hx ▸ bq55x27_1q)
         refine wl_nil (wh_back hg57 (wh_done (by kernel_rfl) (then_loop ?_)))
         exact jend (bq55x27_1, xq55x1_1, xq55x4_1, xq55x7_1, xq55x10_1, uq55x18_3, yq55x18_1, uq55x25_3, yq55x25_1) ⟨h.cn _, hs⟩
        ·
         refine w_allocNG h 333 Many24 fun w bq55x27_1 h bq55x27_1k bq55x27_1f => ?_
         have bq55x27_1q : ws56.heap.size ≤ bq55x27_1 := Nat.le_trans hg57.size bq55x27_1f
         replace hg57 := hg57.trans bq55x27_1k
         refine wl_nil (wh_back hg57 (wh_eff 25 (by kernel_rfl) rfl want_none (w_call fnOk42 rfl rfl (slices_Clone_int_c _ _ h.lt uq55x24_3 xq55x24_1 (by rw [eq55x24_5]; exact iq55x24_4v _ _ _ _ (h.ownS 6 rfl) rfl) _ eq55x25_2) ?_)))
         rintro _ w ⟨kq55x25_6, uq55x25_3, rfl, gq55x25_4, gq55x25_5⟩
         refine ⟨_, rfl, ?_⟩
         replace h := h.gotOwn 309 kq55x25_6 gq55x25_4 gq55x25_5
         have uq55x25_3q : ∀ b, ob uq55x25_3 b → ws56.heap.size ≤ b := fun b hb => Nat.le_trans hg57.size (gq55x25_5 b hb)
         replace hg57 := hg57.trans kq55x25_6
         refine wl_nil (wh_back hg57 (wh_ok 26 hg57 rfl want_none (by kernel_rfl) (by kernel_rfl) (by kernel_rfl) (fun w hk => r_build (pv := [(0, (.int .i64 (xq55x1_1))), (1, (.int .i64 (xq55x4_1))), (2, (.int .i64 (xq55x7_1))), (3, (.int .i64 (xq55x10_1))), (4, uq55x18_3), (5, uq55x25_3)]) (out := [(.int .i64 (xq55x1_1)), (.int .i64 (xq55x4_1)), (.int .i64 (xq55x7_1)), (.int .i64 (xq55x10_1)), uq55x18_3, uq55x25_3]) Struct24 rfl ⟨0, 1, [(.int .i64 (xq55x1_1))], rfl, rfl, rfl, Nat.le_of_ble_eq_true rfl, ⟨1, 1, [(.int .i64 (xq55x4_1))], rfl, rfl, rfl, Nat.le_of_ble_eq_true rfl, ⟨2, 1, [(.int .i64 (xq55x7_1))], rfl, rfl, rfl, Nat.le_of_ble_eq_true rfl, ⟨3, 1, [(.int .i64 (xq55x10_1))], rfl, rfl, rfl, Nat.le_of_ble_eq_true rfl, ⟨4, 1, [uq55x18_3], rfl, (toList_of_one (h.ownAt 225 rfl).one), rfl, Nat.le_of_ble_eq_true rfl, ⟨5, 1, [uq55x25_3], rfl, (toList_of_one (h.ownAt 309 rfl).one), rfl, Nat.le_of_ble_eq_true rfl, rfl⟩⟩⟩⟩⟩⟩) (wh_eff 28 (by kernel_rfl) rfl want_none (w_stNG (vs := [(.int .i64 (xq55x1_1)), (.int .i64 (xq55x4_1)), (.int .i64 (xq55x7_1)), (.int .i64 (xq55x10_1)), uq55x18_3, uq55x25_3]) h 333 [(.int .i64 (xq55x1_1)), (.int .i64 (xq55x4_1)), (.int .i64 (xq55x7_1)), (.int .i64 (xq55x10_1)), uq55x18_3, uq55x25_3] rfl Many24 rfl rfl rfl rfl rfl (ones_cons rfl (ones_cons rfl (ones_cons rfl (ones_cons rfl (ones_cons (h.ownAt 225 rfl).one (ones_cons (h.ownAt 309 rfl).one ones_nil)))))) fun w h kq55x28_1 => ?_))))
         replace hg57 := hg57.fresh kq55x28_1 (fun x hx => hx ▸ bq55x27_1q)
         refine wl_nil (wh_back hg57 (wh_done (by kernel_rfl) (then_loop ?_)))
         exact jend (bq55x27_1, xq55x1_1, xq55x4_1, xq55x7_1, xq55x10_1, uq55x18_3, yq55x18_1, uq55x25_3, yq55x25_1) ⟨h.cn _, hs⟩
       ·
        refine w_allocNG h 333 Many24 fun w bq55x27_1 h bq55x27_1k bq55x27_1f => ?_
        have bq55x27_1q : ws56.heap.size ≤ bq55x27_1 := Nat.le_trans hg57.size bq55x27_1f
        replace hg57 := hg57.trans bq55x27_1k
        refine wl_nil (wh_back hg57 (wh_eff 18 (by kernel_rfl) rfl want_none (w_call fnOk42 rfl rfl (slices_Clone_int_c _ _ h.lt uq55x17_3 xq55x17_1 (by rw [eq55x17_5]; exact iq55x17_4v _ _ _ _ (h.ownS 6 rfl) rfl) _ eq55x18_2) ?_)))
        rintro _ w ⟨kq55x18_6, uq55x18_3, rfl, gq55x18_4, gq55x18_5⟩
        refine ⟨_, rfl, ?_⟩
        replace h := h.gotOwn 225 kq55x18_6 gq55x18_4 gq55x18_5
        have uq55x18_3q : ∀ b, ob uq55x18_3 b → ws56.heap.size ≤ b := fun b hb => Nat.le_trans hg57.size (gq55x18_5 b hb)
        replace hg57 := hg57.trans kq55x18_6
        refine wl_nil (wh_back hg57 (wh_eff 25 (by kernel_rfl) rfl want_none (w_call fnOk42 rfl rfl (slices_Clone_int_c _ _ h.lt uq55x24_3 xq55x24_1 (by rw [eq55x24_5]; exact iq55x24_4v _ _ _ _ (h.ownS 6 rfl) rfl) _ eq55x25_2) ?_)))
        rintro _ w ⟨kq55x25_6, uq55x25_3, rfl, gq55x25_4, gq55x25_5⟩
        refine ⟨_, rfl, ?_⟩
        replace h := h.gotOwn 309 kq55x25_6 gq55x25_4 gq55x25_5
        have uq55x25_3q : ∀ b, ob uq55x25_3 b → ws56.heap.size ≤ b := fun b hb => Nat.le_trans hg57.size (gq55x25_5 b hb)
        replace hg57 := hg57.trans kq55x25_6
        refine wl_nil (wh_back hg57 (wh_ok 26 hg57 rfl want_none (by kernel_rfl) (by kernel_rfl) (by kernel_rfl) (fun w hk => r_build (pv := [(0, (.int .i64 (xq55x1_1))), (1, (.int .i64 (xq55x4_1))), (2, (.int .i64 (xq55x7_1))), (3, (.int .i64 (xq55x10_1))), (4, uq55x18_3), (5, uq55x25_3)]) (out := [(.int .i64 (xq55x1_1)), (.int .i64 (xq55x4_1)), (.int .i64 (xq55x7_1)), (.int .i64 (xq55x10_1)), uq55x18_3, uq55x25_3]) Struct24 rfl ⟨0, 1, [(.int .i64 (xq55x1_1))], rfl, rfl, rfl, Nat.le_of_ble_eq_true rfl, ⟨1, 1, [(.int .i64 (xq55x4_1))], rfl, rfl, rfl, Nat.le_of_ble_eq_true rfl, ⟨2, 1, [(.int .i64 (xq55x7_1))], rfl, rfl, rfl, Nat.le_of_ble_eq_true rfl, ⟨3, 1, [(.int .i64 (xq55x10_1))], rfl, rfl, rfl, Nat.le_of_ble_eq_true rfl, ⟨4, 1, [uq55x18_3], rfl, (toList_of_one (h.ownAt 225 rfl).one), rfl, Nat.le_of_ble_eq_true rfl, ⟨5, 1, [uq55x25_3], rfl, (toList_of_one (h.ownAt 309 rfl).one), rfl, Nat.le_of_ble_eq_true rfl, rfl⟩⟩⟩⟩⟩⟩) (wh_eff 28 (by kernel_rfl) rfl want_none (w_stNG (vs := [(.int .i64 (xq55x1_1)), (.int .i64 (xq55x4_1)), (.int .i64 (xq55x7_1)), (.int .i64 (xq55x10_1)), uq55x18_3, uq55x25_3]) h 333 [(.int .i64 (xq55x1_1)), (.int .i64 (xq55x4_1)), (.int .i64 (xq55x7_1)), (.int .i64 (xq55x10_1)), uq55x18_3, uq55x25_3] rfl Many24 rfl rfl rfl rfl rfl (ones_cons rfl (ones_cons rfl (ones_cons rfl (ones_cons rfl (ones_cons (h.ownAt 225 rfl).one (ones_cons (h.ownAt 309 rfl).one ones_nil)))))) fun w h kq55x28_1 => ?_))))
        replace hg57 := hg57.fresh kq55x28_1 (fun x hx => hx ▸ bq55x27_1q)
        refine wl_nil (wh_back hg57 (wh_done (by kernel_rfl) (then_loop ?_)))
        exact jend (bq55x27_1, xq55x1_1, xq55x4_1, xq55x7_1, xq55x10_1, uq55x18_3, yq55x18_1, uq55x25_3, yq55x25_1) ⟨h.cn _, hs⟩
    ·
     refine wc_region (wl_ok (r_move (v := v14) rfl) (wl_ok (r_len SliceOf22 rfl (h.ownS 6 rfl)) (wl_ok (r_lss rfl rfl) (wl_ok (r_move (v := (.bool (decide (((x15.length : Int) : Int) < 5)))) rfl) (c_split (b := decide (((x15.length : Int) : Int) < 5)) hs (fun c58 hs => ?_) (fun c58 hs => ?_))))))
     ·
      refine wl_off (b' := true) rfl (congrArg Value.bool c58) rfl (wl_off (b' := true) rfl (congrArg Value.bool c58) rfl (wl_off (b' := true) rfl (congrArg Value.bool c58) rfl (wl_off (b' := true) rfl (congrArg Value.bool c58) rfl (wl_ok (r_pick (b := true) (v := (.bool (true))) (congrArg Value.bool c58) rfl) (wl_ok (r_move (v := (.bool (true))) rfl) (wl_off (b' := true) rfl rfl rfl (wl_off (b' := true) rfl rfl rfl (wl_off (b' := true) rfl rfl rfl (wl_off (b' := true) rfl rfl rfl (wl_off (b' := true) rfl rfl rfl (wl_off (b' := true) rfl rfl rfl (wl_off (b' := true) rfl rfl rfl (wl_ok (r_pick (b := true) (v := (.bool (true))) rfl rfl) (wl_nil (then_loop ?_)))))))))))))))
      exact jend true ⟨h.cn _, hs⟩
     ·
      refine wl_on rfl (congrArg Value.bool c58) (wl_ok (r_move (v := v14) rfl) (wl_on rfl (congrArg Value.bool c58) ?_))
      obtain ⟨x59, e60, hs⟩ := o_bind hs
      obtain ⟨b62, q63, i61⟩ := h.ixO 6 rfl SliceOf22 rfl (o_idx e60).1 (o_idx e60).2
      refine wl_ok (i61 _ _ _ _ _ _ _ _ _ rfl rfl) (wl_on rfl (congrArg Value.bool c58) ?_)
      obtain ⟨cs64, m65, r66⟩ := h.elO 6 rfl q63 (o_idx e60).2
      obtain rfl := r66
      refine wl_ok (r_ldA (k := 0) m65 One3 rfl rfl) (wl_on rfl (congrArg Value.bool c58) (wl_ok (r_lss rfl rfl) (wl_ok (r_pick (b := false) (v := (.bool (decide ((x59 : Int) < 0)))) (congrArg Value.bool c58) rfl) (wl_ok (r_move (v := (.bool (decide ((x59 : Int) < 0)))) rfl) (c_split (b := decide ((x59 : Int) < 0)) hs (fun c70 hs => ?_) (fun c70 hs => ?_))))))
      ·
       refine wl_off (b' := true) rfl (congrArg Value.bool c70) rfl (wl_off (b' := true) rfl (congrArg Value.bool c70) rfl (wl_off (b' := true) rfl (congrArg Value.bool c70) rfl (wl_off (b' := true) rfl (congrArg Value.bool c70) rfl (wl_off (b' := true) rfl (congrArg Value.bool c70) rfl (wl_off (b' := true) rfl (congrArg Value.bool c70) rfl (wl_off (b' := true) rfl (congrArg Value.bool c70) rfl (wl_ok (r_pick (b := true) (v := (.bool (true))) (congrArg Value.bool c70) rfl) (wl_nil (then_loop ?_)))))))))
       exact jend true ⟨h.cn _, hs⟩
      ·
       refine wl_on rfl (congrArg Value.bool c70) (wl_ok (r_move (v := v14) rfl) (wl_on rfl (congrArg Value.bool c70) ?_))
       obtain ⟨b72, q73, i71⟩ := h.ixO 6 rfl SliceOf22 rfl (o_idx e60).1 (o_idx e60).2
       refine wl_ok (i71 _ _ _ _ _ _ _ _ _ rfl rfl) (wl_on rfl (congrArg Value.bool c70) ?_)
       obtain ⟨cs74, m75, r76⟩ := h.elO 6 rfl q73 (o_idx e60).2
       obtain rfl := r76
       refine wl_ok (r_ldA (k := 0) m75 One3 rfl rfl) (wl_on rfl (congrArg Value.bool c70) (wl_ok (r_move (v := v14) rfl) (wl_on rfl (congrArg Value.bool c70) (wl_ok (r_len SliceOf22 rfl (h.ownS 6 rfl)) (wl_on rfl (congrArg Value.bool c70) ?_)))))
       obtain ⟨a77, hs⟩ := o_grd hs
       refine wl_ok (r_sub rfl rfl a77) (wl_on rfl (congrArg Value.bool c70) (wl_ok (r_gtr rfl rfl) (wl_ok (r_pick (b := false) (v := (.bool (decide ((((x15.length : Int) - 5) : Int) < x59)))) (congrArg Value.bool c70) rfl) (wl_nil (then_loop ?_)))))
       exact jend (decide ((((x15.length : Int) - 5) : Int) < x59)) ⟨h.cn _, hs⟩
def wandererref_in (a : Int) (b : Int) (c : Int) : Bool :=
  (decide ((b : Int) ≤ a) && decide ((a : Int) ≤ c))
theorem wandererref_in_c (w0 : World) (M : BS) (hM : ∀ b, M b → b < w0.heap.size) (a : Int) (b : Int) (c : Int) (r : Bool) (hs : wandererref_in a b c = r) :
    Calls Tryd.prog 45 #[(.int .i64 (a)), (.int .i64 (b)), (.int .i64 (c))] w0 (fun e w' => Grow w0 w' ∧ e = .returned (.bool r)) := by
 refine calls_start (args := [(.int .i64 (a)), (.int .i64 (b)), (.int .i64 (c))]) Tryd.func45 rfl Tryd.ntmps45 (Nat.le_of_ble_eq_true rfl) ?_
 have h := SH.init hM
 refine wc_seq (wc_region (wl_ok (r_assign (v := (.bool (false))) rfl) (wl_nil (then_normal (wc_seq (wc_region (wl_ok (r_move (v := (.int .i64 (b))) rfl) (wl_ok (r_move (v := (.int .i64 (a))) rfl) (wl_ok (r_leq rfl rfl) (wl_ok (r_move (v := (.bool (decide ((b : Int) ≤ a)))) rfl) (wl_gd0 rfl rfl (fun q => r_move (v := (.int .i64 (a))) rfl) (wl_gd0 rfl rfl (fun q => r_move (v := (.int .i64 (c))) rfl) (wl_gd0 rfl rfl (fun q => r_leq (gvt q) (gvt q)) (wl_ok (r_pand rfl rfl evc) (wl_ok (r_assign (v := (.bool ((decide ((b : Int) ≤ a) && decide ((a : Int) ≤ c))))) rfl) (wl_nil (then_normal (wc_ret (fin1 (v := (.bool ((decide ((b : Int) ≤ a) && decide ((a : Int) ≤ c))))) Tryd.results45 rfl ?_)))))))))))))))))))
 obtain rfl := hs
 exact ⟨h.grown, rfl⟩
theorem strings_Contains_c (w0 : World) (M : BS) (hM : ∀ b, M b → b < w0.heap.size) (a : Str) (b : UInt8) (r : Bool) (hs : hasB a b = r) :
    Calls Tryd.prog 68 #[(strV a), (strV [b])] w0 (fun e w' => Grow w0 w' ∧ e = .returned (.bool r)) := by
  refine (Tryd.strings_Contains_one ⟨a.toArray⟩ b w0).mono ?_
  rintro e w' ⟨rfl, rfl⟩
  subst hs
  exact ⟨Keep.refl _ _, by simp [hasB]⟩
def wandererref_CheckRec_1_80 (z0_0 : Str) : Bool :=
  (hasB z0_0 80)
theorem wandererref_CheckRec_1_80_c (w0 : World) (M : BS) (hM : ∀ b, M b → b < w0.heap.size) (z0_0 : Str) (q0 : Nat) (hq0 : ∃ E, w0.heap[q0]? = some (.cells #[(strV z0_0)] E (0, 0))) (r : Bool) (hs : wandererref_CheckRec_1_80 z0_0 = r) :
    Calls Tryd.prog 67 #[(strV [80]), (.pointer (some ⟨q0, 0, none⟩))] w0 (fun e w' => Grow w0 w' ∧ e = .returned (.bool r)) := by
 refine calls_start (args := [(strV [80]), (.pointer (some ⟨q0, 0, none⟩))]) Tryd.func67 rfl Tryd.ntmps67 (Nat.le_of_ble_eq_true rfl) ?_
 have h := SH.init hM
 replace h := h.argPt 1 (cs := [(strV z0_0)]) hq0 none_own
 refine wc_seq (wc_region (wl_ok (r_assign (v := (.bool (false))) rfl) (wl_nil (then_normal (wc_seq (wc_region (wl_ok (r_ldP (k := 0) h 1 rfl One9 rfl rfl) (wl_ok (r_move (v := (strV [80])) rfl) (w_call fnOk68 rfl rfl (strings_Contains_c _ _ h.lt z0_0 80 _ rfl) ?_)))))))))
 rintro _ w ⟨k1, rfl⟩
 refine ⟨_, rfl, ?_⟩
 replace h := h.grow k1
 refine wl_ok (r_assign (v := (.bool ((hasB z0_0 80)))) rfl) (wl_nil (then_normal (wc_ret (fin1 (v := (.bool ((hasB z0_0 80)))) Tryd.results67 rfl ?_))))
 obtain rfl := hs
 exact ⟨h.grown, rfl⟩
def wandererref_CheckRec_1_83 (z0_0 : Str) : Bool :=
  (hasB z0_0 83)
theorem wandererref_CheckRec_1_83_c (w0 : World) (M : BS) (hM : ∀ b, M b → b < w0.heap.size) (z0_0 : Str) (q0 : Nat) (hq0 : ∃ E, w0.heap[q0]? = some (.cells #[(strV z0_0)] E (0, 0))) (r : Bool) (hs : wandererref_CheckRec_1_83 z0_0 = r) :
    Calls Tryd.prog 67 #[(strV [83]), (.pointer (some ⟨q0, 0, none⟩))] w0 (fun e w' => Grow w0 w' ∧ e = .returned (.bool r)) := by
 refine calls_start (args := [(strV [83]), (.pointer (some ⟨q0, 0, none⟩))]) Tryd.func67 rfl Tryd.ntmps67 (Nat.le_of_ble_eq_true rfl) ?_
 have h := SH.init hM
 replace h := h.argPt 1 (cs := [(strV z0_0)]) hq0 none_own
 refine wc_seq (wc_region (wl_ok (r_assign (v := (.bool (false))) rfl) (wl_nil (then_normal (wc_seq (wc_region (wl_ok (r_ldP (k := 0) h 1 rfl One9 rfl rfl) (wl_ok (r_move (v := (strV [83])) rfl) (w_call fnOk68 rfl rfl (strings_Contains_c _ _ h.lt z0_0 83 _ rfl) ?_)))))))))
 rintro _ w ⟨k1, rfl⟩
 refine ⟨_, rfl, ?_⟩
 replace h := h.grow k1
 refine wl_ok (r_assign (v := (.bool ((hasB z0_0 83)))) rfl) (wl_nil (then_normal (wc_ret (fin1 (v := (.bool ((hasB z0_0 83)))) Tryd.results67 rfl ?_))))
 obtain rfl := hs
 exact ⟨h.grown, rfl⟩
def wandererref_CheckRec_1_73 (z0_0 : Str) : Bool :=
  (hasB z0_0 73)
theorem wandererref_CheckRec_1_73_c (w0 : World) (M : BS) (hM : ∀ b, M b → b < w0.heap.size) (z0_0 : Str) (q0 : Nat) (hq0 : ∃ E, w0.heap[q0]? = some (.cells #[(strV z0_0)] E (0, 0))) (r : Bool) (hs : wandererref_CheckRec_1_73 z0_0 = r) :
    Calls Tryd.prog 67 #[(strV [73]), (.pointer (some ⟨q0, 0, none⟩))] w0 (fun e w' => Grow w0 w' ∧ e = .returned (.bool r)) := by
 refine calls_start (args := [(strV [73]), (.pointer (some ⟨q0, 0, none⟩))]) Tryd.func67 rfl Tryd.ntmps67 (Nat.le_of_ble_eq_true rfl) ?_
 have h := SH.init hM
 replace h := h.argPt 1 (cs := [(strV z0_0)]) hq0 none_own
 refine wc_seq (wc_region (wl_ok (r_assign (v := (.bool (false))) rfl) (wl_nil (then_normal (wc_seq (wc_region (wl_ok (r_ldP (k := 0) h 1 rfl One9 rfl rfl) (wl_ok (r_move (v := (strV [73])) rfl) (w_call fnOk68 rfl rfl (strings_Contains_c _ _ h.lt z0_0 73 _ rfl) ?_)))))))))
 rintro _ w ⟨k1, rfl⟩
 refine ⟨_, rfl, ?_⟩
 replace h := h.grow k1
 refine wl_ok (r_assign (v := (.bool ((hasB z0_0 73)))) rfl) (wl_nil (then_normal (wc_ret (fin1 (v := (.bool ((hasB z0_0 73)))) Tryd.results67 rfl ?_))))
 obtain rfl := hs
 exact ⟨h.grown, rfl⟩
def wandererref_CheckRec_j2 (x10 : Bool) : Int :=
  bif x10 then 4 else 0
def wandererref_CheckRec (a : Rec) : Int :=
  bif (!(lk a.kind ([(1, [73]), (2, [83, 73]), (3, [80]), (4, [73]), (5, [])] : List (Int × Str))).isSome) then 4 else bif (((!(wandererref_in a.co 0 2)) || (!(wandererref_in a.epoch 0 100))) || (!(wandererref_in a.place 0 2))) then 3 else bif (decide ((40 : Int) < (a.says.length : Int)) || decide ((1200 : Int) < (a.image.length : Int))) then 2 else bif decide ((a.place : Int) ≠ 0) then bif (!(wandererref_CheckRec_1_80 ((lk a.kind ([(1, [73]), (2, [83, 73]), (3, [80]), (4, [73]), (5, [])] : List (Int × Str))).getD []))) then wandererref_CheckRec_j2 true else bif decide ((0 : Int) < (a.says.length : Int)) then bif (!(wandererref_CheckRec_1_83 ((lk a.kind ([(1, [73]), (2, [83, 73]), (3, [80]), (4, [73]), (5, [])] : List (Int × Str))).getD []))) then wandererref_CheckRec_j2 true else bif (decide ((0 : Int) < (a.image.length : Int)) != (wandererref_CheckRec_1_73 ((lk a.kind ([(1, [73]), (2, [83, 73]), (3, [80]), (4, [73]), (5, [])] : List (Int × Str))).getD []))) then wandererref_CheckRec_j2 true else wandererref_CheckRec_j2 (decide ((a.epoch : Int) = 0)) else bif (decide ((0 : Int) < (a.image.length : Int)) != (wandererref_CheckRec_1_73 ((lk a.kind ([(1, [73]), (2, [83, 73]), (3, [80]), (4, [73]), (5, [])] : List (Int × Str))).getD []))) then wandererref_CheckRec_j2 true else wandererref_CheckRec_j2 (decide ((a.epoch : Int) = 0)) else bif decide ((0 : Int) < (a.says.length : Int)) then bif (!(wandererref_CheckRec_1_83 ((lk a.kind ([(1, [73]), (2, [83, 73]), (3, [80]), (4, [73]), (5, [])] : List (Int × Str))).getD []))) then wandererref_CheckRec_j2 true else bif (decide ((0 : Int) < (a.image.length : Int)) != (wandererref_CheckRec_1_73 ((lk a.kind ([(1, [73]), (2, [83, 73]), (3, [80]), (4, [73]), (5, [])] : List (Int × Str))).getD []))) then wandererref_CheckRec_j2 true else wandererref_CheckRec_j2 (decide ((a.epoch : Int) = 0)) else bif (decide ((0 : Int) < (a.image.length : Int)) != (wandererref_CheckRec_1_73 ((lk a.kind ([(1, [73]), (2, [83, 73]), (3, [80]), (4, [73]), (5, [])] : List (Int × Str))).getD []))) then wandererref_CheckRec_j2 true else wandererref_CheckRec_j2 (decide ((a.epoch : Int) = 0))
theorem wandererref_CheckRec_c (w0 : World) (M : BS) (hM : ∀ b, M b → b < w0.heap.size) (a : Rec) (va4 va5 : Value) (ha4 : Rd2 rInt w0 BE M va4 a.says) (ha5 : Rd2 rInt w0 BE M va5 a.image) (r : Int) (hs : wandererref_CheckRec a = r) :
    Calls Tryd.prog 43 #[(.agg #[(.int .i64 (a.kind)), (.int .i64 (a.co)), (.int .i64 (a.epoch)), (.int .i64 (a.place)), va4, va5])] w0 (fun e w' => Grow w0 w' ∧ e = .returned (.int .i64 r)) := by
 refine calls_start (args := [(.agg #[(.int .i64 (a.kind)), (.int .i64 (a.co)), (.int .i64 (a.epoch)), (.int .i64 (a.place)), va4, va5])]) Tryd.func43 rfl Tryd.ntmps43 (Nat.le_of_ble_eq_true rfl) ?_
 have h := SH.init hM
 replace h := h.argSr 1 ha4 none_own
 replace h := h.argSr 2 ha5 (hupd_own_sr none_own)
 refine wc_seq (wc_region (w_box (cs := [(.int .i64 (a.kind)), (.int .i64 (a.co)), (.int .i64 (a.epoch)), (.int .i64 (a.place)), va4, va5]) h 3 rfl rfl fun w b1 h => wl_ok (r_assign (v := (.int .i64 (0))) rfl) (wl_nil (then_normal (wc_seq (wc_region (w_makeMap h 4 fun w b2 h => w_insert (ents' := [(1, (strV [73]))]) h 4 rfl MapOf101 rfl rfl rfl rfl fun w h => w_insert (ents' := [(1, (strV [73])), (2, (strV [83, 73]))]) h 4 rfl MapOf101 rfl rfl rfl rfl fun w h => w_insert (ents' := [(1, (strV [73])), (2, (strV [83, 73])), (3, (strV [80]))]) h 4 rfl MapOf101 rfl rfl rfl rfl fun w h => w_insert (ents' := [(1, (strV [73])), (2, (strV [83, 73])), (3, (strV [80])), (4, (strV [73]))]) h 4 rfl MapOf101 rfl rfl rfl rfl fun w h => w_insert (ents' := [(1, (strV [73])), (2, (strV [83, 73])), (3, (strV [80])), (4, (strV [73])), (5, (strV []))]) h 4 rfl MapOf101 rfl rfl rfl rfl fun w h => wl_ok (r_move (v := (.map (some b2))) rfl) (wl_ok (r_fieldAddr Fld24x0 rfl) (wl_ok (r_ldB h 3 rfl One3 rfl rfl) (wl_ok (r_lk2 (f := strV) (zz := []) ([(1, [73]), (2, [83, 73]), (3, [80]), (4, [73]), (5, [])] : List (Int × Str)) h 4 rfl MapOf101 rfl rfl rfl rfl) (wl_ok (r_move (v := (.tuple #[(strV ((lk a.kind ([(1, [73]), (2, [83, 73]), (3, [80]), (4, [73]), (5, [])] : List (Int × Str))).getD [])), (.bool ((lk a.kind ([(1, [73]), (2, [83, 73]), (3, [80]), (4, [73]), (5, [])] : List (Int × Str))).isSome))])) rfl) (wl_ok (r_extract rfl rfl) (wl_ok (r_extract rfl rfl) (w_alloc1 h 5 One9 fun w b3 h => w_st1 h 5 [(strV ((lk a.kind ([(1, [73]), (2, [83, 73]), (3, [80]), (4, [73]), (5, [])] : List (Int × Str))).getD []))] rfl One9 rfl rfl rfl rfl rfl fun w h => wl_ok (r_assign (v := (.bool ((lk a.kind ([(1, [73]), (2, [83, 73]), (3, [80]), (4, [73]), (5, [])] : List (Int × Str))).isSome))) rfl) ?_))))))))))))))
 refine wl_nil (then_normal (wc_seq (wc_block (wc_seq (wc_region (wl_ok (r_move (v := (.bool ((lk a.kind ([(1, [73]), (2, [83, 73]), (3, [80]), (4, [73]), (5, [])] : List (Int × Str))).isSome))) rfl) (wl_ok (r_notb rfl) (wl_ok (r_assign (v := (.bool ((!(lk a.kind ([(1, [73]), (2, [83, 73]), (3, [80]), (4, [73]), (5, [])] : List (Int × Str))).isSome)))) rfl) (wl_nil (then_normal (wc_ifb hs rfl (fun c4 hs => ?_) (fun c4 hs => ?_))))))))))))
 ·
  refine wc_seq (wc_region (wl_ok (r_assign (v := (.int .i64 (4))) rfl) (wl_nil (then_normal (wc_ret (inBlock_ret (then_ret (fin1 (v := (.int .i64 (4))) Tryd.results43 rfl ?_))))))))
  obtain rfl := hs
  exact ⟨h.grown, rfl⟩
 ·
  refine wc_seq (wc_region (wl_ok (r_fieldAddr Fld24x1 rfl) (wl_ok (r_ldB h 3 rfl One3 rfl rfl) (w_call fnOk45 rfl rfl (wandererref_in_c _ _ h.lt a.co 0 2 _ rfl) ?_))))
  rintro _ w ⟨k5, rfl⟩
  refine ⟨_, rfl, ?_⟩
  replace h := h.grow k5
  refine wl_ok (r_notb rfl) (wl_ok (r_move (v := (.bool ((!(wandererref_in a.co 0 2))))) rfl) (wl_gd0 rfl rfl (fun q => r_fieldAddr Fld24x2 rfl) (wl_gd0 rfl rfl (fun q => r_ldB h 3 rfl One3 (gvt q) rfl) (w_callG0 rfl rfl fnOk45 rfl (fun q => la_cons (gvt q) (la_cons rfl (la_cons rfl rfl))) (wandererref_in_c _ _ h.lt a.epoch 0 100 _ rfl) fun w k6 => ?_))))
  replace h := h.grow k6
  refine wl_gd0 rfl rfl (fun q => r_notb (gvt q)) (wl_ok (r_por rfl rfl evc) (wl_ok (r_move (v := (.bool (((!(wandererref_in a.co 0 2)) || (!(wandererref_in a.epoch 0 100)))))) rfl) (wl_gd0 rfl rfl (fun q => r_fieldAddr Fld24x3 rfl) (wl_gd0 rfl rfl (fun q => r_ldB h 3 rfl One3 (gvt q) rfl) (w_callG0 rfl rfl fnOk45 rfl (fun q => la_cons (gvt q) (la_cons rfl (la_cons rfl rfl))) (wandererref_in_c _ _ h.lt a.place 0 2 _ rfl) fun w k7 => ?_)))))
  replace h := h.grow k7
  refine wl_gd0 rfl rfl (fun q => r_notb (gvt q)) (wl_ok (r_por rfl rfl evc) (wl_ok (r_assign (v := (.bool ((((!(wandererref_in a.co 0 2)) || (!(wandererref_in a.epoch 0 100))) || (!(wandererref_in a.place 0 2)))))) rfl) (wl_nil (then_normal (wc_ifb hs rfl (fun c8 hs => ?_) (fun c8 hs => ?_))))))
  ·
   refine wc_seq (wc_region (wl_ok (r_assign (v := (.int .i64 (3))) rfl) (wl_nil (then_normal (wc_ret (inBlock_ret (then_ret (fin1 (v := (.int .i64 (3))) Tryd.results43 rfl ?_))))))))
   obtain rfl := hs
   exact ⟨h.grown, rfl⟩
  ·
   refine wc_seq (wc_region (wl_ok (r_fieldAddr Fld24x4 rfl) (wl_ok (r_ldB h 3 rfl One22 rfl rfl) (wl_ok (r_len SliceOf22 rfl (h.srS 1 rfl)) (wl_ok (r_gtr rfl rfl) (wl_ok (r_move (v := (.bool (decide ((40 : Int) < (a.says.length : Int))))) rfl) (wl_gd0 rfl rfl (fun q => r_fieldAddr Fld24x5 rfl) (wl_gd0 rfl rfl (fun q => r_ldB h 3 rfl One22 (gvt q) rfl) (wl_gd0 rfl rfl (fun q => r_len SliceOf22 (gvt q) (h.srS 2 rfl)) (wl_gd0 rfl rfl (fun q => r_gtr (gvt q) rfl) (wl_ok (r_por rfl rfl evc) (wl_ok (r_assign (v := (.bool ((decide ((40 : Int) < (a.says.length : Int)) || decide ((1200 : Int) < (a.image.length : Int)))))) rfl) (wl_nil (then_normal (wc_ifb hs rfl (fun c9 hs => ?_) (fun c9 hs => ?_))))))))))))))))
   ·
    refine wc_seq (wc_region (wl_ok (r_assign (v := (.int .i64 (2))) rfl) (wl_nil (then_normal (wc_ret (inBlock_ret (then_ret (fin1 (v := (.int .i64 (2))) Tryd.results43 rfl ?_))))))))
    obtain rfl := hs
    exact ⟨h.grown, rfl⟩
   ·
    refine wc_skip (inBlock_normal (then_normal (wc_seq (wc_region (wl_ok (r_makeFunc (c1 := []) (c2 := [(.pointer (some ⟨b3, 0, none⟩))]) rfl rfl) (wl_ok (r_assign (v := (.func (.func 67) #[] #[(.pointer (some ⟨b3, 0, none⟩))])) rfl) (wl_nil (then_normal (wc_seq (wc_join (σ := Bool) (inl [46, 47, 48, 49, 50, 51, 52, 53, 54, 55, 56, 57, 58, 59, 60, 61, 62, 63, 64, 65, 66, 67, 68, 69, 70, 71, 72, 73, 74, 75, 76, 77, 78]) (fun x10 => [(78, (.bool (x10)))]) (fun x10 w => SH w0 M BE w (hset []) ∧ wandererref_CheckRec_j2 x10 = r) ?_ ?_))))))))))
    ·
     rintro x10 w junk ⟨h, hs⟩
     refine wc_ifb hs rfl (fun c11 hs => ?_) (fun c11 hs => ?_)
     ·
      refine wc_seq (wc_region (wl_ok (r_assign (v := (.int .i64 (4))) rfl) (wl_nil (then_normal (wc_ret (then_ret (fin1 (v := (.int .i64 (4))) Tryd.results43 rfl ?_)))))))
      obtain rfl := hs
      exact ⟨h.grown, rfl⟩
     ·
      refine wc_skip (then_normal (wc_seq (wc_region (wl_ok (r_assign (v := (.int .i64 (0))) rfl) (wl_nil (then_normal (wc_ret (fin1 (v := (.int .i64 (0))) Tryd.results43 rfl ?_))))))))
      obtain rfl := hs
      exact ⟨h.grown, rfl⟩
    ·
     refine wc_held mixed h fun w h => wh_ok 0 (Keep.refl BE _) rfl want_none (by kernel_rfl) (by kernel_rfl) (by kernel_rfl) (fun w hk => r_fieldAddr Fld24x3 rfl) (wh_ok 1 (Keep.refl BE _) rfl want_none (by kernel_rfl) (by kernel_rfl) (by kernel_rfl) (fun w hk => have h := h.grow hk; r_ldB h 3 rfl One3 rfl rfl) (wh_ok 2 (Keep.refl BE _) rfl want_none (by kernel_rfl) (by kernel_rfl) (by kernel_rfl) (fun w hk => r_neq rfl rfl) (wh_ok 3 (Keep.refl BE _) rfl want_none (by kernel_rfl) (by kernel_rfl) (by kernel_rfl) (fun w hk => r_move (v := (.bool (decide ((a.place : Int) ≠ 0)))) rfl) (c_split (b := decide ((a.place : Int) ≠ 0)) hs (fun c13 hs => ?_) (fun c13 hs => ?_)))))
     ·
      refine wh_ok 4 (Keep.refl BE _) rfl (want_on rfl (congrArg Value.bool c13)) (by kernel_rfl) (by kernel_rfl) (by kernel_rfl) (fun w hk => r_move (v := (.func (.func 67) #[] #[(.pointer (some ⟨b3, 0, none⟩))])) rfl) ?_
      obtain ⟨ws14, ws14e⟩ : ∃ x, x = w := ⟨_, rfl⟩
      have hg15 : Grow ws14 w := ws14e ▸ Keep.refl BE w
      refine wh_at ws14e.symm (wh_eff 5 (by kernel_rfl) rfl (want_on rfl (congrArg Value.bool c13)) (w_call fnOk67 rfl rfl (wandererref_CheckRec_1_80_c _ _ h.lt ((lk a.kind ([(1, [73]), (2, [83, 73]), (3, [80]), (4, [73]), (5, [])] : List (Int × Str))).getD []) b3 (h.blkAt 5 rfl) _ rfl) ?_))
      rintro _ w ⟨kq12x5_1, rfl⟩
      refine ⟨_, rfl, ?_⟩
      replace h := h.grow kq12x5_1
      replace hg15 := hg15.trans kq12x5_1
      refine wl_nil (wh_back hg15 (wh_ok 6 hg15 rfl (want_on rfl (congrArg Value.bool c13)) (by kernel_rfl) (by kernel_rfl) (by kernel_rfl) (fun w hk => r_notb rfl) (wh_ok 7 hg15 rfl want_none (by kernel_rfl) (by kernel_rfl) (by kernel_rfl) (fun w hk => r_pick (b := true) (v := (.bool ((!(wandererref_CheckRec_1_80 ((lk a.kind ([(1, [73]), (2, [83, 73]), (3, [80]), (4, [73]), (5, [])] : List (Int × Str))).getD [])))))) (congrArg Value.bool c13) rfl) (wh_ok 8 hg15 rfl want_none (by kernel_rfl) (by kernel_rfl) (by kernel_rfl) (fun w hk => r_move (v := (.bool ((!(wandererref_CheckRec_1_80 ((lk a.kind ([(1, [73]), (2, [83, 73]), (3, [80]), (4, [73]), (5, [])] : List (Int × Str))).getD [])))))) rfl) (c_split (b := (!(wandererref_CheckRec_1_80 ((lk a.kind ([(1, [73]), (2, [83, 73]), (3, [80]), (4, [73]), (5, [])] : List (Int × Str))).getD [])))) hs (fun c16 hs => ?_) (fun c16 hs => ?_))))))
      ·
       refine wh_skip 9 hg15 rfl (want_off (b' := true) rfl (congrArg Value.bool c16) rfl) (by kernel_rfl) (by kernel_rfl) (by kernel_rfl) (wh_skip 10 hg15 rfl (want_off (b' := true) rfl (congrArg Value.bool c16) rfl) (by kernel_rfl) (by kernel_rfl) (by kernel_rfl) (wh_skip 11 hg15 rfl (want_off (b' := true) rfl (congrArg Value.bool c16) rfl) (by kernel_rfl) (by kernel_rfl) (by kernel_rfl) (wh_skip 12 hg15 rfl (want_off (b' := true) rfl (congrArg Value.bool c16) rfl) (by kernel_rfl) (by kernel_rfl) (by kernel_rfl) (wh_skip 13 hg15 rfl (want_off (b' := true) rfl (congrArg Value.bool c16) rfl) (by kernel_rfl) (by kernel_rfl) (by kernel_rfl) (wh_skip 14 hg15 rfl (want_undef rfl rfl) (by kernel_rfl) (by kernel_rfl) (by kernel_rfl) (wh_skip 15 hg15 rfl (want_undef rfl rfl) (by kernel_rfl) (by kernel_rfl) (by kernel_rfl) (wh_skip 16 hg15 rfl (want_undef rfl rfl) (by kernel_rfl) (by kernel_rfl) (by kernel_rfl) (wh_skip 17 hg15 rfl (want_off (b' := true) rfl (congrArg Value.bool c16) rfl) (by kernel_rfl) (by kernel_rfl) (by kernel_rfl) (wh_ok 18 hg15 rfl want_none (by kernel_rfl) (by kernel_rfl) (by kernel_rfl) (fun w hk => r_pick (b := true) (v := (.bool (true))) (congrArg Value.bool c16) rfl) (wh_ok 19 hg15 rfl want_none (by kernel_rfl) (by kernel_rfl) (by kernel_rfl) (fun w hk => r_move (v := (.bool (true))) rfl) (wh_skip 20 hg15 rfl (want_off (b' := true) rfl rfl rfl) (by kernel_rfl) (by kernel_rfl) (by kernel_rfl) (wh_skip 21 hg15 rfl (want_off (b' := true) rfl rfl rfl) (by kernel_rfl) (by kernel_rfl) (by kernel_rfl) (wh_skip 22 hg15 rfl (want_off (b' := true) rfl rfl rfl) (by kernel_rfl) (by kernel_rfl) (by kernel_rfl) (wh_skip 23 hg15 rfl (want_off (b' := true) rfl rfl rfl) (by kernel_rfl) (by kernel_rfl) (by kernel_rfl) (wh_skip 24 hg15 rfl (want_off (b' := true) rfl rfl rfl) (by kernel_rfl) (by kernel_rfl) (by kernel_rfl) (wh_skip 25 hg15 rfl (want_off (b' := true) rfl rfl rfl) (by kernel_rfl) (by kernel_rfl) (by kernel_rfl) (wh_skip 26 hg15 rfl (want_off (b' := true) rfl rfl rfl) (by kernel_rfl) (by kernel_rfl) (by kernel_rfl) (wh_ok 27 hg15 rfl want_none (by kernel_rfl) (by kernel_rfl) (by kernel_rfl) (fun w hk => r_pick (b := true) (v := (.bool (true))) rfl rfl) (wh_ok 28 hg15 rfl want_none (by kernel_rfl) (by kernel_rfl) (by kernel_rfl) (fun w hk => r_move (v := (.bool (true))) rfl) (wh_skip 29 hg15 rfl (want_off (b' := true) rfl rfl rfl) (by kernel_rfl) (by kernel_rfl) (by kernel_rfl) (wh_skip 30 hg15 rfl (want_off (b' := true) rfl rfl rfl) (by kernel_rfl) (by kernel_rfl) (by kernel_rfl) (wh_skip 31 hg15 rfl (want_off (b' := true) rfl rfl rfl) (by kernel_rfl) (by kernel_rfl) (by kernel_rfl) (wh_ok 32 hg15 rfl want_none (by kernel_rfl) (by kernel_rfl) (by kernel_rfl) (fun w hk => r_pick (b := true) (v := (.bool (true))) rfl rfl) ?_)))))))))))))))))))))))
       refine wh_done (by kernel_rfl) (then_loop ?_)
       exact jend true ⟨h.cn _, hs⟩
      ·
       refine wh_ok 9 hg15 rfl (want_on rfl (congrArg Value.bool c16)) (by kernel_rfl) (by kernel_rfl) (by kernel_rfl) (fun w hk => r_fieldAddr Fld24x4 rfl) (wh_base hg15 ?_)
       obtain ⟨wsq12x10_1, wsq12x10_1e⟩ : ∃ x, x = w := ⟨_, rfl⟩
       have hgq12x10_2 : Grow wsq12x10_1 w := wsq12x10_1e ▸ Keep.refl _ _
       refine wh_ok 10 (Keep.refl BE _) rfl (want_on rfl (congrArg Value.bool c16)) (by kernel_rfl) (by kernel_rfl) (by kernel_rfl) (fun w hk => have h := h.grow hk; r_ldB h 3 rfl One22 rfl rfl) (wh_ok 11 (Keep.refl BE _) rfl (want_on rfl (congrArg Value.bool c16)) (by kernel_rfl) (by kernel_rfl) (by kernel_rfl) (fun w hk => r_len SliceOf22 rfl (h.srS 1 rfl)) (wh_ok 12 (Keep.refl BE _) rfl (want_on rfl (congrArg Value.bool c16)) (by kernel_rfl) (by kernel_rfl) (by kernel_rfl) (fun w hk => r_gtr rfl rfl) (wh_ok 13 (Keep.refl BE _) rfl (want_on rfl (congrArg Value.bool c16)) (by kernel_rfl) (by kernel_rfl) (by kernel_rfl) (fun w hk => r_move (v := (.bool (decide ((0 : Int) < (a.says.length : Int))))) rfl) (c_split (b := decide ((0 : Int) < (a.says.length : Int))) hs (fun c17 hs => ?_) (fun c17 hs => ?_)))))
       ·
        refine wh_ok 14 (Keep.refl BE _) rfl (want_on rfl (congrArg Value.bool c17)) (by kernel_rfl) (by kernel_rfl) (by kernel_rfl) (fun w hk => r_move (v := (.func (.func 67) #[] #[(.pointer (some ⟨b3, 0, none⟩))])) rfl) ?_
        obtain ⟨ws18, ws18e⟩ : ∃ x, x = w := ⟨_, rfl⟩
        have hg19 : Grow ws18 w := ws18e ▸ Keep.refl BE w
        refine wh_at ws18e.symm (wh_eff 15 (by kernel_rfl) rfl (want_on rfl (congrArg Value.bool c17)) (w_call fnOk67 rfl rfl (wandererref_CheckRec_1_83_c _ _ h.lt ((lk a.kind ([(1, [73]), (2, [83, 73]), (3, [80]), (4, [73]), (5, [])] : List (Int × Str))).getD []) b3 (h.blkAt 5 rfl) _ rfl) ?_))
        rintro _ w ⟨kq12x15_1, rfl⟩
        refine ⟨_, rfl, ?_⟩
        replace h := h.grow kq12x15_1
        replace hg19 := hg19.trans kq12x15_1
        refine wl_nil (wh_back hg19 (wh_ok 16 hg19 rfl (want_on rfl (congrArg Value.bool c17)) (by kernel_rfl) (by kernel_rfl) (by kernel_rfl) (fun w hk => r_notb rfl) (wh_ok 17 hg19 rfl (want_on rfl (congrArg Value.bool c16)) (by kernel_rfl) (by kernel_rfl) (by kernel_rfl) (fun w hk => r_pick (b := true) (v := (.bool ((!(wandererref_CheckRec_1_83 ((lk a.kind ([(1, [73]), (2, [83, 73]), (3, [80]), (4, [73]), (5, [])] : List (Int × Str))).getD [])))))) (congrArg Value.bool c17) rfl) (wh_ok 18 hg19 rfl want_none (by kernel_rfl) (by kernel_rfl) (by kernel_rfl) (fun w hk => r_pick (b := false) (v := (.bool ((!(wandererref_CheckRec_1_83 ((lk a.kind ([(1, [73]), (2, [83, 73]), (3, [80]), (4, [73]), (5, [])] : List (Int × Str))).getD [])))))) (congrArg Value.bool c16) rfl) (wh_ok 19 hg19 rfl want_none (by kernel_rfl) (by kernel_rfl) (by kernel_rfl) (fun w hk => r_move (v := (.bool ((!(wandererref_CheckRec_1_83 ((lk a.kind ([(1, [73]), (2, [83, 73]), (3, [80]), (4, [73]), (5, [])] : List (Int × Str))).getD [])))))) rfl) (c_split (b := (!(wandererref_CheckRec_1_83 ((lk a.kind ([(1, [73]), (2, [83, 73]), (3, [80]), (4, [73]), (5, [])] : List (Int × Str))).getD [])))) hs (fun c20 hs => ?_) (fun c20 hs => ?_)))))))
        ·
         refine wh_skip 20 hg19 rfl (want_off (b' := true) rfl (congrArg Value.bool c20) rfl) (by kernel_rfl) (by kernel_rfl) (by kernel_rfl) (wh_skip 21 hg19 rfl (want_off (b' := true) rfl (congrArg Value.bool c20) rfl) (by kernel_rfl) (by kernel_rfl) (by kernel_rfl) (wh_skip 22 hg19 rfl (want_off (b' := true) rfl (congrArg Value.bool c20) rfl) (by kernel_rfl) (by kernel_rfl) (by kernel_rfl) (wh_skip 23 hg19 rfl (want_off (b' := true) rfl (congrArg Value.bool c20) rfl) (by kernel_rfl) (by kernel_rfl) (by kernel_rfl) (wh_skip 24 hg19 rfl (want_off (b' := true) rfl (congrArg Value.bool c20) rfl) (by kernel_rfl) (by kernel_rfl) (by kernel_rfl) (wh_skip 25 hg19 rfl (want_off (b' := true) rfl (congrArg Value.bool c20) rfl) (by kernel_rfl) (by kernel_rfl) (by kernel_rfl) (wh_skip 26 hg19 rfl (want_off (b' := true) rfl (congrArg Value.bool c20) rfl) (by kernel_rfl) (by kernel_rfl) (by kernel_rfl) (wh_ok 27 hg19 rfl want_none (by kernel_rfl) (by kernel_rfl) (by kernel_rfl) (fun w hk => r_pick (b := true) (v := (.bool (true))) (congrArg Value.bool c20) rfl) (wh_ok 28 hg19 rfl want_none (by kernel_rfl) (by kernel_rfl) (by kernel_rfl) (fun w hk => r_move (v := (.bool (true))) rfl) (wh_skip 29 hg19 rfl (want_off (b' := true) rfl rfl rfl) (by kernel_rfl) (by kernel_rfl) (by kernel_rfl) (wh_skip 30 hg19 rfl (want_off (b' := true) rfl rfl rfl) (by kernel_rfl) (by kernel_rfl) (by kernel_rfl) (wh_skip 31 hg19 rfl (want_off (b' := true) rfl rfl rfl) (by kernel_rfl) (by kernel_rfl) (by kernel_rfl) (wh_ok 32 hg19 rfl want_none (by kernel_rfl) (by kernel_rfl) (by kernel_rfl) (fun w hk => r_pick (b := true) (v := (.bool (true))) rfl rfl) (wh_done (by kernel_rfl) (then_loop ?_))))))))))))))
         exact jend true ⟨h.cn _, hs⟩
        ·
         refine wh_ok 20 hg19 rfl (want_on rfl (congrArg Value.bool c20)) (by kernel_rfl) (by kernel_rfl) (by kernel_rfl) (fun w hk => r_fieldAddr Fld24x5 rfl) (wh_base hg19 ?_)
         obtain ⟨wsq12x21_1, wsq12x21_1e⟩ : ∃ x, x = w := ⟨_, rfl⟩
         have hgq12x21_2 : Grow wsq12x21_1 w := wsq12x21_1e ▸ Keep.refl _ _
         refine wh_ok 21 (Keep.refl BE _) rfl (want_on rfl (congrArg Value.bool c20)) (by kernel_rfl) (by kernel_rfl) (by kernel_rfl) (fun w hk => have h := h.grow hk; r_ldB h 3 rfl One22 rfl rfl) (wh_ok 22 (Keep.refl BE _) rfl (want_on rfl (congrArg Value.bool c20)) (by kernel_rfl) (by kernel_rfl) (by kernel_rfl) (fun w hk => r_len SliceOf22 rfl (h.srS 2 rfl)) (wh_ok 23 (Keep.refl BE _) rfl (want_on rfl (congrArg Value.bool c20)) (by kernel_rfl) (by kernel_rfl) (by kernel_rfl) (fun w hk => r_gtr rfl rfl) (wh_ok 24 (Keep.refl BE _) rfl (want_on rfl (congrArg Value.bool c20)) (by kernel_rfl) (by kernel_rfl) (by kernel_rfl) (fun w hk => r_move (v := (.func (.func 67) #[] #[(.pointer (some ⟨b3, 0, none⟩))])) rfl) ?_)))
         obtain ⟨ws21, ws21e⟩ : ∃ x, x = w := ⟨_, rfl⟩
         have hg22 : Grow ws21 w := ws21e ▸ Keep.refl BE w
         refine wh_at ws21e.symm (wh_eff 25 (by kernel_rfl) rfl (want_on rfl (congrArg Value.bool c20)) (w_call fnOk67 rfl rfl (wandererref_CheckRec_1_73_c _ _ h.lt ((lk a.kind ([(1, [73]), (2, [83, 73]), (3, [80]), (4, [73]), (5, [])] : List (Int × Str))).getD []) b3 (h.blkAt 5 rfl) _ rfl) ?_))
         rintro _ w ⟨kq12x25_1, rfl⟩
         refine ⟨_, rfl, ?_⟩
         replace h := h.grow kq12x25_1
         replace hg22 := hg22.trans kq12x25_1
         refine wl_nil (wh_back hg22 (wh_ok 26 hg22 rfl (want_on rfl (congrArg Value.bool c20)) (by kernel_rfl) (by kernel_rfl) (by kernel_rfl) (fun w hk => r_neqb Tryd.underlying4 rfl rfl) (wh_ok 27 hg22 rfl want_none (by kernel_rfl) (by kernel_rfl) (by kernel_rfl) (fun w hk => r_pick (b := false) (v := (.bool ((decide ((0 : Int) < (a.image.length : Int)) != (wandererref_CheckRec_1_73 ((lk a.kind ([(1, [73]), (2, [83, 73]), (3, [80]), (4, [73]), (5, [])] : List (Int × Str))).getD [])))))) (congrArg Value.bool c20) rfl) (wh_ok 28 hg22 rfl want_none (by kernel_rfl) (by kernel_rfl) (by kernel_rfl) (fun w hk => r_move (v := (.bool ((decide ((0 : Int) < (a.image.length : Int)) != (wandererref_CheckRec_1_73 ((lk a.kind ([(1, [73]), (2, [83, 73]), (3, [80]), (4, [73]), (5, [])] : List (Int × Str))).getD [])))))) rfl) (c_split (b := (decide ((0 : Int) < (a.image.length : Int)) != (wandererref_CheckRec_1_73 ((lk a.kind ([(1, [73]), (2, [83, 73]), (3, [80]), (4, [73]), (5, [])] : List (Int × Str))).getD [])))) hs (fun c23 hs => ?_) (fun c23 hs => ?_))))))
         ·
          refine wh_skip 29 hg22 rfl (want_off (b' := true) rfl (congrArg Value.bool c23) rfl) (by kernel_rfl) (by kernel_rfl) (by kernel_rfl) (wh_skip 30 hg22 rfl (want_off (b' := true) rfl (congrArg Value.bool c23) rfl) (by kernel_rfl) (by kernel_rfl) (by kernel_rfl) (wh_skip 31 hg22 rfl (want_off (b' := true) rfl (congrArg Value.bool c23) rfl) (by kernel_rfl) (by kernel_rfl) (by kernel_rfl) (wh_ok 32 hg22 rfl want_none (by kernel_rfl) (by kernel_rfl) (by kernel_rfl) (fun w hk => r_pick (b := true) (v := (.bool (true))) (congrArg Value.bool c23) rfl) (wh_done (by kernel_rfl) (then_loop ?_)))))
          exact jend true ⟨h.cn _, hs⟩
         ·
          refine wh_ok 29 hg22 rfl (want_on rfl (congrArg Value.bool c23)) (by kernel_rfl) (by kernel_rfl) (by kernel_rfl) (fun w hk => r_fieldAddr Fld24x2 rfl) (wh_base hg22 ?_)
          obtain ⟨wsq12x30_1, wsq12x30_1e⟩ : ∃ x, x = w := ⟨_, rfl⟩
          have hgq12x30_2 : Grow wsq12x30_1 w := wsq12x30_1e ▸ Keep.refl _ _
          refine wh_ok 30 (Keep.refl BE _) rfl (want_on rfl (congrArg Value.bool c23)) (by kernel_rfl) (by kernel_rfl) (by kernel_rfl) (fun w hk => have h := h.grow hk; r_ldB h 3 rfl One3 rfl rfl) (wh_ok 31 (Keep.refl BE _) rfl (want_on rfl (congrArg Value.bool c23)) (by kernel_rfl) (by kernel_rfl) (by kernel_rfl) (fun w hk => r_eql rfl rfl) (wh_ok 32 (Keep.refl BE _) rfl want_none (by kernel_rfl) (by kernel_rfl) (by kernel_rfl) (fun w hk => r_pick (b := false) (v := (.bool (decide ((a.epoch : Int) = 0)))) (congrArg Value.bool c23) rfl) (wh_done (by kernel_rfl) (then_loop ?_))))
          exact jend (decide ((a.epoch : Int) = 0)) ⟨h.cn _, hs⟩
       ·
        refine wh_skip 14 (Keep.refl BE _) rfl (want_off (b' := false) rfl (congrArg Value.bool c17) rfl) (by kernel_rfl) (by kernel_rfl) (by kernel_rfl) (wh_skip 15 (Keep.refl BE _) rfl (want_off (b' := false) rfl (congrArg Value.bool c17) rfl) (by kernel_rfl) (by kernel_rfl) (by kernel_rfl) (wh_skip 16 (Keep.refl BE _) rfl (want_off (b' := false) rfl (congrArg Value.bool c17) rfl) (by kernel_rfl) (by kernel_rfl) (by kernel_rfl) (wh_ok 17 (Keep.refl BE _) rfl (want_on rfl (congrArg Value.bool c16)) (by kernel_rfl) (by kernel_rfl) (by kernel_rfl) (fun w hk => r_pick (b := false) (v := (.bool (false))) (congrArg Value.bool c17) rfl) (wh_ok 18 (Keep.refl BE _) rfl want_none (by kernel_rfl) (by kernel_rfl) (by kernel_rfl) (fun w hk => r_pick (b := false) (v := (.bool (false))) (congrArg Value.bool c16) rfl) (wh_ok 19 (Keep.refl BE _) rfl want_none (by kernel_rfl) (by kernel_rfl) (by kernel_rfl) (fun w hk => r_move (v := (.bool (false))) rfl) (wh_ok 20 (Keep.refl BE _) rfl (want_on rfl rfl) (by kernel_rfl) (by kernel_rfl) (by kernel_rfl) (fun w hk => r_fieldAddr Fld24x5 rfl) (wh_ok 21 (Keep.refl BE _) rfl (want_on rfl rfl) (by kernel_rfl) (by kernel_rfl) (by kernel_rfl) (fun w hk => have h := h.grow hk; r_ldB h 3 rfl One22 rfl rfl) (wh_ok 22 (Keep.refl BE _) rfl (want_on rfl rfl) (by kernel_rfl) (by kernel_rfl) (by kernel_rfl) (fun w hk => r_len SliceOf22 rfl (h.srS 2 rfl)) (wh_ok 23 (Keep.refl BE _) rfl (want_on rfl rfl) (by kernel_rfl) (by kernel_rfl) (by kernel_rfl) (fun w hk => r_gtr rfl rfl) (wh_ok 24 (Keep.refl BE _) rfl (want_on rfl rfl) (by kernel_rfl) (by kernel_rfl) (by kernel_rfl) (fun w hk => r_move (v := (.func (.func 67) #[] #[(.pointer (some ⟨b3, 0, none⟩))])) rfl) ?_))))))))))
        obtain ⟨ws24, ws24e⟩ : ∃ x, x = w := ⟨_, rfl⟩
        have hg25 : Grow ws24 w := ws24e ▸ Keep.refl BE w
        refine wh_at ws24e.symm (wh_eff 25 (by kernel_rfl) rfl (want_on rfl rfl) (w_call fnOk67 rfl rfl (wandererref_CheckRec_1_73_c _ _ h.lt ((lk a.kind ([(1, [73]), (2, [83, 73]), (3, [80]), (4, [73]), (5, [])] : List (Int × Str))).getD []) b3 (h.blkAt 5 rfl) _ rfl) ?_))
        rintro _ w ⟨kq12x25_1, rfl⟩
        refine ⟨_, rfl, ?_⟩
        replace h := h.grow kq12x25_1
        replace hg25 := hg25.trans kq12x25_1
        refine wl_nil (wh_back hg25 (wh_ok 26 hg25 rfl (want_on rfl rfl) (by kernel_rfl) (by kernel_rfl) (by kernel_rfl) (fun w hk => r_neqb Tryd.underlying4 rfl rfl) (wh_ok 27 hg25 rfl want_none (by kernel_rfl) (by kernel_rfl) (by kernel_rfl) (fun w hk => r_pick (b := false) (v := (.bool ((decide ((0 : Int) < (a.image.length : Int)) != (wandererref_CheckRec_1_73 ((lk a.kind ([(1, [73]), (2, [83, 73]), (3, [80]), (4, [73]), (5, [])] : List (Int × Str))).getD [])))))) rfl rfl) (wh_ok 28 hg25 rfl want_none (by kernel_rfl) (by kernel_rfl) (by kernel_rfl) (fun w hk => r_move (v := (.bool ((decide ((0 : Int) < (a.image.length : Int)) != (wandererref_CheckRec_1_73 ((lk a.kind ([(1, [73]), (2, [83, 73]), (3, [80]), (4, [73]), (5, [])] : List (Int × Str))).getD [])))))) rfl) (c_split (b := (decide ((0 : Int) < (a.image.length : Int)) != (wandererref_CheckRec_1_73 ((lk a.kind ([(1, [73]), (2, [83, 73]), (3, [80]), (4, [73]), (5, [])] : List (Int × Str))).getD [])))) hs (fun c26 hs => ?_) (fun c26 hs => ?_))))))
        ·
         refine wh_skip 29 hg25 rfl (want_off (b' := true) rfl (congrArg Value.bool c26) rfl) (by kernel_rfl) (by kernel_rfl) (by kernel_rfl) (wh_skip 30 hg25 rfl (want_off (b' := true) rfl (congrArg Value.bool c26) rfl) (by kernel_rfl) (by kernel_rfl) (by kernel_rfl) (wh_skip 31 hg25 rfl (want_off (b' := true) rfl (congrArg Value.bool c26) rfl) (by kernel_rfl) (by kernel_rfl) (by kernel_rfl) (wh_ok 32 hg25 rfl want_none (by kernel_rfl) (by kernel_rfl) (by kernel_rfl) (fun w hk => r_pick (b := true) (v := (.bool (true))) (congrArg Value.bool c26) rfl) (wh_done (by kernel_rfl) (then_loop ?_)))))
         exact jend true ⟨h.cn _, hs⟩
        ·
         refine wh_ok 29 hg25 rfl (want_on rfl (congrArg Value.bool c26)) (by kernel_rfl) (by kernel_rfl) (by kernel_rfl) (fun w hk => r_fieldAddr Fld24x2 rfl) (wh_base hg25 ?_)
         obtain ⟨wsq12x30_1, wsq12x30_1e⟩ : ∃ x, x = w := ⟨_, rfl⟩
         have hgq12x30_2 : Grow wsq12x30_1 w := wsq12x30_1e ▸ Keep.refl _ _
         refine wh_ok 30 (Keep.refl BE _) rfl (want_on rfl (congrArg Value.bool c26)) (by kernel_rfl) (by kernel_rfl) (by kernel_rfl) (fun w hk => have h := h.grow hk; r_ldB h 3 rfl One3 rfl rfl) (wh_ok 31 (Keep.refl BE _) rfl (want_on rfl (congrArg Value.bool c26)) (by kernel_rfl) (by kernel_rfl) (by kernel_rfl) (fun w hk => r_eql rfl rfl) (wh_ok 32 (Keep.refl BE _) rfl want_none (by kernel_rfl) (by kernel_rfl) (by kernel_rfl) (fun w hk => r_pick (b := false) (v := (.bool (decide ((a.epoch : Int) = 0)))) (congrArg Value.bool c26) rfl) (wh_done (by kernel_rfl) (then_loop ?_))))
         exact jend (decide ((a.epoch : Int) = 0)) ⟨h.cn _, hs⟩
     ·
      refine wh_skip 4 (Keep.refl BE _) rfl (want_off (b' := false) rfl (congrArg Value.bool c13) rfl) (by kernel_rfl) (by kernel_rfl) (by kernel_rfl) (wh_skip 5 (Keep.refl BE _) rfl (want_off (b' := false) rfl (congrArg Value.bool c13) rfl) (by kernel_rfl) (by kernel_rfl) (by kernel_rfl) (wh_skip 6 (Keep.refl BE _) rfl (want_off (b' := false) rfl (congrArg Value.bool c13) rfl) (by kernel_rfl) (by kernel_rfl) (by kernel_rfl) (wh_ok 7 (Keep.refl BE _) rfl want_none (by kernel_rfl) (by kernel_rfl) (by kernel_rfl) (fun w hk => r_pick (b := false) (v := (.bool (false))) (congrArg Value.bool c13) rfl) (wh_ok 8 (Keep.refl BE _) rfl want_none (by kernel_rfl) (by kernel_rfl) (by kernel_rfl) (fun w hk => r_move (v := (.bool (false))) rfl) (wh_ok 9 (Keep.refl BE _) rfl (want_on rfl rfl) (by kernel_rfl) (by kernel_rfl) (by kernel_rfl) (fun w hk => r_fieldAddr Fld24x4 rfl) (wh_ok 10 (Keep.refl BE _) rfl (want_on rfl rfl) (by kernel_rfl) (by kernel_rfl) (by kernel_rfl) (fun w hk => have h := h.grow hk; r_ldB h 3 rfl One22 rfl rfl) (wh_ok 11 (Keep.refl BE _) rfl (want_on rfl rfl) (by kernel_rfl) (by kernel_rfl) (by kernel_rfl) (fun w hk => r_len SliceOf22 rfl (h.srS 1 rfl)) (wh_ok 12 (Keep.refl BE _) rfl (want_on rfl rfl) (by kernel_rfl) (by kernel_rfl) (by kernel_rfl) (fun w hk => r_gtr rfl rfl) (wh_ok 13 (Keep.refl BE _) rfl (want_on rfl rfl) (by kernel_rfl) (by kernel_rfl) (by kernel_rfl) (fun w hk => r_move (v := (.bool (decide ((0 : Int) < (a.says.length : Int))))) rfl) (c_split (b := decide ((0 : Int) < (a.says.length : Int))) hs (fun c27 hs => ?_) (fun c27 hs => ?_)))))))))))
      ·
       refine wh_ok 14 (Keep.refl BE _) rfl (want_on rfl (congrArg Value.bool c27)) (by kernel_rfl) (by kernel_rfl) (by kernel_rfl) (fun w hk => r_move (v := (.func (.func 67) #[] #[(.pointer (some ⟨b3, 0, none⟩))])) rfl) ?_
       obtain ⟨ws28, ws28e⟩ : ∃ x, x = w := ⟨_, rfl⟩
       have hg29 : Grow ws28 w := ws28e ▸ Keep.refl BE w
       refine wh_at ws28e.symm (wh_eff 15 (by kernel_rfl) rfl (want_on rfl (congrArg Value.bool c27)) (w_call fnOk67 rfl rfl (wandererref_CheckRec_1_83_c _ _ h.lt ((lk a.kind ([(1, [73]), (2, [83, 73]), (3, [80]), (4, [73]), (5, [])] : List (Int × Str))).getD []) b3 (h.blkAt 5 rfl) _ rfl) ?_))
       rintro _ w ⟨kq12x15_1, rfl⟩
       refine ⟨_, rfl, ?_⟩
       replace h := h.grow kq12x15_1
       replace hg29 := hg29.trans kq12x15_1
       refine wl_nil (wh_back hg29 (wh_ok 16 hg29 rfl (want_on rfl (congrArg Value.bool c27)) (by kernel_rfl) (by kernel_rfl) (by kernel_rfl) (fun w hk => r_notb rfl) (wh_ok 17 hg29 rfl (want_on rfl rfl) (by kernel_rfl) (by kernel_rfl) (by kernel_rfl) (fun w hk => r_pick (b := true) (v := (.bool ((!(wandererref_CheckRec_1_83 ((lk a.kind ([(1, [73]), (2, [83, 73]), (3, [80]), (4, [73]), (5, [])] : List (Int × Str))).getD [])))))) (congrArg Value.bool c27) rfl) (wh_ok 18 hg29 rfl want_none (by kernel_rfl) (by kernel_rfl) (by kernel_rfl) (fun w hk => r_pick (b := false) (v := (.bool ((!(wandererref_CheckRec_1_83 ((lk a.kind ([(1, [73]), (2, [83, 73]), (3, [80]), (4, [73]), (5, [])] : List (Int × Str))).getD [])))))) rfl rfl) (wh_ok 19 hg29 rfl want_none (by kernel_rfl) (by kernel_rfl) (by kernel_rfl) (fun w hk => r_move (v := (.bool ((!(wandererref_CheckRec_1_83 ((lk a.kind ([(1, [73]), (2, [83, 73]), (3, [80]), (4, [73]), (5, [])] : List (Int × Str))).getD [])))))) rfl) (c_split (b := (!(wandererref_CheckRec_1_83 ((lk a.kind ([(1, [73]), (2, [83, 73]), (3, [80]), (4, [73]), (5, [])] : List (Int × Str))).getD [])))) hs (fun c30 hs => ?_) (fun c30 hs => ?_)))))))
       ·
        refine wh_skip 20 hg29 rfl (want_off (b' := true) rfl (congrArg Value.bool c30) rfl) (by kernel_rfl) (by kernel_rfl) (by kernel_rfl) (wh_skip 21 hg29 rfl (want_off (b' := true) rfl (congrArg Value.bool c30) rfl) (by kernel_rfl) (by kernel_rfl) (by kernel_rfl) (wh_skip 22 hg29 rfl (want_off (b' := true) rfl (congrArg Value.bool c30) rfl) (by kernel_rfl) (by kernel_rfl) (by kernel_rfl) (wh_skip 23 hg29 rfl (want_off (b' := true) rfl (congrArg Value.bool c30) rfl) (by kernel_rfl) (by kernel_rfl) (by kernel_rfl) (wh_skip 24 hg29 rfl (want_off (b' := true) rfl (congrArg Value.bool c30) rfl) (by kernel_rfl) (by kernel_rfl) (by kernel_rfl) (wh_skip 25 hg29 rfl (want_off (b' := true) rfl (congrArg Value.bool c30) rfl) (by kernel_rfl) (by kernel_rfl) (by kernel_rfl) (wh_skip 26 hg29 rfl (want_off (b' := true) rfl (congrArg Value.bool c30) rfl) (by kernel_rfl) (by kernel_rfl) (by kernel_rfl) (wh_ok 27 hg29 rfl want_none (by kernel_rfl) (by kernel_rfl) (by kernel_rfl) (fun w hk => r_pick (b := true) (v := (.bool (true))) (congrArg Value.bool c30) rfl) (wh_ok 28 hg29 rfl want_none (by kernel_rfl) (by kernel_rfl) (by kernel_rfl) (fun w hk => r_move (v := (.bool (true))) rfl) (wh_skip 29 hg29 rfl (want_off (b' := true) rfl rfl rfl) (by kernel_rfl) (by kernel_rfl) (by kernel_rfl) (wh_skip 30 hg29 rfl (want_off (b' := true) rfl rfl rfl) (by kernel_rfl) (by kernel_rfl) (by kernel_rfl) (wh_skip 31 hg29 rfl (want_off (b' := true) rfl rfl rfl) (by kernel_rfl) (by kernel_rfl) (by kernel_rfl) (wh_ok 32 hg29 rfl want_none (by kernel_rfl) (by kernel_rfl) (by kernel_rfl) (fun w hk => r_pick (b := true) (v := (.bool (true))) rfl rfl) (wh_done (by kernel_rfl) (then_loop ?_))))))))))))))
        exact jend true ⟨h.cn _, hs⟩
       ·
        refine wh_ok 20 hg29 rfl (want_on rfl (congrArg Value.bool c30)) (by kernel_rfl) (by kernel_rfl) (by kernel_rfl) (fun w hk => r_fieldAddr Fld24x5 rfl) (wh_base hg29 ?_)
        obtain ⟨wsq12x21_1, wsq12x21_1e⟩ : ∃ x, x = w := ⟨_, rfl⟩
        have hgq12x21_2 : Grow wsq12x21_1 w := wsq12x21_1e ▸ Keep.refl _ _
        refine wh_ok 21 (Keep.refl BE _) rfl (want_on rfl (congrArg Value.bool c30)) (by kernel_rfl) (by kernel_rfl) (by kernel_rfl) (fun w hk => have h := h.grow hk; r_ldB h 3 rfl One22 rfl rfl) (wh_ok 22 (Keep.refl BE _) rfl (want_on rfl (congrArg Value.bool c30)) (by kernel_rfl) (by kernel_rfl) (by kernel_rfl) (fun w hk => r_len SliceOf22 rfl (h.srS 2 rfl)) (wh_ok 23 (Keep.refl BE _) rfl (want_on rfl (congrArg Value.bool c30)) (by kernel_rfl) (by kernel_rfl) (by kernel_rfl) (fun w hk => r_gtr rfl rfl) (wh_ok 24 (Keep.refl BE _) rfl (want_on rfl (congrArg Value.bool c30)) (by kernel_rfl) (by kernel_rfl) (by kernel_rfl) (fun w hk => r_move (v := (.func (.func 67) #[] #[(.pointer (some ⟨b3, 0, none⟩))])) rfl) ?_)))
        obtain ⟨ws31, ws31e⟩ : ∃ x, x = w := ⟨_, rfl⟩
        have hg32 : Grow ws31 w := ws31e ▸ Keep.refl BE w
        refine wh_at ws31e.symm (wh_eff 25 (by kernel_rfl) rfl (want_on rfl (congrArg Value.bool c30)) (w_call fnOk67 rfl rfl (wandererref_CheckRec_1_73_c _ _ h.lt ((lk a.kind ([(1, [73]), (2, [83, 73]), (3, [80]), (4, [73]), (5, [])] : List (Int × Str))).getD []) b3 (h.blkAt 5 rfl) _ rfl) ?_))
        rintro _ w ⟨kq12x25_1, rfl⟩
        refine ⟨_, rfl, ?_⟩
        replace h := h.grow kq12x25_1
        replace hg32 := hg32.trans kq12x25_1
        refine wl_nil (wh_back hg32 (wh_ok 26 hg32 rfl (want_on rfl (congrArg Value.bool c30)) (by kernel_rfl) (by kernel_rfl) (by kernel_rfl) (fun w hk => r_neqb Tryd.underlying4 rfl rfl) (wh_ok 27 hg32 rfl want_none (by kernel_rfl) (by kernel_rfl) (by kernel_rfl) (fun w hk => r_pick (b := false) (v := (.bool ((decide ((0 : Int) < (a.image.length : Int)) != (wandererref_CheckRec_1_73 ((lk a.kind ([(1, [73]), (2, [83, 73]), (3, [80]), (4, [73]), (5, [])] : List (Int × Str))).getD [])))))) (congrArg Value.bool c30) rfl) (wh_ok 28 hg32 rfl want_none (by kernel_rfl) (by kernel_rfl) (by kernel_rfl) (fun w hk => r_move (v := (.bool ((decide ((0 : Int) < (a.image.length : Int)) != (wandererref_CheckRec_1_73 ((lk a.kind ([(1, [73]), (2, [83, 73]), (3, [80]), (4, [73]), (5, [])] : List (Int × Str))).getD [])))))) rfl) (c_split (b := (decide ((0 : Int) < (a.image.length : Int)) != (wandererref_CheckRec_1_73 ((lk a.kind ([(1, [73]), (2, [83, 73]), (3, [80]), (4, [73]), (5, [])] : List (Int × Str))).getD [])))) hs (fun c33 hs => ?_) (fun c33 hs => ?_))))))
        ·
         refine wh_skip 29 hg32 rfl (want_off (b' := true) rfl (congrArg Value.bool c33) rfl) (by kernel_rfl) (by kernel_rfl) (by kernel_rfl) (wh_skip 30 hg32 rfl (want_off (b' := true) rfl (congrArg Value.bool c33) rfl) (by kernel_rfl) (by kernel_rfl) (by kernel_rfl) (wh_skip 31 hg32 rfl (want_off (b' := true) rfl (congrArg Value.bool c33) rfl) (by kernel_rfl) (by kernel_rfl) (by kernel_rfl) (wh_ok 32 hg32 rfl want_none (by kernel_rfl) (by kernel_rfl) (by kernel_rfl) (fun w hk => r_pick (b := true) (v := (.bool (true))) (congrArg Value.bool c33) rfl) (wh_done (by kernel_rfl) (then_loop ?_)))))
         exact jend true ⟨h.cn _, hs⟩
        ·
         refine wh_ok 29 hg32 rfl (want_on rfl (congrArg Value.bool c33)) (by kernel_rfl) (by kernel_rfl) (by kernel_rfl) (fun w hk => r_fieldAddr Fld24x2 rfl) (wh_base hg32 ?_)
         obtain ⟨wsq12x30_1, wsq12x30_1e⟩ : ∃ x, x = w := ⟨_, rfl⟩
         have hgq12x30_2 : Grow wsq12x30_1 w := wsq12x30_1e ▸ Keep.refl _ _
         refine wh_ok 30 (Keep.refl BE _) rfl (want_on rfl (congrArg Value.bool c33)) (by kernel_rfl) (by kernel_rfl) (by kernel_rfl) (fun w hk => have h := h.grow hk; r_ldB h 3 rfl One3 rfl rfl) (wh_ok 31 (Keep.refl BE _) rfl (want_on rfl (congrArg Value.bool c33)) (by kernel_rfl) (by kernel_rfl) (by kernel_rfl) (fun w hk => r_eql rfl rfl) (wh_ok 32 (Keep.refl BE _) rfl want_none (by kernel_rfl) (by kernel_rfl) (by kernel_rfl) (fun w hk => r_pick (b := false) (v := (.bool (decide ((a.epoch : Int) = 0)))) (congrArg Value.bool c33) rfl) (wh_done (by kernel_rfl) (then_loop ?_))))
         exact jend (decide ((a.epoch : Int) = 0)) ⟨h.cn _, hs⟩
      ·
       refine wh_skip 14 (Keep.refl BE _) rfl (want_off (b' := false) rfl (congrArg Value.bool c27) rfl) (by kernel_rfl) (by kernel_rfl) (by kernel_rfl) (wh_skip 15 (Keep.refl BE _) rfl (want_off (b' := false) rfl (congrArg Value.bool c27) rfl) (by kernel_rfl) (by kernel_rfl) (by kernel_rfl) (wh_skip 16 (Keep.refl BE _) rfl (want_off (b' := false) rfl (congrArg Value.bool c27) rfl) (by kernel_rfl) (by kernel_rfl) (by kernel_rfl) (wh_ok 17 (Keep.refl BE _) rfl (want_on rfl rfl) (by kernel_rfl) (by kernel_rfl) (by kernel_rfl) (fun w hk => r_pick (b := false) (v := (.bool (false))) (congrArg Value.bool c27) rfl) (wh_ok 18 (Keep.refl BE _) rfl want_none (by kernel_rfl) (by kernel_rfl) (by kernel_rfl) (fun w hk => r_pick (b := false) (v := (.bool (false))) rfl rfl) (wh_ok 19 (Keep.refl BE _) rfl want_none (by kernel_rfl) (by kernel_rfl) (by kernel_rfl) (fun w hk => r_move (v := (.bool (false))) rfl) (wh_ok 20 (Keep.refl BE _) rfl (want_on rfl rfl) (by kernel_rfl) (by kernel_rfl) (by kernel_rfl) (fun w hk => r_fieldAddr Fld24x5 rfl) (wh_ok 21 (Keep.refl BE _) rfl (want_on rfl rfl) (by kernel_rfl) (by kernel_rfl) (by kernel_rfl) (fun w hk => have h := h.grow hk; r_ldB h 3 rfl One22 rfl rfl) (wh_ok 22 (Keep.refl BE _) rfl (want_on rfl rfl) (by kernel_rfl) (by kernel_rfl) (by kernel_rfl) (fun w hk => r_len SliceOf22 rfl (h.srS 2 rfl)) (wh_ok 23 (Keep.refl BE _) rfl (want_on rfl rfl) (by kernel_rfl) (by kernel_rfl) (by kernel_rfl) (fun w hk => r_gtr rfl rfl) (wh_ok 24 (Keep.refl BE _) rfl (want_on rfl rfl) (by kernel_rfl) (by kernel_rfl) (by kernel_rfl) (fun w hk => r_move (v := (.func (.func 67) #[] #[(.pointer (some ⟨b3, 0, none⟩))])) rfl) ?_))))))))))
       obtain ⟨ws34, ws34e⟩ : ∃ x, x = w := ⟨_, rfl⟩
       have hg35 : Grow ws34 w := ws34e ▸ Keep.refl BE w
       refine wh_at ws34e.symm (wh_eff 25 (by kernel_rfl) rfl (want_on rfl rfl) (w_call fnOk67 rfl rfl (wandererref_CheckRec_1_73_c _ _ h.lt ((lk a.kind ([(1, [73]), (2, [83, 73]), (3, [80]), (4, [73]), (5, [])] : List (Int × Str))).getD []) b3 (h.blkAt 5 rfl) _ rfl) ?_))
       rintro _ w ⟨kq12x25_1, rfl⟩
       refine ⟨_, rfl, ?_⟩
       replace h := h.grow kq12x25_1
       replace hg35 := hg35.trans kq12x25_1
       refine wl_nil (wh_back hg35 (wh_ok 26 hg35 rfl (want_on rfl rfl) (by kernel_rfl) (by kernel_rfl) (by kernel_rfl) (fun w hk => r_neqb Tryd.underlying4 rfl rfl) (wh_ok 27 hg35 rfl want_none (by kernel_rfl) (by kernel_rfl) (by kernel_rfl) (fun w hk => r_pick (b := false) (v := (.bool ((decide ((0 : Int) < (a.image.length : Int)) != (wandererref_CheckRec_1_73 ((lk a.kind ([(1, [73]), (2, [83, 73]), (3, [80]), (4, [73]), (5, [])] : List (Int × Str))).getD [])))))) rfl rfl) (wh_ok 28 hg35 rfl want_none (by kernel_rfl) (by kernel_rfl) (by kernel_rfl) (fun w hk => r_move (v := (.bool ((decide ((0 : Int) < (a.image.length : Int)) != (wandererref_CheckRec_1_73 ((lk a.kind ([(1, [73]), (2, [83, 73]), (3, [80]), (4, [73]), (5, [])] : List (Int × Str))).getD [])))))) rfl) (c_split (b := (decide ((0 : Int) < (a.image.length : Int)) != (wandererref_CheckRec_1_73 ((lk a.kind ([(1, [73]), (2, [83, 73]), (3, [80]), (4, [73]), (5, [])] : List (Int × Str))).getD [])))) hs (fun c36 hs => ?_) (fun c36 hs => ?_))))))
       ·
        refine wh_skip 29 hg35 rfl (want_off (b' := true) rfl (congrArg Value.bool c36) rfl) (by kernel_rfl) (by kernel_rfl) (by kernel_rfl) (wh_skip 30 hg35 rfl (want_off (b' := true) rfl (congrArg Value.bool c36) rfl) (by kernel_rfl) (by kernel_rfl) (by kernel_rfl) (wh_skip 31 hg35 rfl (want_off (b' := true) rfl (congrArg Value.bool c36) rfl) (by kernel_rfl) (by kernel_rfl) (by kernel_rfl) (wh_ok 32 hg35 rfl want_none (by kernel_rfl) (by kernel_rfl) (by kernel_rfl) (fun w hk => r_pick (b := true) (v := (.bool (true))) (congrArg Value.bool c36) rfl) (wh_done (by kernel_rfl) (then_loop ?_)))))
        exact jend true ⟨h.cn _, hs⟩
       ·
        refine wh_ok 29 hg35 rfl (want_on rfl (congrArg Value.bool c36)) (by kernel_rfl) (by kernel_rfl) (by kernel_rfl) (fun w hk => r_fieldAddr Fld24x2 rfl) (wh_base hg35 ?_)
        obtain ⟨wsq12x30_1, wsq12x30_1e⟩ : ∃ x, x = w := ⟨_, rfl⟩
        have hgq12x30_2 : Grow wsq12x30_1 w := wsq12x30_1e ▸ Keep.refl _ _
        refine wh_ok 30 (Keep.refl BE _) rfl (want_on rfl (congrArg Value.bool c36)) (by kernel_rfl) (by kernel_rfl) (by kernel_rfl) (fun w hk => have h := h.grow hk; r_ldB h 3 rfl One3 rfl rfl) (wh_ok 31 (Keep.refl BE _) rfl (want_on rfl (congrArg Value.bool c36)) (by kernel_rfl) (by kernel_rfl) (by kernel_rfl) (fun w hk => r_eql rfl rfl) (wh_ok 32 (Keep.refl BE _) rfl want_none (by kernel_rfl) (by kernel_rfl) (by kernel_rfl) (fun w hk => r_pick (b := false) (v := (.bool (decide ((a.epoch : Int) = 0)))) (congrArg Value.bool c36) rfl) (wh_done (by kernel_rfl) (then_loop ?_))))
        exact jend (decide ((a.epoch : Int) = 0)) ⟨h.cn _, hs⟩
def wandererref_RecText_b3 (x22 : Int) (x19 : List Str) (nx24 : List Str → Option (Str × Int)) : Option (Str × Int) :=
  (itoaS x22).bind fun y32 => grd (Room 16 x19 [y32]) (nx24 (x19 ++ [y32]))
def wandererref_RecText_k4 (x19 : List Str) : Option (Str × Int) :=
  (joinS x19 [32]).bind fun y38 => some (y38, 0)
def wandererref_RecText (a : Rec) : Option (Str × Int) :=
  bif decide (((wandererref_CheckRec a) : Int) ≠ 0) then some ([], (wandererref_CheckRec a)) else (slices_Concat_int [[a.kind, a.co, a.epoch, a.place, (a.says.length : Int)], a.says, a.image]).bind fun y6 => each wandererref_RecText_b3 wandererref_RecText_k4 y6 []
theorem wandererref_RecText_c (w0 : World) (M : BS) (hM : ∀ b, M b → b < w0.heap.size) (hT : Tabs Tryd.prog 3 w0) (a : Rec) (va4 va5 : Value) (ha4 : RdSl rInt w0 M va4 a.says) (ha5 : RdSl rInt w0 M va5 a.image) (r : Str × Int) (hs : wandererref_RecText a = some r) :
    Calls Tryd.prog 12 #[(.agg #[(.int .i64 (a.kind)), (.int .i64 (a.co)), (.int .i64 (a.epoch)), (.int .i64 (a.place)), va4, va5])] w0 (fun e w' => Grow w0 w' ∧ e = .returned (.tuple #[strV r.1, .int .i64 r.2])) := by
 refine calls_start (args := [(.agg #[(.int .i64 (a.kind)), (.int .i64 (a.co)), (.int .i64 (a.epoch)), (.int .i64 (a.place)), va4, va5])]) Tryd.func12 rfl Tryd.ntmps12 (Nat.le_of_ble_eq_true rfl) ?_
 have h := SH.init hM
 replace h := h.argRd 1 ha4 none_own
 replace h := h.argRd 2 ha5 (hupd_own_rd none_own)
 refine wc_seq (wc_region (w_box (cs := [(.int .i64 (a.kind)), (.int .i64 (a.co)), (.int .i64 (a.epoch)), (.int .i64 (a.place)), va4, va5]) h 3 rfl rfl fun w b1 h => wl_ok (r_assign (v := (strV [])) rfl) (wl_ok (r_assign (v := (.int .i64 (0))) rfl) (wl_nil (then_normal (wc_seq (wc_seq (wc_region (wl_ok (r_ldBN (vs := [(.int .i64 (a.kind)), (.int .i64 (a.co)), (.int .i64 (a.epoch)), (.int .i64 (a.place)), va4, va5]) h 3 rfl Many24 rfl rfl rfl) (w_call fnOk43 rfl rfl (wandererref_CheckRec_c _ _ h.lt a va4 va5 (h.rdS 1 rfl) (h.rdS 2 rfl) _ rfl) ?_))))))))))
 rintro _ w ⟨k2, rfl⟩
 refine ⟨_, rfl, ?_⟩
 replace h := h.grow k2
 refine wl_ok (r_assign (v := (.int .i64 ((wandererref_CheckRec a)))) rfl) (wl_nil (then_normal (wc_seq (wc_region (wl_ok (r_move (v := (.int .i64 ((wandererref_CheckRec a)))) rfl) (wl_ok (r_neq rfl rfl) (wl_nil (then_normal (wc_ifb hs rfl (fun c3 hs => ?_) (fun c3 hs => ?_))))))))))
 ·
  refine wc_seq (wc_region (wl_ok (r_move (v := (.int .i64 ((wandererref_CheckRec a)))) rfl) (wl_ok (r_assign (v := (strV [])) rfl) (wl_ok (r_assign (v := (.int .i64 ((wandererref_CheckRec a)))) rfl) (wl_nil (then_normal (wc_ret (then_ret (fin2 (v1 := (strV [])) (v2 := (.int .i64 ((wandererref_CheckRec a)))) Tryd.results12 rfl rfl ?_)))))))))
  obtain rfl := Option.some.inj hs
  exact ⟨h.grown, rfl⟩
 ·
  refine wc_skip (then_normal (wc_seq (wc_region (wl_ok (r_assign (v := (.slice none 0 0)) rfl) (wl_nil (then_normal (wc_seq (wc_seq (wc_region (wl_ok (r_fieldAddr Fld24x0 rfl) (wl_ok (r_ldB h 3 rfl One3 rfl rfl) (wl_ok (r_fieldAddr Fld24x1 rfl) (wl_ok (r_ldB h 3 rfl One3 rfl rfl) (wl_ok (r_fieldAddr Fld24x2 rfl) (wl_ok (r_ldB h 3 rfl One3 rfl rfl) (wl_ok (r_fieldAddr Fld24x3 rfl) (wl_ok (r_ldB h 3 rfl One3 rfl rfl) (wl_ok (r_fieldAddr Fld24x4 rfl) (wl_ok (r_ldB h 3 rfl One22 rfl rfl) (wl_ok (r_len SliceOf22 rfl (h.rdS 1 rfl)) (w_bs (R := rInt) (vs := [(.int .i64 (a.kind)), (.int .i64 (a.co)), (.int .i64 (a.epoch)), (.int .i64 (a.place)), (.int .i64 ((a.says.length : Int)))]) (xs := [a.kind, a.co, a.epoch, a.place, (a.says.length : Int)]) h 4 ElemOf22 rfl rfl rfl ⟨rfl, ⟨rfl, ⟨rfl, ⟨rfl, ⟨rfl, trivial⟩⟩⟩⟩⟩ rfl fun w u4 h => wl_ok (r_fieldAddr Fld24x4 rfl) (wl_ok (r_ldB h 3 rfl One22 rfl rfl) ?_))))))))))))))))))))))
  refine wl_ok (r_fieldAddr Fld24x5 rfl) (wl_ok (r_ldB h 3 rfl One22 rfl rfl) ?_)
  replace h := h.freeze 4 rfl
  refine w_bs (R := (rSl rInt)) (vs := [u4, va4, va5]) (xs := [[a.kind, a.co, a.epoch, a.place, (a.says.length : Int)], a.says, a.image]) h 5 ElemOf91 rfl rfl rfl ⟨(h.rdAt 4 rfl).rdc, ⟨(h.rdAt 1 rfl).rdc, ⟨(h.rdAt 2 rfl).rdc, trivial⟩⟩⟩ rfl fun w u5 h => ?_
  obtain ⟨y6, e7, hs⟩ := o_bind hs
  refine w_call fnOk36 rfl rfl (slices_Concat_int_c _ _ h.lt u5 [[a.kind, a.co, a.epoch, a.place, (a.says.length : Int)], a.says, a.image] (h.ownS 5 rfl) _ e7) ?_
  rintro _ w ⟨k11, u8, rfl, g9, g10⟩
  refine ⟨_, rfl, ?_⟩
  replace h := h.gotOwn 6 k11 g9 g10
  refine wl_ok (r_len SliceOf22 rfl (h.ownS 6 rfl)) (wl_ok (r_move (v := (.int .i64 (0))) rfl) (wl_nil (then_normal (wc_block ?_))))
  replace h := h.freeze 6 rfl
  replace h := h.nilO (R := rStr) (E := 9) 10
  refine wc_lp (σ := Nat × Int × Value × List Str) (inl [5, 7, 32, 33, 34, 35, 36, 37, 38, 39, 40, 41]) (fun ⟨k20, i21, v18, x19⟩ => [(5, v18), (32, (.int .i64 (i21)))]) (fun ⟨k20, i21, v18, x19⟩ w => SH w0 M BE w (hset [(6, .rd rInt u8 y6), (10, .own rStr 9 v18 x19)]) ∧ i21 = (k20 : Int) ∧ each wandererref_RecText_b3 wandererref_RecText_k4 (y6.drop k20) x19 = some r) (fun ⟨k20, i21, v18, x19⟩ => y6.length - k20) ⟨0, 0, (.slice none 0 0), []⟩ ⟨rfl, rfl, trivial⟩ ?_ ?_
  ·
   exact ⟨h.cn _, rfl, hs⟩
  ·
   rintro ⟨k20, i21, v18, x19⟩ w junk ⟨h, hik, hs⟩
   refine wc_seq (wc_region ?_)
   refine wl_ok (r_lss rfl rfl) (wl_nil (then_normal ?_))
   refine wc_seq (wc_if rfl (fun e25 => ?_) (fun e25 => ?_))
   ·
    refine wc_skip (then_normal ?_)
    obtain ⟨x22, e26a, e26b⟩ := drop_lt (hik ▸ e25)
    rw [e26b, each_cons] at hs
    generalize hnx24 : each wandererref_RecText_b3 wandererref_RecText_k4 (y6.drop (k20 + 1)) = nx24 at hs
    have e26r := nat_rng ((h.rdS 6 rfl)).len_le hik e25
    refine wc_seq (wc_block (wc_seq (wc_region ?_)))
    obtain ⟨b28, o29, cs30, h, r31, i27⟩ := h.ixR 6 11 rfl SliceOf22 rfl (nat_nn hik) (get_nat hik e26a)
    obtain rfl := r31
    refine wl_ok (i27 _ _ _ _ _ _ _ _ _ rfl rfl) (wl_ok (r_ldP (k := 0) h 11 rfl One3 rfl rfl) (wl_ok (r_assign (v := (.int .i64 (x22))) rfl) (wl_nil (then_normal (wc_region (wl_ok (r_move (v := v18) rfl) (wl_ok (r_move (v := (.int .i64 (x22))) rfl) ?_)))))))
    obtain ⟨y32, e33, hs⟩ := o_bind hs
    refine w_call fnOk37 rfl rfl (strconv_Itoa_c _ _ h.lt (hT.go h.keep) x22 _ e33) ?_
    rintro _ w ⟨k34, rfl⟩
    refine ⟨_, rfl, ?_⟩
    replace h := h.grow k34
    refine w_bs (R := rStr) (vs := [(strV y32)]) (xs := [y32]) h 12 ElemOf61 rfl rfl rfl ⟨rfl, trivial⟩ rfl fun w u35 h => ?_
    obtain ⟨a36, hs⟩ := o_grd hs
    refine w_app (R := rStr) (m := [y32]) h 10 rfl (h.ownS 12 rfl) ElemOf61 rfl rfl rfl a36.1 a36.2 fun w u37 h => wl_ok (r_assign (v := u37) rfl) (wl_nil (inBlock_normal (then_normal (wc_region (wl_ok (r_add rfl rfl e26r) (wl_ok (r_move (v := (.int .i64 ((i21 + 1)))) rfl) (wl_nil (then_loop ?_))))))))
    subst hnx24
    exact lend ⟨k20 + 1, i21 + 1, u37, (x19 ++ [y32])⟩ ⟨h.cn _, by omega, hs⟩ (by have := of_decide_eq_true e25; dsimp only; omega)
   ·
    rw [drop_ge (hik ▸ e25), each_nil] at hs
    refine wc_exit (then_exit (then_exit (inBlock_eq (then_normal (wc_seq (wc_region (wl_ok (r_move (v := v18) rfl) ?_)))))))
    obtain ⟨y38, e39, hs⟩ := o_bind hs
    refine w_call fnOk38 rfl rfl (strings_Join_c _ _ h.lt v18 x19 (h.ownS 10 rfl) [32] _ e39) ?_
    rintro _ w ⟨k40, rfl⟩
    refine ⟨_, rfl, ?_⟩
    replace h := h.grow k40
    refine wl_ok (r_assign (v := (strV y38)) rfl) (wl_ok (r_assign (v := (.int .i64 (0))) rfl) (wl_nil (then_normal (wc_ret (fin2 (v1 := (strV y38)) (v2 := (.int .i64 (0))) Tryd.results12 rfl rfl ?_)))))
    obtain rfl := Option.some.inj hs
    exact ⟨h.grown, rfl⟩
def slices_Equal_int_b3 (a : List Int) (b : List Int) (i3 : Int) (s : Unit) (nx6 : Unit → Option Bool) : Option Bool :=
  (idx a i3).bind fun x9 => (idx b i3).bind fun x16 => bif decide ((x9 : Int) ≠ x16) then some false else nx6 ()
def slices_Equal_int_k4 (s : Unit) : Option Bool :=
  some true
def slices_Equal_int (a : List Int) (b : List Int) : Option Bool :=
  bif decide (((a.length : Int) : Int) ≠ (b.length : Int)) then some false else upto (slices_Equal_int_b3 a b) slices_Equal_int_k4 0 ((a.length : Int)).toNat ()
theorem slices_Equal_int_c (w0 : World) (M : BS) (hM : ∀ b, M b → b < w0.heap.size) (va : Value) (a : List Int) (ha : Rd2 rInt w0 BE M va a) (vb : Value) (b : List Int) (hb : Rd2 rInt w0 BE M vb b) (r : Bool) (hs : slices_Equal_int a b = some r) :
    Calls Tryd.prog 39 #[va, vb] w0 (fun e w' => Grow w0 w' ∧ e = .returned (.bool r)) := by
 refine calls_start (args := [va, vb]) Tryd.func39 rfl Tryd.ntmps39 (Nat.le_of_ble_eq_true rfl) ?_
 have h := SH.init hM
 replace h := h.argSr 1 ha none_own
 replace h := h.argSr 2 hb (hupd_own_sr none_own)
 have hl_a := ha.len_le
 have hl_b := hb.len_le
 refine wc_seq (wc_region (wl_ok (r_assign (v := (.bool (false))) rfl) (wl_nil (then_normal (wc_seq (wc_seq (wc_region (wl_ok (r_move (v := va) rfl) (wl_ok (r_len SliceOf22 rfl (h.srS 1 rfl)) (wl_ok (r_move (v := vb) rfl) (wl_ok (r_len SliceOf22 rfl (h.srS 2 rfl)) (wl_ok (r_neq rfl rfl) (wl_nil (then_normal (wc_ifb hs rfl (fun c1 hs => ?_) (fun c1 hs => ?_))))))))))))))))
 ·
  refine wc_seq (wc_region (wl_ok (r_assign (v := (.bool (false))) rfl) (wl_nil (then_normal (wc_ret (then_ret (fin1 (v := (.bool (false))) Tryd.results39 rfl ?_)))))))
  obtain rfl := Option.some.inj hs
  exact ⟨h.grown, rfl⟩
 ·
  refine wc_skip (then_normal (wc_seq (wc_seq (wc_region (wl_ok (r_move (v := va) rfl) (wl_ok (r_len SliceOf22 rfl (h.srS 1 rfl)) (wl_ok (r_move (v := (.int .i64 (0))) rfl) (wl_nil (then_normal (wc_block ?_))))))))))
  have hli3 := (h.srS 1 rfl).len_le
  refine wc_lp (σ := Nat × Int) (inl [4, 5, 13, 14, 15, 16, 17, 18, 19, 20, 21, 22, 23, 24, 25]) (fun ⟨k2, i3⟩ => [(13, (.int .i64 (i3)))]) (fun ⟨k2, i3⟩ w => SH w0 M BE w (hset [(1, .sr rInt va a), (2, .sr rInt vb b)]) ∧ i3 = (k2 : Int) ∧ upto (slices_Equal_int_b3 a b) slices_Equal_int_k4 i3 (((a.length : Int)).toNat - k2) () = some r) (fun ⟨k2, i3⟩ => ((a.length : Int)).toNat - k2) ⟨0, 0⟩ ⟨rfl, trivial⟩ ?_ ?_
  ·
   exact ⟨h.cn _, rfl, hs⟩
  ·
   rintro ⟨k2, i3⟩ w junk ⟨h, hik, hs⟩
   refine wc_seq (wc_region ?_)
   refine wl_ok (r_lss rfl rfl) (wl_nil (then_normal ?_))
   refine wc_seq (wc_if rfl (fun e7 => ?_) (fun e7 => ?_))
   ·
    refine wc_skip (then_normal ?_)
    rw [upto_lt (by have := of_decide_eq_true e7; omega)] at hs
    generalize hnx6 : upto (slices_Equal_int_b3 a b) slices_Equal_int_k4 (i3 + 1) (((a.length : Int)).toNat - (k2 + 1)) = nx6 at hs
    have e8r : I64 (i3 + 1) := (by have := of_decide_eq_true e7; have := hli3; exact I64.mk (by omega) (by omega))
    refine wc_seq (wc_block (wc_seq (wc_region (wl_ok (r_move (v := (.int .i64 (i3))) rfl) (wl_ok (r_assign (v := (.int .i64 (i3))) rfl) (wl_nil (then_normal (wc_seq (wc_still mixed (by kernel_rfl) h fun w h => wk_ok (r_move (v := va) rfl) (wk_ok (r_move (v := (.int .i64 (i3))) rfl) ?_))))))))))
    obtain ⟨x9, e10, hs⟩ := o_bind hs
    obtain ⟨b12, o13, cs14, h, r15, i11⟩ := h.ixS 1 3 rfl SliceOf22 rfl (o_idx e10).1 (o_idx e10).2
    obtain rfl := r15
    refine wk_ok (i11 _ _ _ _ _ _ _ _ _ rfl rfl) (wk_ok (r_ldP (k := 0) h 3 rfl One3 rfl rfl) (wk_ok (r_move (v := vb) rfl) (wk_ok (r_move (v := (.int .i64 (i3))) rfl) ?_)))
    obtain ⟨x16, e17, hs⟩ := o_bind hs
    obtain ⟨b19, o20, cs21, h, r22, i18⟩ := h.ixS 2 4 rfl SliceOf22 rfl (o_idx e17).1 (o_idx e17).2
    obtain rfl := r22
    refine wk_ok (i18 _ _ _ _ _ _ _ _ _ rfl rfl) (wk_ok (r_ldP (k := 0) h 4 rfl One3 rfl rfl) (wk_ok (r_neq rfl rfl) (wk_end (then_normal (wc_ifb hs rfl (fun c23 hs => ?_) (fun c23 hs => ?_))))))
    ·
     refine wc_seq (wc_region (wl_ok (r_assign (v := (.bool (false))) rfl) (wl_nil (then_normal (wc_ret (inBlock_ret (then_ret (then_ret (inBlock_ret (then_ret (fin1 (v := (.bool (false))) Tryd.results39 rfl ?_)))))))))))
     obtain rfl := Option.some.inj hs
     exact ⟨h.grown, rfl⟩
    ·
     refine wc_skip (inBlock_normal (then_normal (wc_region (wl_ok (r_add rfl rfl e8r) (wl_ok (r_move (v := (.int .i64 ((i3 + 1)))) rfl) (wl_nil (then_loop ?_)))))))
     subst hnx6
     exact lend ⟨k2 + 1, i3 + 1⟩ ⟨h.cn _, by omega, hs⟩ (by have := of_decide_eq_true e7; dsimp only; omega)
   ·
    rw [upto_ge (by have := of_decide_eq_false e7; omega)] at hs
    refine wc_exit (then_exit (then_exit (inBlock_eq (then_normal (wc_seq (wc_region (wl_ok (r_assign (v := (.bool (true))) rfl) (wl_nil (then_normal (wc_ret (fin1 (v := (.bool (true))) Tryd.results39 rfl ?_)))))))))))
    obtain rfl := Option.some.inj hs
    exact ⟨h.grown, rfl⟩
def record_Same (a : Rec) (b : Rec) : Option Bool :=
  bif (((decide ((a.kind : Int) = b.kind) && decide ((a.co : Int) = b.co)) && decide ((a.epoch : Int) = b.epoch)) && decide ((a.place : Int) = b.place)) then (slices_Equal_int a.says b.says).bind fun y4 => bif y4 then (slices_Equal_int a.image b.image).bind fun y8 => some y8 else some false else some false
theorem record_Same_c (w0 : World) (M : BS) (hM : ∀ b, M b → b < w0.heap.size) (a : Rec) (va4 va5 : Value) (ha4 : Rd2 rInt w0 BE M va4 a.says) (ha5 : Rd2 rInt w0 BE M va5 a.image) (b : Rec) (vb4 vb5 : Value) (hb4 : Rd2 rInt w0 BE M vb4 b.says) (hb5 : Rd2 rInt w0 BE M vb5 b.image) (r : Bool) (hs : record_Same a b = some r) :
    Calls Tryd.prog 10 #[(.agg #[(.int .i64 (a.kind)), (.int .i64 (a.co)), (.int .i64 (a.epoch)), (.int .i64 (a.place)), va4, va5]), (.agg #[(.int .i64 (b.kind)), (.int .i64 (b.co)), (.int .i64 (b.epoch)), (.int .i64 (b.place)), vb4, vb5])] w0 (fun e w' => Grow w0 w' ∧ e = .returned (.bool r)) := by
 refine calls_start (args := [(.agg #[(.int .i64 (a.kind)), (.int .i64 (a.co)), (.int .i64 (a.epoch)), (.int .i64 (a.place)), va4, va5]), (.agg #[(.int .i64 (b.kind)), (.int .i64 (b.co)), (.int .i64 (b.epoch)), (.int .i64 (b.place)), vb4, vb5])]) Tryd.func10 rfl Tryd.ntmps10 (Nat.le_of_ble_eq_true rfl) ?_
 have h := SH.init hM
 replace h := h.argSr 1 ha4 none_own
 replace h := h.argSr 2 ha5 (hupd_own_sr none_own)
 replace h := h.argSr 3 hb4 (hupd_own_sr (hupd_own_sr none_own))
 replace h := h.argSr 4 hb5 (hupd_own_sr (hupd_own_sr (hupd_own_sr none_own)))
 refine wc_seq (wc_region (w_box (cs := [(.int .i64 (a.kind)), (.int .i64 (a.co)), (.int .i64 (a.epoch)), (.int .i64 (a.place)), va4, va5]) h 5 rfl rfl fun w b1 h => w_box (cs := [(.int .i64 (b.kind)), (.int .i64 (b.co)), (.int .i64 (b.epoch)), (.int .i64 (b.place)), vb4, vb5]) h 6 rfl rfl fun w b2 h => wl_ok (r_assign (v := (.bool (false))) rfl) (wl_nil (then_normal (wc_seq (wc_region (wl_ok (r_fieldAddr Fld24x0 rfl) (wl_ok (r_ldB h 5 rfl One3 rfl rfl) (wl_ok (r_fieldAddr Fld24x0 rfl) (wl_ok (r_ldB h 6 rfl One3 rfl rfl) (wl_ok (r_eql rfl rfl) (wl_ok (r_move (v := (.bool (decide ((a.kind : Int) = b.kind)))) rfl) (wl_gd0 rfl rfl (fun q => r_fieldAddr Fld24x1 rfl) (wl_gd0 rfl rfl (fun q => r_ldB h 5 rfl One3 (gvt q) rfl) (wl_gd0 rfl rfl (fun q => r_fieldAddr Fld24x1 rfl) (wl_gd0 rfl rfl (fun q => r_ldB h 6 rfl One3 (gvt q) rfl) (wl_gd0 rfl rfl (fun q => r_eql (gvt q) (gvt q)) (wl_ok (r_pand rfl rfl evc) (wl_ok (r_move (v := (.bool ((decide ((a.kind : Int) = b.kind) && decide ((a.co : Int) = b.co))))) rfl) (wl_gd0 rfl rfl (fun q => r_fieldAddr Fld24x2 rfl) (wl_gd0 rfl rfl (fun q => r_ldB h 5 rfl One3 (gvt q) rfl) ?_)))))))))))))))))))))
 refine wl_gd0 rfl rfl (fun q => r_fieldAddr Fld24x2 rfl) (wl_gd0 rfl rfl (fun q => r_ldB h 6 rfl One3 (gvt q) rfl) (wl_gd0 rfl rfl (fun q => r_eql (gvt q) (gvt q)) (wl_ok (r_pand rfl rfl evc) (wl_ok (r_move (v := (.bool (((decide ((a.kind : Int) = b.kind) && decide ((a.co : Int) = b.co)) && decide ((a.epoch : Int) = b.epoch))))) rfl) (wl_gd0 rfl rfl (fun q => r_fieldAddr Fld24x3 rfl) (wl_gd0 rfl rfl (fun q => r_ldB h 5 rfl One3 (gvt q) rfl) (wl_gd0 rfl rfl (fun q => r_fieldAddr Fld24x3 rfl) (wl_gd0 rfl rfl (fun q => r_ldB h 6 rfl One3 (gvt q) rfl) (wl_gd0 rfl rfl (fun q => r_eql (gvt q) (gvt q)) (wl_ok (r_pand rfl rfl evc) (wl_ok (r_move (v := (.bool ((((decide ((a.kind : Int) = b.kind) && decide ((a.co : Int) = b.co)) && decide ((a.epoch : Int) = b.epoch)) && decide ((a.place : Int) = b.place))))) rfl) (c_split (b := (((decide ((a.kind : Int) = b.kind) && decide ((a.co : Int) = b.co)) && decide ((a.epoch : Int) = b.epoch)) && decide ((a.place : Int) = b.place))) hs (fun c3 hs => ?_) (fun c3 hs => ?_)))))))))))))
 ·
  refine wl_on rfl (congrArg Value.bool c3) (wl_ok (r_fieldAddr Fld24x4 rfl) (wl_on rfl (congrArg Value.bool c3) (wl_ok (r_ldB h 5 rfl One22 rfl rfl) (wl_on rfl (congrArg Value.bool c3) (wl_ok (r_fieldAddr Fld24x4 rfl) (wl_on rfl (congrArg Value.bool c3) (wl_ok (r_ldB h 6 rfl One22 rfl rfl) (wl_on rfl (congrArg Value.bool c3) ?_))))))))
  obtain ⟨y4, e5, hs⟩ := o_bind hs
  refine w_call fnOk39 rfl rfl (slices_Equal_int_c _ _ h.lt va4 a.says (h.srS 1 rfl) vb4 b.says (h.srS 3 rfl) _ e5) ?_
  rintro _ w ⟨k6, rfl⟩
  refine ⟨_, rfl, ?_⟩
  replace h := h.grow k6
  refine wl_ok (r_pick (b := true) (v := (.bool (y4))) (congrArg Value.bool c3) rfl) (wl_ok (r_move (v := (.bool (y4))) rfl) (c_split (b := y4) hs (fun c7 hs => ?_) (fun c7 hs => ?_)))
  ·
   refine wl_on rfl (congrArg Value.bool c7) (wl_ok (r_fieldAddr Fld24x5 rfl) (wl_on rfl (congrArg Value.bool c7) (wl_ok (r_ldB h 5 rfl One22 rfl rfl) (wl_on rfl (congrArg Value.bool c7) (wl_ok (r_fieldAddr Fld24x5 rfl) (wl_on rfl (congrArg Value.bool c7) (wl_ok (r_ldB h 6 rfl One22 rfl rfl) (wl_on rfl (congrArg Value.bool c7) ?_))))))))
   obtain ⟨y8, e9, hs⟩ := o_bind hs
   refine w_call fnOk39 rfl rfl (slices_Equal_int_c _ _ h.lt va5 a.image (h.srS 2 rfl) vb5 b.image (h.srS 4 rfl) _ e9) ?_
   rintro _ w ⟨k10, rfl⟩
   refine ⟨_, rfl, ?_⟩
   replace h := h.grow k10
   refine wl_ok (r_pick (b := true) (v := (.bool (y8))) (congrArg Value.bool c7) rfl) (wl_ok (r_assign (v := (.bool (y8))) rfl) (wl_nil (then_normal (wc_ret (fin1 (v := (.bool (y8))) Tryd.results10 rfl ?_)))))
   obtain rfl := Option.some.inj hs
   exact ⟨h.grown, rfl⟩
  ·
   refine wl_off (b' := false) rfl (congrArg Value.bool c7) rfl (wl_off (b' := false) rfl (congrArg Value.bool c7) rfl (wl_off (b' := false) rfl (congrArg Value.bool c7) rfl (wl_off (b' := false) rfl (congrArg Value.bool c7) rfl (wl_off (b' := false) rfl (congrArg Value.bool c7) rfl (wl_ok (r_pick (b := false) (v := (.bool (false))) (congrArg Value.bool c7) rfl) (wl_ok (r_assign (v := (.bool (false))) rfl) (wl_nil (then_normal (wc_ret (fin1 (v := (.bool (false))) Tryd.results10 rfl ?_))))))))))
   obtain rfl := Option.some.inj hs
   exact ⟨h.grown, rfl⟩
 ·
  refine wl_off (b' := false) rfl (congrArg Value.bool c3) rfl (wl_off (b' := false) rfl (congrArg Value.bool c3) rfl (wl_off (b' := false) rfl (congrArg Value.bool c3) rfl (wl_off (b' := false) rfl (congrArg Value.bool c3) rfl (wl_off (b' := false) rfl (congrArg Value.bool c3) rfl (wl_ok (r_pick (b := false) (v := (.bool (false))) (congrArg Value.bool c3) rfl) (wl_ok (r_move (v := (.bool (false))) rfl) (wl_off (b' := false) rfl rfl rfl (wl_off (b' := false) rfl rfl rfl (wl_off (b' := false) rfl rfl rfl (wl_off (b' := false) rfl rfl rfl (wl_off (b' := false) rfl rfl rfl (wl_ok (r_pick (b := false) (v := (.bool (false))) rfl rfl) (wl_ok (r_assign (v := (.bool (false))) rfl) (wl_nil (then_normal (wc_ret (fin1 (v := (.bool (false))) Tryd.results10 rfl ?_)))))))))))))))))
  obtain rfl := Option.some.inj hs
  exact ⟨h.grown, rfl⟩
def wandererlaw_lined : Option Bool :=
  (record_Print (⟨2, 1, 2, 0, [7, -8], [1]⟩ : Rec)).bind fun y4 => (record_Parse y4.1).bind fun y7 => bif ((decide ((y4.2 : Int) = 0) && decide ((y7.2 : Int) = 0)) && decide ((y4.1 : Str) = [50, 32, 49, 32, 50, 32, 48, 32, 50, 32, 55, 32, 45, 56, 32, 49])) then (record_Same (⟨2, 1, 2, 0, [7, -8], [1]⟩ : Rec) y7.1).bind fun y16 => some y16 else some false
theorem wandererlaw_lined_c (w0 : World) (M : BS) (hM : ∀ b, M b → b < w0.heap.size) (hT : Tabs Tryd.prog 3 w0)  (r : Bool) (hs : wandererlaw_lined = some r) :
    Calls Tryd.prog 9 #[] w0 (fun e w' => Grow w0 w' ∧ e = .returned (.bool r)) := by
 refine calls_start (args := []) Tryd.func9 rfl Tryd.ntmps9 (Nat.le_of_ble_eq_true rfl) ?_
 have h := SH.init hM
 refine wc_seq (wc_region (wl_ok (r_assign (v := (.bool (false))) rfl) (wl_nil (then_normal (wc_seq (wc_region (w_bs (R := rInt) (vs := [(.int .i64 (7)), (.int .i64 (-8))]) (xs := [7, -8]) h 1 ElemOf22 rfl rfl rfl ⟨rfl, ⟨rfl, trivial⟩⟩ rfl fun w u1 h => w_bs (R := rInt) (vs := [(.int .i64 (1))]) (xs := [1]) h 2 ElemOf22 rfl rfl rfl ⟨rfl, trivial⟩ rfl fun w u2 h => wl_ok (r_build (pv := [(0, (.int .i64 (2))), (1, (.int .i64 (1))), (2, (.int .i64 (2))), (4, u1), (5, u2)]) (out := [(.int .i64 (2)), (.int .i64 (1)), (.int .i64 (2)), (.int .i64 (0)), u1, u2]) Struct24 rfl ⟨0, 1, [(.int .i64 (2))], rfl, rfl, rfl, Nat.le_of_ble_eq_true rfl, ⟨1, 1, [(.int .i64 (1))], rfl, rfl, rfl, Nat.le_of_ble_eq_true rfl, ⟨2, 1, [(.int .i64 (2))], rfl, rfl, rfl, Nat.le_of_ble_eq_true rfl, ⟨4, 1, [u1], rfl, (toList_of_one (h.ownAt 1 rfl).one), rfl, Nat.le_of_ble_eq_true rfl, ⟨5, 1, [u2], rfl, (toList_of_one (h.ownAt 2 rfl).one), rfl, Nat.le_of_ble_eq_true rfl, rfl⟩⟩⟩⟩⟩) (w_allocN h 3 Many24 fun w b3 h => w_stN (vs := [(.int .i64 (2)), (.int .i64 (1)), (.int .i64 (2)), (.int .i64 (0)), u1, u2]) h 3 [(.int .i64 (2)), (.int .i64 (1)), (.int .i64 (2)), (.int .i64 (0)), u1, u2] rfl Many24 rfl rfl rfl rfl rfl (ones_cons rfl (ones_cons rfl (ones_cons rfl (ones_cons rfl (ones_cons (h.ownAt 1 rfl).one (ones_cons (h.ownAt 2 rfl).one ones_nil)))))) fun w h => wl_nil (then_normal (wc_seq (wc_region (wl_ok (r_ldBN (vs := [(.int .i64 (2)), (.int .i64 (1)), (.int .i64 (2)), (.int .i64 (0)), u1, u2]) h 3 rfl Many24 rfl rfl rfl) ?_))))))))))))
 replace h := h.freeze 1 rfl
 replace h := h.freeze 2 rfl
 obtain ⟨y4, e5, hs⟩ := o_bind hs
 refine w_call fnOk8 rfl rfl (record_Print_c _ _ h.lt (hT.go h.keep) (⟨2, 1, 2, 0, [7, -8], [1]⟩ : Rec) u1 u2 (h.rdAt 1 rfl) (h.rdAt 2 rfl) _ e5) ?_
 rintro _ w ⟨k6, rfl⟩
 refine ⟨_, rfl, ?_⟩
 replace h := h.grow k6
 refine wl_ok (r_move (v := (.tuple #[(strV y4.1), (.int .i64 (y4.2))])) rfl) (wl_ok (r_extract rfl rfl) (wl_ok (r_extract rfl rfl) (wl_ok (r_assign (v := (strV y4.1)) rfl) (wl_ok (r_assign (v := (.int .i64 (y4.2))) rfl) (wl_nil (then_normal (wc_seq (wc_region (wl_ok (r_move (v := (strV y4.1)) rfl) ?_)))))))))
 obtain ⟨y7, e8, hs⟩ := o_bind hs
 refine w_call fnOk11 rfl rfl (record_Parse_c _ _ h.lt (hT.go h.keep) y4.1 _ e8) ?_
 rintro _ w ⟨k13, u9, u11, rfl, g10, g12⟩
 refine ⟨_, rfl, ?_⟩
 replace h := h.gotRd 4 k13 g10
 replace h := h.knowRd 5 g12.up
 refine wl_ok (r_move (v := (.tuple #[(.agg #[(.int .i64 (y7.1.kind)), (.int .i64 (y7.1.co)), (.int .i64 (y7.1.epoch)), (.int .i64 (y7.1.place)), u9, u11]), (.int .i64 (y7.2))])) rfl) (wl_ok (r_extract rfl rfl) (wl_ok (r_extract rfl rfl) (w_allocN h 6 Many24 fun w b14 h => w_stN (vs := [(.int .i64 (y7.1.kind)), (.int .i64 (y7.1.co)), (.int .i64 (y7.1.epoch)), (.int .i64 (y7.1.place)), u9, u11]) h 6 [(.int .i64 (y7.1.kind)), (.int .i64 (y7.1.co)), (.int .i64 (y7.1.epoch)), (.int .i64 (y7.1.place)), u9, u11] rfl Many24 rfl rfl rfl rfl rfl (ones_cons rfl (ones_cons rfl (ones_cons rfl (ones_cons rfl (ones_cons (h.rdAt 4 rfl).one (ones_cons (h.rdAt 5 rfl).one ones_nil)))))) fun w h => wl_ok (r_assign (v := (.int .i64 (y7.2))) rfl) (wl_nil (then_normal (wc_seq (wc_region (wl_ok (r_move (v := (.int .i64 (y4.2))) rfl) (wl_ok (r_eql rfl rfl) (wl_ok (r_move (v := (.bool (decide ((y4.2 : Int) = 0)))) rfl) (wl_gd0 rfl rfl (fun q => r_move (v := (.int .i64 (y7.2))) rfl) (wl_gd0 rfl rfl (fun q => r_eql (gvt q) rfl) (wl_ok (r_pand rfl rfl evc) (wl_ok (r_move (v := (.bool ((decide ((y4.2 : Int) = 0) && decide ((y7.2 : Int) = 0))))) rfl) (wl_gd0 rfl rfl (fun q => r_move (v := (strV y4.1)) rfl) (wl_gd0 rfl rfl (fun q => r_eqls (gvt q) rfl) (wl_ok (r_pand rfl rfl evc) (wl_ok (r_move (v := (.bool (((decide ((y4.2 : Int) = 0) && decide ((y7.2 : Int) = 0)) && decide ((y4.1 : Str) = [50, 32, 49, 32, 50, 32, 48, 32, 50, 32, 55, 32, 45, 56, 32, 49]))))) rfl) (c_split (b := ((decide ((y4.2 : Int) = 0) && decide ((y7.2 : Int) = 0)) && decide ((y4.1 : Str) = [50, 32, 49, 32, 50, 32, 48, 32, 50, 32, 55, 32, 45, 56, 32, 49]))) hs (fun c15 hs => ?_) (fun c15 hs => ?_))))))))))))))))))))
 ·
  refine wl_on rfl (congrArg Value.bool c15) (wl_ok (r_ldBN (vs := [(.int .i64 (2)), (.int .i64 (1)), (.int .i64 (2)), (.int .i64 (0)), u1, u2]) h 3 rfl Many24 rfl rfl rfl) (wl_on rfl (congrArg Value.bool c15) (wl_ok (r_ldBN (vs := [(.int .i64 (y7.1.kind)), (.int .i64 (y7.1.co)), (.int .i64 (y7.1.epoch)), (.int .i64 (y7.1.place)), u9, u11]) h 6 rfl Many24 rfl rfl rfl) (wl_on rfl (congrArg Value.bool c15) ?_))))
  obtain ⟨y16, e17, hs⟩ := o_bind hs
  refine w_call fnOk10 rfl rfl (record_Same_c _ _ h.lt (⟨2, 1, 2, 0, [7, -8], [1]⟩ : Rec) u1 u2 (h.rdS 1 rfl) (h.rdS 2 rfl) y7.1 u9 u11 (h.rdS 4 rfl) (h.rdS 5 rfl) _ e17) ?_
  rintro _ w ⟨k18, rfl⟩
  refine ⟨_, rfl, ?_⟩
  replace h := h.grow k18
  refine wl_ok (r_pick (b := true) (v := (.bool (y16))) (congrArg Value.bool c15) rfl) (wl_ok (r_assign (v := (.bool (y16))) rfl) (wl_nil (then_normal (wc_ret (fin1 (v := (.bool (y16))) Tryd.results9 rfl ?_)))))
  obtain rfl := Option.some.inj hs
  exact ⟨h.grown, rfl⟩
 ·
  refine wl_off (b' := false) rfl (congrArg Value.bool c15) rfl (wl_off (b' := false) rfl (congrArg Value.bool c15) rfl (wl_off (b' := false) rfl (congrArg Value.bool c15) rfl (wl_ok (r_pick (b := false) (v := (.bool (false))) (congrArg Value.bool c15) rfl) (wl_ok (r_assign (v := (.bool (false))) rfl) (wl_nil (then_normal (wc_ret (fin1 (v := (.bool (false))) Tryd.results9 rfl ?_))))))))
  obtain rfl := Option.some.inj hs
  exact ⟨h.grown, rfl⟩
def wandererref_SameRec (a : Rec) (b : Rec) : Option Bool :=
  bif (((decide ((a.kind : Int) = b.kind) && decide ((a.co : Int) = b.co)) && decide ((a.epoch : Int) = b.epoch)) && decide ((a.place : Int) = b.place)) then (slices_Equal_int a.says b.says).bind fun y4 => bif y4 then (slices_Equal_int a.image b.image).bind fun y8 => some y8 else some false else some false
theorem wandererref_SameRec_c (w0 : World) (M : BS) (hM : ∀ b, M b → b < w0.heap.size) (a : Rec) (va4 va5 : Value) (ha4 : Rd2 rInt w0 BE M va4 a.says) (ha5 : Rd2 rInt w0 BE M va5 a.image) (b : Rec) (vb4 vb5 : Value) (hb4 : Rd2 rInt w0 BE M vb4 b.says) (hb5 : Rd2 rInt w0 BE M vb5 b.image) (r : Bool) (hs : wandererref_SameRec a b = some r) :
    Calls Tryd.prog 14 #[(.agg #[(.int .i64 (a.kind)), (.int .i64 (a.co)), (.int .i64 (a.epoch)), (.int .i64 (a.place)), va4, va5]), (.agg #[(.int .i64 (b.kind)), (.int .i64 (b.co)), (.int .i64 (b.epoch)), (.int .i64 (b.place)), vb4, vb5])] w0 (fun e w' => Grow w0 w' ∧ e = .returned (.bool r)) := by
 refine calls_start (args := [(.agg #[(.int .i64 (a.kind)), (.int .i64 (a.co)), (.int .i64 (a.epoch)), (.int .i64 (a.place)), va4, va5]), (.agg #[(.int .i64 (b.kind)), (.int .i64 (b.co)), (.int .i64 (b.epoch)), (.int .i64 (b.place)), vb4, vb5])]) Tryd.func14 rfl Tryd.ntmps14 (Nat.le_of_ble_eq_true rfl) ?_
 have h := SH.init hM
 replace h := h.argSr 1 ha4 none_own
 replace h := h.argSr 2 ha5 (hupd_own_sr none_own)
 replace h := h.argSr 3 hb4 (hupd_own_sr (hupd_own_sr none_own))
 replace h := h.argSr 4 hb5 (hupd_own_sr (hupd_own_sr (hupd_own_sr none_own)))
 refine wc_seq (wc_region (w_box (cs := [(.int .i64 (a.kind)), (.int .i64 (a.co)), (.int .i64 (a.epoch)), (.int .i64 (a.place)), va4, va5]) h 5 rfl rfl fun w b1 h => w_box (cs := [(.int .i64 (b.kind)), (.int .i64 (b.co)), (.int .i64 (b.epoch)), (.int .i64 (b.place)), vb4, vb5]) h 6 rfl rfl fun w b2 h => wl_ok (r_assign (v := (.bool (false))) rfl) (wl_nil (then_normal (wc_seq (wc_region (wl_ok (r_fieldAddr Fld24x0 rfl) (wl_ok (r_ldB h 5 rfl One3 rfl rfl) (wl_ok (r_fieldAddr Fld24x0 rfl) (wl_ok (r_ldB h 6 rfl One3 rfl rfl) (wl_ok (r_eql rfl rfl) (wl_ok (r_move (v := (.bool (decide ((a.kind : Int) = b.kind)))) rfl) (wl_gd0 rfl rfl (fun q => r_fieldAddr Fld24x1 rfl) (wl_gd0 rfl rfl (fun q => r_ldB h 5 rfl One3 (gvt q) rfl) (wl_gd0 rfl rfl (fun q => r_fieldAddr Fld24x1 rfl) (wl_gd0 rfl rfl (fun q => r_ldB h 6 rfl One3 (gvt q) rfl) (wl_gd0 rfl rfl (fun q => r_eql (gvt q) (gvt q)) (wl_ok (r_pand rfl rfl evc) (wl_ok (r_move (v := (.bool ((decide ((a.kind : Int) = b.kind) && decide ((a.co : Int) = b.co))))) rfl) (wl_gd0 rfl rfl (fun q => r_fieldAddr Fld24x2 rfl) (wl_gd0 rfl rfl (fun q => r_ldB h 5 rfl One3 (gvt q) rfl) ?_)))))))))))))))))))))
 refine wl_gd0 rfl rfl (fun q => r_fieldAddr Fld24x2 rfl) (wl_gd0 rfl rfl (fun q => r_ldB h 6 rfl One3 (gvt q) rfl) (wl_gd0 rfl rfl (fun q => r_eql (gvt q) (gvt q)) (wl_ok (r_pand rfl rfl evc) (wl_ok (r_move (v := (.bool (((decide ((a.kind : Int) = b.kind) && decide ((a.co : Int) = b.co)) && decide ((a.epoch : Int) = b.epoch))))) rfl) (wl_gd0 rfl rfl (fun q => r_fieldAddr Fld24x3 rfl) (wl_gd0 rfl rfl (fun q => r_ldB h 5 rfl One3 (gvt q) rfl) (wl_gd0 rfl rfl (fun q => r_fieldAddr Fld24x3 rfl) (wl_gd0 rfl rfl (fun q => r_ldB h 6 rfl One3 (gvt q) rfl) (wl_gd0 rfl rfl (fun q => r_eql (gvt q) (gvt q)) (wl_ok (r_pand rfl rfl evc) (wl_ok (r_move (v := (.bool ((((decide ((a.kind : Int) = b.kind) && decide ((a.co : Int) = b.co)) && decide ((a.epoch : Int) = b.epoch)) && decide ((a.place : Int) = b.place))))) rfl) (c_split (b := (((decide ((a.kind : Int) = b.kind) && decide ((a.co : Int) = b.co)) && decide ((a.epoch : Int) = b.epoch)) && decide ((a.place : Int) = b.place))) hs (fun c3 hs => ?_) (fun c3 hs => ?_)))))))))))))
 ·
  refine wl_on rfl (congrArg Value.bool c3) (wl_ok (r_fieldAddr Fld24x4 rfl) (wl_on rfl (congrArg Value.bool c3) (wl_ok (r_ldB h 5 rfl One22 rfl rfl) (wl_on rfl (congrArg Value.bool c3) (wl_ok (r_fieldAddr Fld24x4 rfl) (wl_on rfl (congrArg Value.bool c3) (wl_ok (r_ldB h 6 rfl One22 rfl rfl) (wl_on rfl (congrArg Value.bool c3) ?_))))))))
  obtain ⟨y4, e5, hs⟩ := o_bind hs
  refine w_call fnOk39 rfl rfl (slices_Equal_int_c _ _ h.lt va4 a.says (h.srS 1 rfl) vb4 b.says (h.srS 3 rfl) _ e5) ?_
  rintro _ w ⟨k6, rfl⟩
  refine ⟨_, rfl, ?_⟩
  replace h := h.grow k6
  refine wl_ok (r_pick (b := true) (v := (.bool (y4))) (congrArg Value.bool c3) rfl) (wl_ok (r_move (v := (.bool (y4))) rfl) (c_split (b := y4) hs (fun c7 hs => ?_) (fun c7 hs => ?_)))
  ·
   refine wl_on rfl (congrArg Value.bool c7) (wl_ok (r_fieldAddr Fld24x5 rfl) (wl_on rfl (congrArg Value.bool c7) (wl_ok (r_ldB h 5 rfl One22 rfl rfl) (wl_on rfl (congrArg Value.bool c7) (wl_ok (r_fieldAddr Fld24x5 rfl) (wl_on rfl (congrArg Value.bool c7) (wl_ok (r_ldB h 6 rfl One22 rfl rfl) (wl_on rfl (congrArg Value.bool c7) ?_))))))))
   obtain ⟨y8, e9, hs⟩ := o_bind hs
   refine w_call fnOk39 rfl rfl (slices_Equal_int_c _ _ h.lt va5 a.image (h.srS 2 rfl) vb5 b.image (h.srS 4 rfl) _ e9) ?_
   rintro _ w ⟨k10, rfl⟩
   refine ⟨_, rfl, ?_⟩
   replace h := h.grow k10
   refine wl_ok (r_pick (b := true) (v := (.bool (y8))) (congrArg Value.bool c7) rfl) (wl_ok (r_assign (v := (.bool (y8))) rfl) (wl_nil (then_normal (wc_ret (fin1 (v := (.bool (y8))) Tryd.results14 rfl ?_)))))
   obtain rfl := Option.some.inj hs
   exact ⟨h.grown, rfl⟩
  ·
   refine wl_off (b' := false) rfl (congrArg Value.bool c7) rfl (wl_off (b' := false) rfl (congrArg Value.bool c7) rfl (wl_off (b' := false) rfl (congrArg Value.bool c7) rfl (wl_off (b' := false) rfl (congrArg Value.bool c7) rfl (wl_off (b' := false) rfl (congrArg Value.bool c7) rfl (wl_ok (r_pick (b := false) (v := (.bool (false))) (congrArg Value.bool c7) rfl) (wl_ok (r_assign (v := (.bool (false))) rfl) (wl_nil (then_normal (wc_ret (fin1 (v := (.bool (false))) Tryd.results14 rfl ?_))))))))))
   obtain rfl := Option.some.inj hs
   exact ⟨h.grown, rfl⟩
 ·
  refine wl_off (b' := false) rfl (congrArg Value.bool c3) rfl (wl_off (b' := false) rfl (congrArg Value.bool c3) rfl (wl_off (b' := false) rfl (congrArg Value.bool c3) rfl (wl_off (b' := false) rfl (congrArg Value.bool c3) rfl (wl_off (b' := false) rfl (congrArg Value.bool c3) rfl (wl_ok (r_pick (b := false) (v := (.bool (false))) (congrArg Value.bool c3) rfl) (wl_ok (r_move (v := (.bool (false))) rfl) (wl_off (b' := false) rfl rfl rfl (wl_off (b' := false) rfl rfl rfl (wl_off (b' := false) rfl rfl rfl (wl_off (b' := false) rfl rfl rfl (wl_off (b' := false) rfl rfl rfl (wl_ok (r_pick (b := false) (v := (.bool (false))) rfl rfl) (wl_ok (r_assign (v := (.bool (false))) rfl) (wl_nil (then_normal (wc_ret (fin1 (v := (.bool (false))) Tryd.results14 rfl ?_)))))))))))))))))
  obtain rfl := Option.some.inj hs
  exact ⟨h.grown, rfl⟩
theorem strconv_ParseInt_c (w0 : World) (M : BS) (hM : ∀ b, M b → b < w0.heap.size) (hT : Tabs Tryd.prog 3 w0) (a : Str) (r : Int × Bool) (hs : parseS a = some r) :
    Calls Tryd.prog 69 #[strV a, .int .i64 10, .int .i64 64] w0 (fun e w' => Grow w0 w' ∧ ∃ u, e = .returned (.tuple #[.int .i64 r.1, u]) ∧ IsErr u r.2) :=
  parse_w Tryd.strconv_ParseInt_10_at64_ok Tryd.strconv_ParseInt_10_at64_syntax_var Tryd.strconv_ParseInt_10_at64_range_var hT hs
theorem strconv_FormatInt_c (w0 : World) (M : BS) (hM : ∀ b, M b → b < w0.heap.size) (hT : Tabs Tryd.prog 3 w0) (a : Int) (r : Str) (hs : itoaS a = some r) :
    Calls Tryd.prog 70 #[.int .i64 a, .int .i64 10] w0 (fun e w' => Grow w0 w' ∧ e = .returned (strV r)) :=
  format_w Tryd.strconv_FormatInt_10 hT hs
def wandererref_numbers_j26 (x13 : List Int) (y26 : Int × Bool) (nx18 : List Int → Option (List Int × Bool)) (x31 : Bool) : Option (List Int × Bool) :=
  bif x31 then some ([], false) else grd (Room 8 x13 [y26.1]) (nx18 (x13 ++ [y26.1]))
def wandererref_numbers_b27 (x16 : Str) (x13 : List Int) (nx18 : List Int → Option (List Int × Bool)) : Option (List Int × Bool) :=
  (parseS x16).bind fun y26 => bif y26.2 then wandererref_numbers_j26 x13 y26 nx18 true else (itoaS y26.1).bind fun y37 => wandererref_numbers_j26 x13 y26 nx18 (decide ((y37 : Str) ≠ x16))
def wandererref_numbers_k28 (x13 : List Int) : Option (List Int × Bool) :=
  some (x13, true)
def wandererref_numbers (a : Str) : Option (List Int × Bool) :=
  (splitS a [32]).bind fun y1 => each wandererref_numbers_b27 wandererref_numbers_k28 y1 []
theorem wandererref_numbers_c (w0 : World) (M : BS) (hM : ∀ b, M b → b < w0.heap.size) (hT : Tabs Tryd.prog 3 w0) (a : Str) (r : List Int × Bool) (hs : wandererref_numbers a = some r) :
    Calls Tryd.prog 44 #[(strV a)] w0 (fun e w' => Grow w0 w' ∧ ∃ u0, e = .returned (.tuple #[u0, .bool r.2]) ∧ OwnSl rInt 3 w' M u0 r.1 ∧ (∀ b, ob u0 b → w0.heap.size ≤ b)) := by
 refine calls_start (args := [(strV a)]) Tryd.func44 rfl Tryd.ntmps44 (Nat.le_of_ble_eq_true rfl) ?_
 have h := SH.init hM
 refine wc_seq (wc_region (wl_ok (r_assign (v := (.slice none 0 0)) rfl) (wl_ok (r_assign (v := (.bool (false))) rfl) (wl_nil (then_normal (wc_seq (wc_region (wl_ok (r_assign (v := (.slice none 0 0)) rfl) (wl_nil (then_normal (wc_seq (wc_seq (wc_region (wl_ok (r_move (v := (strV a)) rfl) ?_))))))))))))))
 obtain ⟨y1, e2, hs⟩ := o_bind hs
 refine w_call fnOk40 rfl rfl (strings_Split_c _ _ h.lt (hT.go h.keep) a [32] _ e2) ?_
 rintro _ w ⟨k5, u3, rfl, g4⟩
 refine ⟨_, rfl, ?_⟩
 replace h := h.gotRd 1 k5 g4
 refine wl_ok (r_len SliceOf61 rfl (h.rdS 1 rfl)) (wl_ok (r_move (v := (.int .i64 (0))) rfl) (wl_nil (then_normal (wc_block ?_))))
 replace h := h.nilO (R := rInt) (E := 3) 5
 refine wc_lp (σ := Nat × Int × Value × List Int) (inl [2, 3, 4, 6, 7, 8, 12, 13, 14, 15, 16, 17, 18, 19, 20, 21, 22, 23, 24, 25, 26, 27, 28, 29, 30, 31, 32, 33]) (fun ⟨k14, i15, v12, x13⟩ => [(4, v12), (12, (.int .i64 (i15)))]) (fun ⟨k14, i15, v12, x13⟩ w => SH w0 M BE w (hset [(1, .rd rStr u3 y1), (5, .own rInt 3 v12 x13)]) ∧ i15 = (k14 : Int) ∧ each wandererref_numbers_b27 wandererref_numbers_k28 (y1.drop k14) x13 = some r) (fun ⟨k14, i15, v12, x13⟩ => y1.length - k14) ⟨0, 0, (.slice none 0 0), []⟩ ⟨rfl, rfl, trivial⟩ ?_ ?_
 ·
  exact ⟨h.cn _, rfl, hs⟩
 ·
  rintro ⟨k14, i15, v12, x13⟩ w junk ⟨h, hik, hs⟩
  refine wc_seq (wc_region ?_)
  refine wl_ok (r_lss rfl rfl) (wl_nil (then_normal ?_))
  refine wc_seq (wc_if rfl (fun e19 => ?_) (fun e19 => ?_))
  ·
   refine wc_skip (then_normal ?_)
   obtain ⟨x16, e20a, e20b⟩ := drop_lt (hik ▸ e19)
   rw [e20b, each_cons] at hs
   generalize hnx18 : each wandererref_numbers_b27 wandererref_numbers_k28 (y1.drop (k14 + 1)) = nx18 at hs
   have e20r := nat_rng ((h.rdS 1 rfl)).len_le hik e19
   refine wc_seq (wc_block (wc_seq (wc_region ?_)))
   obtain ⟨b22, o23, cs24, h, r25, i21⟩ := h.ixR 1 6 rfl SliceOf61 rfl (nat_nn hik) (get_nat hik e20a)
   obtain rfl := r25
   refine wl_ok (i21 _ _ _ _ _ _ _ _ _ rfl rfl) (wl_ok (r_ldP (k := 0) h 6 rfl One9 rfl rfl) (wl_ok (r_assign (v := (strV x16)) rfl) (wl_nil (then_normal (wc_seq (wc_region (wl_ok (r_move (v := (strV x16)) rfl) ?_)))))))
   obtain ⟨y26, e27, hs⟩ := o_bind hs
   refine w_call fnOk69 rfl rfl (strconv_ParseInt_c _ _ h.lt (hT.go h.keep) x16 _ e27) ?_
   rintro _ w ⟨k30, u28, rfl, g29⟩
   refine ⟨_, rfl, ?_⟩
   replace h := h.grow k30
   refine wl_ok (r_move (v := (.tuple #[(.int .i64 (y26.1)), u28])) rfl) (wl_ok (r_extract rfl rfl) (wl_ok (r_extract rfl rfl) (wl_ok (r_assign (v := (.int .i64 (y26.1))) rfl) (wl_ok (r_assign (v := u28) rfl) (wl_nil (then_normal (wc_seq (wc_join (σ := Bool) (inl [21, 22, 23, 24, 25, 26, 27, 28]) (fun x31 => [(28, (.bool (x31)))]) (fun x31 w => SH w0 M BE w (hset [(1, .rd rStr u3 y1), (5, .own rInt 3 v12 x13)]) ∧ wandererref_numbers_j26 x13 y26 nx18 x31 = some r) ?_ ?_))))))))
   ·
    rintro x31 w junk ⟨h, hs⟩
    refine wc_ifb hs rfl (fun c32 hs => ?_) (fun c32 hs => ?_)
    ·
     refine wc_seq (wc_region (wl_ok (r_assign (v := (.slice none 0 0)) rfl) (wl_ok (r_assign (v := (.bool (false))) rfl) (wl_nil (then_normal (wc_ret (then_ret (inBlock_ret (then_ret (then_ret (inBlock_ret (then_ret (fin2 (v1 := (.slice none 0 0)) (v2 := (.bool (false))) Tryd.results44 rfl rfl ?_)))))))))))))
     obtain rfl := Option.some.inj hs
     exact ⟨h.grown, _, rfl, OwnSl.nil, fresh_nil⟩
    ·
     refine wc_skip (then_normal (wc_region (wl_ok (r_move (v := v12) rfl) (wl_ok (r_move (v := (.int .i64 (y26.1))) rfl) (w_bs (R := rInt) (vs := [(.int .i64 (y26.1))]) (xs := [y26.1]) h 7 ElemOf22 rfl rfl rfl ⟨rfl, trivial⟩ rfl fun w u33 h => ?_)))))
     obtain ⟨a34, hs⟩ := o_grd hs
     refine w_app (R := rInt) (m := [y26.1]) h 5 rfl (h.ownS 7 rfl) ElemOf22 rfl rfl rfl a34.1 a34.2 fun w u35 h => wl_ok (r_assign (v := u35) rfl) (wl_nil (inBlock_normal (then_normal (wc_region (wl_ok (r_add rfl rfl e20r) (wl_ok (r_move (v := (.int .i64 ((i15 + 1)))) rfl) (wl_nil (then_loop ?_))))))))
     subst hnx18
     exact lend ⟨k14 + 1, i15 + 1, u35, (x13 ++ [y26.1])⟩ ⟨h.cn _, by omega, hs⟩ (by have := of_decide_eq_true e19; dsimp only; omega)
   ·
    refine wc_region (wl_ok (r_move (v := u28) rfl) (wl_ok (r_neqnilI IfaceT67 rfl g29 rfl) (wl_ok (r_move (v := (.bool (y26.2))) rfl) (c_split (b := y26.2) hs (fun c36 hs => ?_) (fun c36 hs => ?_)))))
    ·
     refine wl_off (b' := true) rfl (congrArg Value.bool c36) rfl (wl_off (b' := true) rfl (congrArg Value.bool c36) rfl (wl_off (b' := true) rfl (congrArg Value.bool c36) rfl (wl_off (b' := true) rfl (congrArg Value.bool c36) rfl (wl_ok (r_pick (b := true) (v := (.bool (true))) (congrArg Value.bool c36) rfl) (wl_nil (then_loop ?_))))))
     exact jend true ⟨h.cn _, hs⟩
    ·
     refine wl_on rfl (congrArg Value.bool c36) (wl_ok (r_move (v := (.int .i64 (y26.1))) rfl) (wl_on rfl (congrArg Value.bool c36) ?_))
     obtain ⟨y37, e38, hs⟩ := o_bind hs
     refine w_call fnOk70 rfl rfl (strconv_FormatInt_c _ _ h.lt (hT.go h.keep) y26.1 _ e38) ?_
     rintro _ w ⟨k39, rfl⟩
     refine ⟨_, rfl, ?_⟩
     replace h := h.grow k39
     refine wl_on rfl (congrArg Value.bool c36) (wl_ok (r_move (v := (strV x16)) rfl) (wl_on rfl (congrArg Value.bool c36) (wl_ok (r_neqs rfl rfl) (wl_ok (r_pick (b := false) (v := (.bool (decide ((y37 : Str) ≠ x16)))) (congrArg Value.bool c36) rfl) (wl_nil (then_loop ?_))))))
     exact jend (decide ((y37 : Str) ≠ x16)) ⟨h.cn _, hs⟩
  ·
   rw [drop_ge (hik ▸ e19), each_nil] at hs
   refine wc_exit (then_exit (then_exit (inBlock_eq (then_normal (wc_seq (wc_region (wl_ok (r_move (v := v12) rfl) (wl_ok (r_assign (v := v12) rfl) (wl_ok (r_assign (v := (.bool (true))) rfl) (wl_nil (then_normal (wc_ret (fin2 (v1 := v12) (v2 := (.bool (true))) Tryd.results44 rfl rfl ?_)))))))))))))
   obtain rfl := Option.some.inj hs
   exact ⟨h.grown, _, rfl, (h.outOwn 5 rfl).1, (h.outOwn 5 rfl).2⟩
def wandererref_RecRead_j2 (y2 : List Int × Bool) (x8 : Bool) : Option (Rec × Int) :=
  bif x8 then some ((⟨0, 0, 0, 0, [], []⟩ : Rec), 1) else (idx y2.1 4).bind fun x10 => grd (I64 (5 + x10)) ((idx y2.1 0).bind fun xq19x1_1 => (idx y2.1 1).bind fun xq19x4_1 => (idx y2.1 2).bind fun xq19x7_1 => (idx y2.1 3).bind fun xq19x10_1 => (sub? y2.1 5 (5 + x10)).bind fun xq19x14_1 => (sub? y2.1 (5 + x10) (y2.1.length : Int)).bind fun xq19x17_1 => bif decide (((wandererref_CheckRec (⟨xq19x1_1, xq19x4_1, xq19x7_1, xq19x10_1, xq19x14_1, xq19x17_1⟩ : Rec)) : Int) ≠ 0) then some ((⟨0, 0, 0, 0, [], []⟩ : Rec), (wandererref_CheckRec (⟨xq19x1_1, xq19x4_1, xq19x7_1, xq19x10_1, xq19x14_1, xq19x17_1⟩ : Rec))) else some ((⟨xq19x1_1, xq19x4_1, xq19x7_1, xq19x10_1, xq19x14_1, xq19x17_1⟩ : Rec), 0))
def wandererref_RecRead (a : Str) : Option (Rec × Int) :=
  (wandererref_numbers a).bind fun y2 => bif ((!y2.2) || decide (((y2.1.length : Int) : Int) < 5)) then wandererref_RecRead_j2 y2 true else (idx y2.1 4).bind fun x25 => grd (I64 ((y2.1.length : Int) - 5)) (wandererref_RecRead_j2 y2 (!(wandererref_in x25 0 ((y2.1.length : Int) - 5))))
theorem wandererref_RecRead_c (w0 : World) (M : BS) (hM : ∀ b, M b → b < w0.heap.size) (hT : Tabs Tryd.prog 3 w0) (a : Str) (r : Rec × Int) (hs : wandererref_RecRead a = some r) :
    Calls Tryd.prog 15 #[(strV a)] w0 (fun e w' => Grow w0 w' ∧ ∃ u0_4, ∃ u0_5, e = .returned (.tuple #[.agg #[.int .i64 r.1.kind, .int .i64 r.1.co, .int .i64 r.1.epoch, .int .i64 r.1.place, u0_4, u0_5], .int .i64 r.2]) ∧ RdSl rInt w' M u0_4 r.1.says ∧ RdSl rInt w' M u0_5 r.1.image) := by
 refine calls_start (args := [(strV a)]) Tryd.func15 rfl Tryd.ntmps15 (Nat.le_of_ble_eq_true rfl) ?_
 have h := SH.init hM
 refine wc_seq (wc_region (w_allocN h 1 Many24 fun w b1 h => wl_ok (r_assign (v := (.int .i64 (0))) rfl) (wl_nil (then_normal (wc_seq (wc_region (wl_ok (r_move (v := (strV a)) rfl) ?_)))))))
 obtain ⟨y2, e3, hs⟩ := o_bind hs
 refine w_call fnOk44 rfl rfl (wandererref_numbers_c _ _ h.lt (hT.go h.keep) a _ e3) ?_
 rintro _ w ⟨k7, u4, rfl, g5, g6⟩
 refine ⟨_, rfl, ?_⟩
 replace h := h.gotOwn 2 k7 g5 g6
 refine wl_ok (r_move (v := (.tuple #[u4, (.bool (y2.2))])) rfl) (wl_ok (r_extract rfl rfl) (wl_ok (r_extract rfl rfl) (wl_ok (r_assign (v := u4) rfl) (wl_ok (r_assign (v := (.bool (y2.2))) rfl) (wl_nil (then_normal (wc_seq (wc_join (σ := Bool) (inl [14, 15, 16, 17, 18, 19, 20, 21, 22, 23, 24, 25, 26, 27, 28, 29, 30]) (fun x8 => [(30, (.bool (x8)))]) (fun x8 w => SH w0 M BE w (hset [(1, .blk b1 [(.int .i64 (0)), (.int .i64 (0)), (.int .i64 (0)), (.int .i64 (0)), (.slice none 0 0), (.slice none 0 0)]), (2, .own rInt 3 u4 y2.1)]) ∧ wandererref_RecRead_j2 y2 x8 = some r) ?_ ?_))))))))
 ·
  rintro x8 w junk ⟨h, hs⟩
  refine wc_ifb hs rfl (fun c9 hs => ?_) (fun c9 hs => ?_)
  ·
   refine wc_seq (wc_region (wl_ok (r_build (pv := []) (out := [(.int .i64 (0)), (.int .i64 (0)), (.int .i64 (0)), (.int .i64 (0)), (.slice none 0 0), (.slice none 0 0)]) Struct24 rfl rfl) (w_stN (vs := [(.int .i64 (0)), (.int .i64 (0)), (.int .i64 (0)), (.int .i64 (0)), (.slice none 0 0), (.slice none 0 0)]) h 1 [(.int .i64 (0)), (.int .i64 (0)), (.int .i64 (0)), (.int .i64 (0)), (.slice none 0 0), (.slice none 0 0)] rfl Many24 rfl rfl rfl rfl rfl (ones_cons rfl (ones_cons rfl (ones_cons rfl (ones_cons rfl (ones_cons rfl (ones_cons rfl ones_nil)))))) fun w h => wl_ok (r_assign (v := (.int .i64 (1))) rfl) (wl_nil (then_normal (wc_ret (then_ret (fin_ct (vs := [(.int .i64 (0)), (.int .i64 (0)), (.int .i64 (0)), (.int .i64 (0)), (.slice none 0 0), (.slice none 0 0)]) (v2 := (.int .i64 (1))) Tryd.results15 rfl rfl h 1 rfl Many24 rfl ?_))))))))
   obtain rfl := Option.some.inj hs
   exact ⟨h.grown, _, _, rfl, Rd2.nil, Rd2.nil⟩
  ·
   refine wc_skip (then_normal (wc_seq (wc_region (wl_ok (r_move (v := u4) rfl) ?_))))
   obtain ⟨x10, e11, hs⟩ := o_bind hs
   obtain ⟨b13, q14, i12⟩ := h.ixO 2 rfl SliceOf22 rfl (o_idx e11).1 (o_idx e11).2
   refine wl_ok (i12 _ _ _ _ _ _ _ _ _ rfl rfl) ?_
   obtain ⟨cs15, m16, r17⟩ := h.elO 2 rfl q14 (o_idx e11).2
   obtain rfl := r17
   refine wl_ok (r_ldA (k := 0) m16 One3 rfl rfl) ?_
   obtain ⟨a18, hs⟩ := o_grd hs
   refine wl_ok (r_add rfl rfl a18) (wl_ok (r_assign (v := (.int .i64 ((5 + x10)))) rfl) (wl_nil (then_normal (wc_seq (wc_held mixed h fun w h => wh_ok 0 (Keep.refl BE _) rfl want_none (by kernel_rfl) (by kernel_rfl) (by kernel_rfl) (fun w hk => r_move (v := u4) rfl) ?_)))))
   obtain ⟨xq19x1_1, eq19x1_2, hs⟩ := o_bind hs
   obtain ⟨bq19x1_4, qq19x1_5, iq19x1_3⟩ := h.ixO 2 rfl SliceOf22 rfl (o_idx eq19x1_2).1 (o_idx eq19x1_2).2
   refine wh_ok 1 (Keep.refl BE _) rfl want_none (by kernel_rfl) (by kernel_rfl) (by kernel_rfl) (fun w hk => iq19x1_3 _ _ _ _ _ _ _ _ _ rfl rfl) ?_
   obtain ⟨csq19x2_1, mq19x2_2, rq19x2_3⟩ := h.elO 2 rfl qq19x1_5 (o_idx eq19x1_2).2
   obtain rfl := rq19x2_3
   refine wh_ok 2 (Keep.refl BE _) rfl want_none (by kernel_rfl) (by kernel_rfl) (by kernel_rfl) (fun w hk => have h := h.grow hk; r_ldA (k := 0) (mq19x2_2.grow hk) One3 rfl rfl) (wh_ok 3 (Keep.refl BE _) rfl want_none (by kernel_rfl) (by kernel_rfl) (by kernel_rfl) (fun w hk => r_move (v := u4) rfl) ?_)
   obtain ⟨xq19x4_1, eq19x4_2, hs⟩ := o_bind hs
   obtain ⟨bq19x4_4, qq19x4_5, iq19x4_3⟩ := h.ixO 2 rfl SliceOf22 rfl (o_idx eq19x4_2).1 (o_idx eq19x4_2).2
   refine wh_ok 4 (Keep.refl BE _) rfl want_none (by kernel_rfl) (by kernel_rfl) (by kernel_rfl) (fun w hk => iq19x4_3 _ _ _ _ _ _ _ _ _ rfl rfl) ?_
   obtain ⟨csq19x5_1, mq19x5_2, rq19x5_3⟩ := h.elO 2 rfl qq19x4_5 (o_idx eq19x4_2).2
   obtain rfl := rq19x5_3
   refine wh_ok 5 (Keep.refl BE _) rfl want_none (by kernel_rfl) (by kernel_rfl) (by kernel_rfl) (fun w hk => have h := h.grow hk; r_ldA (k := 0) (mq19x5_2.grow hk) One3 rfl rfl) (wh_ok 6 (Keep.refl BE _) rfl want_none (by kernel_rfl) (by kernel_rfl) (by kernel_rfl) (fun w hk => r_move (v := u4) rfl) ?_)
   obtain ⟨xq19x7_1, eq19x7_2, hs⟩ := o_bind hs
   obtain ⟨bq19x7_4, qq19x7_5, iq19x7_3⟩ := h.ixO 2 rfl SliceOf22 rfl (o_idx eq19x7_2).1 (o_idx eq19x7_2).2
   refine wh_ok 7 (Keep.refl BE _) rfl want_none (by kernel_rfl) (by kernel_rfl) (by kernel_rfl) (fun w hk => iq19x7_3 _ _ _ _ _ _ _ _ _ rfl rfl) ?_
   obtain ⟨csq19x8_1, mq19x8_2, rq19x8_3⟩ := h.elO 2 rfl qq19x7_5 (o_idx eq19x7_2).2
   obtain rfl := rq19x8_3
   refine wh_ok 8 (Keep.refl BE _) rfl want_none (by kernel_rfl) (by kernel_rfl) (by kernel_rfl) (fun w hk => have h := h.grow hk; r_ldA (k := 0) (mq19x8_2.grow hk) One3 rfl rfl) (wh_ok 9 (Keep.refl BE _) rfl want_none (by kernel_rfl) (by kernel_rfl) (by kernel_rfl) (fun w hk => r_move (v := u4) rfl) ?_)
   obtain ⟨xq19x10_1, eq19x10_2, hs⟩ := o_bind hs
   obtain ⟨bq19x10_4, qq19x10_5, iq19x10_3⟩ := h.ixO 2 rfl SliceOf22 rfl (o_idx eq19x10_2).1 (o_idx eq19x10_2).2
   refine wh_ok 10 (Keep.refl BE _) rfl want_none (by kernel_rfl) (by kernel_rfl) (by kernel_rfl) (fun w hk => iq19x10_3 _ _ _ _ _ _ _ _ _ rfl rfl) ?_
   obtain ⟨csq19x11_1, mq19x11_2, rq19x11_3⟩ := h.elO 2 rfl qq19x10_5 (o_idx eq19x10_2).2
   obtain rfl := rq19x11_3
   refine wh_ok 11 (Keep.refl BE _) rfl want_none (by kernel_rfl) (by kernel_rfl) (by kernel_rfl) (fun w hk => have h := h.grow hk; r_ldA (k := 0) (mq19x11_2.grow hk) One3 rfl rfl) (wh_ok 12 (Keep.refl BE _) rfl want_none (by kernel_rfl) (by kernel_rfl) (by kernel_rfl) (fun w hk => r_move (v := u4) rfl) (wh_ok 13 (Keep.refl BE _) rfl want_none (by kernel_rfl) (by kernel_rfl) (by kernel_rfl) (fun w hk => r_move (v := (.int .i64 ((5 + x10)))) rfl) ?_))
   obtain ⟨xq19x14_1, eq19x14_2, hs⟩ := o_bind hs
   obtain ⟨eq19x14_5, eq19x14_5a, eq19x14_5b, eq19x14_5c⟩ := o_sub eq19x14_2
   replace h := h.freeze 2 rfl
   obtain ⟨uq19x14_3, h, iq19x14_4⟩ := h.slR 2 171 rfl SliceOf22 rfl eq19x14_5a eq19x14_5b eq19x14_5c
   rw [← eq19x14_5] at h
   refine wh_ok 14 (Keep.refl BE _) rfl want_none (by kernel_rfl) (by kernel_rfl) (by kernel_rfl) (fun w hk => iq19x14_4 _ _ _ _ _ _ _ _ _ _ rfl (.inr (congrArg some rfl)) (.inr (congrArg some rfl))) (wh_ok 15 (Keep.refl BE _) rfl want_none (by kernel_rfl) (by kernel_rfl) (by kernel_rfl) (fun w hk => r_move (v := u4) rfl) (wh_ok 16 (Keep.refl BE _) rfl want_none (by kernel_rfl) (by kernel_rfl) (by kernel_rfl) (fun w hk => r_move (v := (.int .i64 ((5 + x10)))) rfl) ?_))
   obtain ⟨xq19x17_1, eq19x17_2, hs⟩ := o_bind hs
   obtain ⟨eq19x17_5, eq19x17_5a, eq19x17_5b, eq19x17_5c⟩ := o_sub eq19x17_2
   obtain ⟨uq19x17_3, h, iq19x17_4⟩ := h.slR 2 207 rfl SliceOf22 rfl eq19x17_5a eq19x17_5b eq19x17_5c
   rw [← eq19x17_5] at h
   refine wh_ok 17 (Keep.refl BE _) rfl want_none (by kernel_rfl) (by kernel_rfl) (by kernel_rfl) (fun w hk => iq19x17_4 _ _ _ _ _ _ _ _ _ _ rfl (.inr (congrArg some rfl)) (.inl ⟨rfl, rfl⟩)) (wh_ok 18 (Keep.refl BE _) rfl want_none (by kernel_rfl) (by kernel_rfl) (by kernel_rfl) (fun w hk => r_build (pv := [(0, (.int .i64 (xq19x1_1))), (1, (.int .i64 (xq19x4_1))), (2, (.int .i64 (xq19x7_1))), (3, (.int .i64 (xq19x10_1))), (4, uq19x14_3), (5, uq19x17_3)]) (out := [(.int .i64 (xq19x1_1)), (.int .i64 (xq19x4_1)), (.int .i64 (xq19x7_1)), (.int .i64 (xq19x10_1)), uq19x14_3, uq19x17_3]) Struct24 rfl ⟨0, 1, [(.int .i64 (xq19x1_1))], rfl, rfl, rfl, Nat.le_of_ble_eq_true rfl, ⟨1, 1, [(.int .i64 (xq19x4_1))], rfl, rfl, rfl, Nat.le_of_ble_eq_true rfl, ⟨2, 1, [(.int .i64 (xq19x7_1))], rfl, rfl, rfl, Nat.le_of_ble_eq_true rfl, ⟨3, 1, [(.int .i64 (xq19x10_1))], rfl, rfl, rfl, Nat.le_of_ble_eq_true rfl, ⟨4, 1, [uq19x14_3], rfl, (toList_of_one (h.rdAt 171 rfl).one), rfl, Nat.le_of_ble_eq_true rfl, ⟨5, 1, [uq19x17_3], rfl, (toList_of_one (h.rdAt 207 rfl).one), rfl, Nat.le_of_ble_eq_true rfl, rfl⟩⟩⟩⟩⟩⟩) ?_)
   obtain ⟨ws20, ws20e⟩ : ∃ x, x = w := ⟨_, rfl⟩
   have hg21 : Grow ws20 w := ws20e ▸ Keep.refl BE w
   refine wh_at ws20e.symm (wh_eff 19 (by kernel_rfl) rfl want_none (w_allocNG h 231 Many24 fun w bq19x19_1 h bq19x19_1k bq19x19_1f => ?_))
   have bq19x19_1q : ws20.heap.size ≤ bq19x19_1 := Nat.le_trans hg21.size bq19x19_1f
   replace hg21 := hg21.trans bq19x19_1k
   refine wl_nil (wh_back hg21 (wh_eff 20 (by kernel_rfl) rfl want_none (w_stNG (vs := [(.int .i64 (xq19x1_1)), (.int .i64 (xq19x4_1)), (.int .i64 (xq19x7_1)), (.int .i64 (xq19x10_1)), uq19x14_3, uq19x17_3]) h 231 [(.int .i64 (xq19x1_1)), (.int .i64 (xq19x4_1)), (.int .i64 (xq19x7_1)), (.int .i64 (xq19x10_1)), uq19x14_3, uq19x17_3] rfl Many24 rfl rfl rfl rfl rfl (ones_cons rfl (ones_cons rfl (ones_cons rfl (ones_cons rfl (ones_cons (h.rdAt 171 rfl).one (ones_cons (h.rdAt 207 rfl).one ones_nil)))))) fun w h kq19x20_1 => ?_)))
   replace hg21 := hg21.fresh kq19x20_1 (fun x hx => hx ▸ bq19x19_1q)
   refine wl_nil (wh_back hg21 (wh_done (by kernel_rfl) (then_normal (wc_seq (wc_seq (wc_region (wl_ok (r_ldBN (vs := [(.int .i64 (xq19x1_1)), (.int .i64 (xq19x4_1)), (.int .i64 (xq19x7_1)), (.int .i64 (xq19x10_1)), uq19x14_3, uq19x17_3]) h 231 rfl Many24 rfl rfl rfl) (w_call fnOk43 rfl rfl (wandererref_CheckRec_c _ _ h.lt (⟨xq19x1_1, xq19x4_1, xq19x7_1, xq19x10_1, xq19x14_1, xq19x17_1⟩ : Rec) uq19x14_3 uq19x17_3 (h.rdS 171 rfl) (h.rdS 207 rfl) _ rfl) ?_))))))))
   rintro _ w ⟨k22, rfl⟩
   refine ⟨_, rfl, ?_⟩
   replace h := h.grow k22
   refine wl_ok (r_assign (v := (.int .i64 ((wandererref_CheckRec (⟨xq19x1_1, xq19x4_1, xq19x7_1, xq19x10_1, xq19x14_1, xq19x17_1⟩ : Rec))))) rfl) (wl_nil (then_normal (wc_seq (wc_region (wl_ok (r_move (v := (.int .i64 ((wandererref_CheckRec (⟨xq19x1_1, xq19x4_1, xq19x7_1, xq19x10_1, xq19x14_1, xq19x17_1⟩ : Rec))))) rfl) (wl_ok (r_neq rfl rfl) (wl_nil (then_normal (wc_ifb hs rfl (fun c23 hs => ?_) (fun c23 hs => ?_))))))))))
   ·
    refine wc_seq (wc_region (wl_ok (r_build (pv := []) (out := [(.int .i64 (0)), (.int .i64 (0)), (.int .i64 (0)), (.int .i64 (0)), (.slice none 0 0), (.slice none 0 0)]) Struct24 rfl rfl) (wl_ok (r_move (v := (.int .i64 ((wandererref_CheckRec (⟨xq19x1_1, xq19x4_1, xq19x7_1, xq19x10_1, xq19x14_1, xq19x17_1⟩ : Rec))))) rfl) (w_stN (vs := [(.int .i64 (0)), (.int .i64 (0)), (.int .i64 (0)), (.int .i64 (0)), (.slice none 0 0), (.slice none 0 0)]) h 1 [(.int .i64 (0)), (.int .i64 (0)), (.int .i64 (0)), (.int .i64 (0)), (.slice none 0 0), (.slice none 0 0)] rfl Many24 rfl rfl rfl rfl rfl (ones_cons rfl (ones_cons rfl (ones_cons rfl (ones_cons rfl (ones_cons rfl (ones_cons rfl ones_nil)))))) fun w h => wl_ok (r_assign (v := (.int .i64 ((wandererref_CheckRec (⟨xq19x1_1, xq19x4_1, xq19x7_1, xq19x10_1, xq19x14_1, xq19x17_1⟩ : Rec))))) rfl) (wl_nil (then_normal (wc_ret (then_ret (fin_ct (vs := [(.int .i64 (0)), (.int .i64 (0)), (.int .i64 (0)), (.int .i64 (0)), (.slice none 0 0), (.slice none 0 0)]) (v2 := (.int .i64 ((wandererref_CheckRec (⟨xq19x1_1, xq19x4_1, xq19x7_1, xq19x10_1, xq19x14_1, xq19x17_1⟩ : Rec))))) Tryd.results15 rfl rfl h 1 rfl Many24 rfl ?_)))))))))
    obtain rfl := Option.some.inj hs
    exact ⟨h.grown, _, _, rfl, Rd2.nil, Rd2.nil⟩
   ·
    refine wc_skip (then_normal (wc_seq (wc_region (wl_ok (r_ldBN (vs := [(.int .i64 (xq19x1_1)), (.int .i64 (xq19x4_1)), (.int .i64 (xq19x7_1)), (.int .i64 (xq19x10_1)), uq19x14_3, uq19x17_3]) h 231 rfl Many24 rfl rfl rfl) (w_stN (vs := [(.int .i64 (xq19x1_1)), (.int .i64 (xq19x4_1)), (.int .i64 (xq19x7_1)), (.int .i64 (xq19x10_1)), uq19x14_3, uq19x17_3]) h 1 [(.int .i64 (xq19x1_1)), (.int .i64 (xq19x4_1)), (.int .i64 (xq19x7_1)), (.int .i64 (xq19x10_1)), uq19x14_3, uq19x17_3] rfl Many24 rfl rfl rfl rfl rfl (ones_cons rfl (ones_cons rfl (ones_cons rfl (ones_cons rfl (ones_cons (h.rdAt 171 rfl).one (ones_cons (h.rdAt 207 rfl).one ones_nil)))))) fun w h => wl_ok (r_assign (v := (.int .i64 (0))) rfl) (wl_nil (then_normal (wc_ret (fin_ct (vs := [(.int .i64 (xq19x1_1)), (.int .i64 (xq19x4_1)), (.int .i64 (xq19x7_1)), (.int .i64 (xq19x10_1)), uq19x14_3, uq19x17_3]) (v2 := (.int .i64 (0))) Tryd.results15 rfl rfl h 1 rfl Many24 rfl ?_)))))))))
    obtain rfl := Option.some.inj hs
    exact ⟨h.grown, _, _, rfl, h.outRd 171 rfl, h.outRd 207 rfl⟩
 ·
  refine wc_region (wl_ok (r_move (v := (.bool (y2.2))) rfl) (wl_ok (r_notb rfl) (wl_ok (r_move (v := (.bool ((!y2.2)))) rfl) (wl_gd0 rfl rfl (fun q => r_move (v := u4) rfl) (wl_gd0 rfl rfl (fun q => r_len SliceOf22 (gvt q) (h.ownS 2 rfl)) (wl_gd0 rfl rfl (fun q => r_lss (gvt q) rfl) (wl_ok (r_por rfl rfl evc) (wl_ok (r_move (v := (.bool (((!y2.2) || decide (((y2.1.length : Int) : Int) < 5))))) rfl) (c_split (b := ((!y2.2) || decide (((y2.1.length : Int) : Int) < 5))) hs (fun c24 hs => ?_) (fun c24 hs => ?_))))))))))
  ·
   refine wl_off (b' := true) rfl (congrArg Value.bool c24) rfl (wl_off (b' := true) rfl (congrArg Value.bool c24) rfl (wl_off (b' := true) rfl (congrArg Value.bool c24) rfl (wl_off (b' := true) rfl (congrArg Value.bool c24) rfl (wl_off (b' := true) rfl (congrArg Value.bool c24) rfl (wl_off (b' := true) rfl (congrArg Value.bool c24) rfl (wl_off (b' := true) rfl (congrArg Value.bool c24) rfl (wl_off (b' := true) rfl (congrArg Value.bool c24) rfl (wl_ok (r_pick (b := true) (v := (.bool (true))) (congrArg Value.bool c24) rfl) (wl_nil (then_loop ?_))))))))))
   exact jend true ⟨h.cn _, hs⟩
  ·
   refine wl_on rfl (congrArg Value.bool c24) (wl_ok (r_move (v := u4) rfl) (wl_on rfl (congrArg Value.bool c24) ?_))
   obtain ⟨x25, e26, hs⟩ := o_bind hs
   obtain ⟨b28, q29, i27⟩ := h.ixO 2 rfl SliceOf22 rfl (o_idx e26).1 (o_idx e26).2
   refine wl_ok (i27 _ _ _ _ _ _ _ _ _ rfl rfl) (wl_on rfl (congrArg Value.bool c24) ?_)
   obtain ⟨cs30, m31, r32⟩ := h.elO 2 rfl q29 (o_idx e26).2
   obtain rfl := r32
   refine wl_ok (r_ldA (k := 0) m31 One3 rfl rfl) (wl_on rfl (congrArg Value.bool c24) (wl_ok (r_move (v := u4) rfl) (wl_on rfl (congrArg Value.bool c24) (wl_ok (r_len SliceOf22 rfl (h.ownS 2 rfl)) (wl_on rfl (congrArg Value.bool c24) ?_)))))
   obtain ⟨a33, hs⟩ := o_grd hs
   refine wl_ok (r_sub rfl rfl a33) (wl_on rfl (congrArg Value.bool c24) (w_call fnOk45 rfl rfl (wandererref_in_c _ _ h.lt x25 0 ((y2.1.length : Int) - 5) _ rfl) ?_))
   rintro _ w ⟨k34, rfl⟩
   refine ⟨_, rfl, ?_⟩
   replace h := h.grow k34
   refine wl_on rfl (congrArg Value.bool c24) (wl_ok (r_notb rfl) (wl_ok (r_pick (b := false) (v := (.bool ((!(wandererref_in x25 0 ((y2.1.length : Int) - 5)))))) (congrArg Value.bool c24) rfl) (wl_nil (then_loop ?_))))
   exact jend (!(wandererref_in x25 0 ((y2.1.length : Int) - 5))) ⟨h.cn _, hs⟩
def wandererlaw_RecordSays_j2 (c : Str) (y6 : Rec × Int) (x17 : Bool) : Option Bool :=
  bif x17 then some false else bif decide ((60000 : Int) < (c.length : Int)) then bif decide ((y6.2 : Int) = 2) then (wandererref_SameRec y6.1 (⟨0, 0, 0, 0, [], []⟩ : Rec)).bind fun y21 => some y21 else some false else (wandererref_RecRead c).bind fun y24 => bif decide ((y6.2 : Int) = y24.2) then (wandererref_SameRec y6.1 y24.1).bind fun y33 => some y33 else some false
def wandererlaw_RecordSays (a : Rec) (b : Rec) (c : Str) : Option Bool :=
  (record_Print a).bind fun y3 => (record_Parse c).bind fun y6 => (wandererref_RecText a).bind fun y14 => (wandererlaw_lined).bind fun yq36x0_1 => bif (!yq36x0_1) then wandererlaw_RecordSays_j2 c y6 true else bif decide (((record_Check a) : Int) ≠ y14.2) then wandererlaw_RecordSays_j2 c y6 true else bif decide ((y3.2 : Int) ≠ y14.2) then wandererlaw_RecordSays_j2 c y6 true else bif decide ((y3.1 : Str) ≠ y14.1) then wandererlaw_RecordSays_j2 c y6 true else (record_Same a b).bind fun yq36x21_1 => (wandererref_SameRec a b).bind fun yq36x24_1 => wandererlaw_RecordSays_j2 c y6 (yq36x21_1 != yq36x24_1)
theorem wandererlaw_RecordSays_c (w0 : World) (M : BS) (hM : ∀ b, M b → b < w0.heap.size) (hT : Tabs Tryd.prog 3 w0) (a : Rec) (va4 va5 : Value) (ha4 : RdSl rInt w0 M va4 a.says) (ha5 : RdSl rInt w0 M va5 a.image) (b : Rec) (vb4 vb5 : Value) (hb4 : Rd2 rInt w0 BE M vb4 b.says) (hb5 : Rd2 rInt w0 BE M vb5 b.image) (c : Str) (r : Bool) (hs : wandererlaw_RecordSays a b c = some r) :
    Calls Tryd.prog 4 #[(.agg #[(.int .i64 (a.kind)), (.int .i64 (a.co)), (.int .i64 (a.epoch)), (.int .i64 (a.place)), va4, va5]), (.agg #[(.int .i64 (b.kind)), (.int .i64 (b.co)), (.int .i64 (b.epoch)), (.int .i64 (b.place)), vb4, vb5]), (strV c)] w0 (fun e w' => Grow w0 w' ∧ e = .returned (.bool r)) := by
 refine calls_start (args := [(.agg #[(.int .i64 (a.kind)), (.int .i64 (a.co)), (.int .i64 (a.epoch)), (.int .i64 (a.place)), va4, va5]), (.agg #[(.int .i64 (b.kind)), (.int .i64 (b.co)), (.int .i64 (b.epoch)), (.int .i64 (b.place)), vb4, vb5]), (strV c)]) Tryd.func4 rfl Tryd.ntmps4 (Nat.le_of_ble_eq_true rfl) ?_
 have h := SH.init hM
 replace h := h.argRd 1 ha4 none_own
 replace h := h.argRd 2 ha5 (hupd_own_rd none_own)
 replace h := h.argSr 3 hb4 (hupd_own_rd (hupd_own_rd none_own))
 replace h := h.argSr 4 hb5 (hupd_own_sr (hupd_own_rd (hupd_own_rd none_own)))
 refine wc_seq (wc_region (w_box (cs := [(.int .i64 (a.kind)), (.int .i64 (a.co)), (.int .i64 (a.epoch)), (.int .i64 (a.place)), va4, va5]) h 5 rfl rfl fun w b1 h => w_box (cs := [(.int .i64 (b.kind)), (.int .i64 (b.co)), (.int .i64 (b.epoch)), (.int .i64 (b.place)), vb4, vb5]) h 6 rfl rfl fun w b2 h => wl_ok (r_assign (v := (.bool (false))) rfl) (wl_nil (then_normal (wc_seq (wc_region (wl_ok (r_ldBN (vs := [(.int .i64 (a.kind)), (.int .i64 (a.co)), (.int .i64 (a.epoch)), (.int .i64 (a.place)), va4, va5]) h 5 rfl Many24 rfl rfl rfl) ?_)))))))
 obtain ⟨y3, e4, hs⟩ := o_bind hs
 refine w_call fnOk8 rfl rfl (record_Print_c _ _ h.lt (hT.go h.keep) a va4 va5 (h.rdAt 1 rfl) (h.rdAt 2 rfl) _ e4) ?_
 rintro _ w ⟨k5, rfl⟩
 refine ⟨_, rfl, ?_⟩
 replace h := h.grow k5
 refine wl_ok (r_move (v := (.tuple #[(strV y3.1), (.int .i64 (y3.2))])) rfl) (wl_ok (r_extract rfl rfl) (wl_ok (r_extract rfl rfl) (wl_ok (r_assign (v := (strV y3.1)) rfl) (wl_ok (r_assign (v := (.int .i64 (y3.2))) rfl) (wl_nil (then_normal (wc_seq (wc_region (wl_ok (r_move (v := (strV c)) rfl) ?_)))))))))
 obtain ⟨y6, e7, hs⟩ := o_bind hs
 refine w_call fnOk11 rfl rfl (record_Parse_c _ _ h.lt (hT.go h.keep) c _ e7) ?_
 rintro _ w ⟨k12, u8, u10, rfl, g9, g11⟩
 refine ⟨_, rfl, ?_⟩
 replace h := h.gotRd 7 k12 g9
 replace h := h.knowRd 8 g11.up
 refine wl_ok (r_move (v := (.tuple #[(.agg #[(.int .i64 (y6.1.kind)), (.int .i64 (y6.1.co)), (.int .i64 (y6.1.epoch)), (.int .i64 (y6.1.place)), u8, u10]), (.int .i64 (y6.2))])) rfl) (wl_ok (r_extract rfl rfl) (wl_ok (r_extract rfl rfl) (w_allocN h 9 Many24 fun w b13 h => w_stN (vs := [(.int .i64 (y6.1.kind)), (.int .i64 (y6.1.co)), (.int .i64 (y6.1.epoch)), (.int .i64 (y6.1.place)), u8, u10]) h 9 [(.int .i64 (y6.1.kind)), (.int .i64 (y6.1.co)), (.int .i64 (y6.1.epoch)), (.int .i64 (y6.1.place)), u8, u10] rfl Many24 rfl rfl rfl rfl rfl (ones_cons rfl (ones_cons rfl (ones_cons rfl (ones_cons rfl (ones_cons (h.rdAt 7 rfl).one (ones_cons (h.rdAt 8 rfl).one ones_nil)))))) fun w h => wl_ok (r_assign (v := (.int .i64 (y6.2))) rfl) (wl_nil (then_normal (wc_seq (wc_region (wl_ok (r_ldBN (vs := [(.int .i64 (a.kind)), (.int .i64 (a.co)), (.int .i64 (a.epoch)), (.int .i64 (a.place)), va4, va5]) h 5 rfl Many24 rfl rfl rfl) ?_))))))))
 obtain ⟨y14, e15, hs⟩ := o_bind hs
 refine w_call fnOk12 rfl rfl (wandererref_RecText_c _ _ h.lt (hT.go h.keep) a va4 va5 (h.rdAt 1 rfl) (h.rdAt 2 rfl) _ e15) ?_
 rintro _ w ⟨k16, rfl⟩
 refine ⟨_, rfl, ?_⟩
 replace h := h.grow k16
 refine wl_ok (r_move (v := (.tuple #[(strV y14.1), (.int .i64 (y14.2))])) rfl) (wl_ok (r_extract rfl rfl) (wl_ok (r_extract rfl rfl) (wl_ok (r_assign (v := (strV y14.1)) rfl) (wl_ok (r_assign (v := (.int .i64 (y14.2))) rfl) (wl_nil (then_normal (wc_seq (wc_join (σ := Bool) (inl [30, 31, 32, 33, 34, 35, 36, 37, 38, 39, 40, 41, 42, 43, 44, 45, 46, 47, 48, 49, 50, 51, 52, 53, 54, 55, 56]) (fun x17 => [(56, (.bool (x17)))]) (fun x17 w => SH w0 M BE w (hset [(7, .rd rInt u8 y6.1.says), (8, .rd rInt u10 y6.1.image), (9, .blk b13 [(.int .i64 (y6.1.kind)), (.int .i64 (y6.1.co)), (.int .i64 (y6.1.epoch)), (.int .i64 (y6.1.place)), u8, u10])]) ∧ wandererlaw_RecordSays_j2 c y6 x17 = some r) ?_ ?_))))))))
 ·
  rintro x17 w junk ⟨h, hs⟩
  refine wc_ifb hs rfl (fun c18 hs => ?_) (fun c18 hs => ?_)
  ·
   refine wc_seq (wc_region (wl_ok (r_assign (v := (.bool (false))) rfl) (wl_nil (then_normal (wc_ret (then_ret (fin1 (v := (.bool (false))) Tryd.results4 rfl ?_)))))))
   obtain rfl := Option.some.inj hs
   exact ⟨h.grown, rfl⟩
  ·
   refine wc_skip (then_normal (wc_seq (wc_seq (wc_region (wl_ok (r_move (v := (strV c)) rfl) (wl_ok (r_lenS Tryd.underlying9 rfl) (wl_ok (r_gtr rfl rfl) (wl_nil (then_normal (wc_ifb hs rfl (fun c19 hs => ?_) (fun c19 hs => ?_)))))))))))
   ·
    refine wc_seq (wc_region (wl_ok (r_move (v := (.int .i64 (y6.2))) rfl) (wl_ok (r_eql rfl rfl) (wl_ok (r_move (v := (.bool (decide ((y6.2 : Int) = 2)))) rfl) (c_split (b := decide ((y6.2 : Int) = 2)) hs (fun c20 hs => ?_) (fun c20 hs => ?_))))))
    ·
     refine wl_on rfl (congrArg Value.bool c20) (wl_ok (r_ldBN (vs := [(.int .i64 (y6.1.kind)), (.int .i64 (y6.1.co)), (.int .i64 (y6.1.epoch)), (.int .i64 (y6.1.place)), u8, u10]) h 9 rfl Many24 rfl rfl rfl) (wl_on rfl (congrArg Value.bool c20) (wl_ok (r_build (pv := []) (out := [(.int .i64 (0)), (.int .i64 (0)), (.int .i64 (0)), (.int .i64 (0)), (.slice none 0 0), (.slice none 0 0)]) Struct24 rfl rfl) (wl_on rfl (congrArg Value.bool c20) ?_))))
     obtain ⟨y21, e22, hs⟩ := o_bind hs
     refine w_call fnOk14 rfl rfl (wandererref_SameRec_c _ _ h.lt y6.1 u8 u10 (h.rdS 7 rfl) (h.rdS 8 rfl) (⟨0, 0, 0, 0, [], []⟩ : Rec) (.slice none 0 0) (.slice none 0 0) Rd2.nil Rd2.nil _ e22) ?_
     rintro _ w ⟨k23, rfl⟩
     refine ⟨_, rfl, ?_⟩
     replace h := h.grow k23
     refine wl_ok (r_pick (b := true) (v := (.bool (y21))) (congrArg Value.bool c20) rfl) (wl_ok (r_assign (v := (.bool (y21))) rfl) (wl_nil (then_normal (wc_ret (then_ret (fin1 (v := (.bool (y21))) Tryd.results4 rfl ?_))))))
     obtain rfl := Option.some.inj hs
     exact ⟨h.grown, rfl⟩
    ·
     refine wl_off (b' := false) rfl (congrArg Value.bool c20) rfl (wl_off (b' := false) rfl (congrArg Value.bool c20) rfl (wl_off (b' := false) rfl (congrArg Value.bool c20) rfl (wl_ok (r_pick (b := false) (v := (.bool (false))) (congrArg Value.bool c20) rfl) (wl_ok (r_assign (v := (.bool (false))) rfl) (wl_nil (then_normal (wc_ret (then_ret (fin1 (v := (.bool (false))) Tryd.results4 rfl ?_)))))))))
     obtain rfl := Option.some.inj hs
     exact ⟨h.grown, rfl⟩
   ·
    refine wc_skip (then_normal (wc_seq (wc_region (wl_ok (r_move (v := (strV c)) rfl) ?_))))
    obtain ⟨y24, e25, hs⟩ := o_bind hs
    refine w_call fnOk15 rfl rfl (wandererref_RecRead_c _ _ h.lt (hT.go h.keep) c _ e25) ?_
    rintro _ w ⟨k30, u26, u28, rfl, g27, g29⟩
    refine ⟨_, rfl, ?_⟩
    replace h := h.gotRd 10 k30 g27
    replace h := h.knowRd 11 g29.up
    refine wl_ok (r_move (v := (.tuple #[(.agg #[(.int .i64 (y24.1.kind)), (.int .i64 (y24.1.co)), (.int .i64 (y24.1.epoch)), (.int .i64 (y24.1.place)), u26, u28]), (.int .i64 (y24.2))])) rfl) (wl_ok (r_extract rfl rfl) (wl_ok (r_extract rfl rfl) (w_allocN h 12 Many24 fun w b31 h => w_stN (vs := [(.int .i64 (y24.1.kind)), (.int .i64 (y24.1.co)), (.int .i64 (y24.1.epoch)), (.int .i64 (y24.1.place)), u26, u28]) h 12 [(.int .i64 (y24.1.kind)), (.int .i64 (y24.1.co)), (.int .i64 (y24.1.epoch)), (.int .i64 (y24.1.place)), u26, u28] rfl Many24 rfl rfl rfl rfl rfl (ones_cons rfl (ones_cons rfl (ones_cons rfl (ones_cons rfl (ones_cons (h.rdAt 10 rfl).one (ones_cons (h.rdAt 11 rfl).one ones_nil)))))) fun w h => wl_ok (r_assign (v := (.int .i64 (y24.2))) rfl) (wl_nil (then_normal (wc_seq (wc_region (wl_ok (r_move (v := (.int .i64 (y6.2))) rfl) (wl_ok (r_move (v := (.int .i64 (y24.2))) rfl) (wl_ok (r_eql rfl rfl) (wl_ok (r_move (v := (.bool (decide ((y6.2 : Int) = y24.2)))) rfl) (c_split (b := decide ((y6.2 : Int) = y24.2)) hs (fun c32 hs => ?_) (fun c32 hs => ?_)))))))))))))
    ·
     refine wl_on rfl (congrArg Value.bool c32) (wl_ok (r_ldBN (vs := [(.int .i64 (y6.1.kind)), (.int .i64 (y6.1.co)), (.int .i64 (y6.1.epoch)), (.int .i64 (y6.1.place)), u8, u10]) h 9 rfl Many24 rfl rfl rfl) (wl_on rfl (congrArg Value.bool c32) (wl_ok (r_ldBN (vs := [(.int .i64 (y24.1.kind)), (.int .i64 (y24.1.co)), (.int .i64 (y24.1.epoch)), (.int .i64 (y24.1.place)), u26, u28]) h 12 rfl Many24 rfl rfl rfl) (wl_on rfl (congrArg Value.bool c32) ?_))))
     obtain ⟨y33, e34, hs⟩ := o_bind hs
     refine w_call fnOk14 rfl rfl (wandererref_SameRec_c _ _ h.lt y6.1 u8 u10 (h.rdS 7 rfl) (h.rdS 8 rfl) y24.1 u26 u28 (h.rdS 10 rfl) (h.rdS 11 rfl) _ e34) ?_
     rintro _ w ⟨k35, rfl⟩
     refine ⟨_, rfl, ?_⟩
     replace h := h.grow k35
     refine wl_ok (r_pick (b := true) (v := (.bool (y33))) (congrArg Value.bool c32) rfl) (wl_ok (r_assign (v := (.bool (y33))) rfl) (wl_nil (then_normal (wc_ret (fin1 (v := (.bool (y33))) Tryd.results4 rfl ?_)))))
     obtain rfl := Option.some.inj hs
     exact ⟨h.grown, rfl⟩
    ·
     refine wl_off (b' := false) rfl (congrArg Value.bool c32) rfl (wl_off (b' := false) rfl (congrArg Value.bool c32) rfl (wl_off (b' := false) rfl (congrArg Value.bool c32) rfl (wl_ok (r_pick (b := false) (v := (.bool (false))) (congrArg Value.bool c32) rfl) (wl_ok (r_assign (v := (.bool (false))) rfl) (wl_nil (then_normal (wc_ret (fin1 (v := (.bool (false))) Tryd.results4 rfl ?_))))))))
     obtain rfl := Option.some.inj hs
     exact ⟨h.grown, rfl⟩
 ·
  refine wc_held mixed h fun w h => ?_
  obtain ⟨ws37, ws37e⟩ : ∃ x, x = w := ⟨_, rfl⟩
  have hg38 : Grow ws37 w := ws37e ▸ Keep.refl BE w
  refine wh_at ws37e.symm (wh_eff 0 (by kernel_rfl) rfl want_none ?_)
  obtain ⟨yq36x0_1, eq36x0_2, hs⟩ := o_bind hs
  refine w_call fnOk9 rfl rfl (wandererlaw_lined_c _ _ h.lt (hT.go h.keep)  _ eq36x0_2) ?_
  rintro _ w ⟨kq36x0_3, rfl⟩
  refine ⟨_, rfl, ?_⟩
  replace h := h.grow kq36x0_3
  replace hg38 := hg38.trans kq36x0_3
  refine wl_nil (wh_back hg38 (wh_ok 1 hg38 rfl want_none (by kernel_rfl) (by kernel_rfl) (by kernel_rfl) (fun w hk => r_notb rfl) (wh_ok 2 hg38 rfl want_none (by kernel_rfl) (by kernel_rfl) (by kernel_rfl) (fun w hk => r_move (v := (.bool ((!yq36x0_1)))) rfl) (c_split (b := (!yq36x0_1)) hs (fun c39 hs => ?_) (fun c39 hs => ?_)))))
  ·
   refine wh_skip 3 hg38 rfl (want_off (b' := true) rfl (congrArg Value.bool c39) rfl) (by kernel_rfl) (by kernel_rfl) (by kernel_rfl) (wh_skip 4 hg38 rfl (want_off (b' := true) rfl (congrArg Value.bool c39) rfl) (by kernel_rfl) (by kernel_rfl) (by kernel_rfl) (wh_skip 5 hg38 rfl (want_off (b' := true) rfl (congrArg Value.bool c39) rfl) (by kernel_rfl) (by kernel_rfl) (by kernel_rfl) (wh_skip 6 hg38 rfl (want_off (b' := true) rfl (congrArg Value.bool c39) rfl) (by kernel_rfl) (by kernel_rfl) (by kernel_rfl) (wh_ok 7 hg38 rfl want_none (by kernel_rfl) (by kernel_rfl) (by kernel_rfl) (fun w hk => r_pick (b := true) (v := (.bool (true))) (congrArg Value.bool c39) rfl) (wh_ok 8 hg38 rfl want_none (by kernel_rfl) (by kernel_rfl) (by kernel_rfl) (fun w hk => r_move (v := (.bool (true))) rfl) (wh_skip 9 hg38 rfl (want_off (b' := true) rfl rfl rfl) (by kernel_rfl) (by kernel_rfl) (by kernel_rfl) (wh_skip 10 hg38 rfl (want_off (b' := true) rfl rfl rfl) (by kernel_rfl) (by kernel_rfl) (by kernel_rfl) (wh_skip 11 hg38 rfl (want_off (b' := true) rfl rfl rfl) (by kernel_rfl) (by kernel_rfl) (by kernel_rfl) (wh_ok 12 hg38 rfl want_none (by kernel_rfl) (by kernel_rfl) (by kernel_rfl) (fun w hk => r_pick (b := true) (v := (.bool (true))) rfl rfl) (wh_ok 13 hg38 rfl want_none (by kernel_rfl) (by kernel_rfl) (by kernel_rfl) (fun w hk => r_move (v := (.bool (true))) rfl) (wh_skip 14 hg38 rfl (want_off (b' := true) rfl rfl rfl) (by kernel_rfl) (by kernel_rfl) (by kernel_rfl) (wh_skip 15 hg38 rfl (want_off (b' := true) rfl rfl rfl) (by kernel_rfl) (by kernel_rfl) (by kernel_rfl) (wh_skip 16 hg38 rfl (want_off (b' := true) rfl rfl rfl) (by kernel_rfl) (by kernel_rfl) (by kernel_rfl) (wh_ok 17 hg38 rfl want_none (by kernel_rfl) (by kernel_rfl) (by kernel_rfl) (fun w hk => r_pick (b := true) (v := (.bool (true))) rfl rfl) (wh_ok 18 hg38 rfl want_none (by kernel_rfl) (by kernel_rfl) (by kernel_rfl) (fun w hk => r_move (v := (.bool (true))) rfl) (wh_skip 19 hg38 rfl (want_off (b' := true) rfl rfl rfl) (by kernel_rfl) (by kernel_rfl) (by kernel_rfl) (wh_skip 20 hg38 rfl (want_off (b' := true) rfl rfl rfl) (by kernel_rfl) (by kernel_rfl) (by kernel_rfl) (wh_skip 21 hg38 rfl (want_off (b' := true) rfl rfl rfl) (by kernel_rfl) (by kernel_rfl) (by kernel_rfl) (wh_skip 22 hg38 rfl (want_off (b' := true) rfl rfl rfl) (by kernel_rfl) (by kernel_rfl) (by kernel_rfl) (wh_skip 23 hg38 rfl (want_off (b' := true) rfl rfl rfl) (by kernel_rfl) (by kernel_rfl) (by kernel_rfl) (wh_skip 24 hg38 rfl (want_off (b' := true) rfl rfl rfl) (by kernel_rfl) (by kernel_rfl) (by kernel_rfl) (wh_skip 25 hg38 rfl (want_off (b' := true) rfl rfl rfl) (by kernel_rfl) (by kernel_rfl) (by kernel_rfl) (wh_ok 26 hg38 rfl want_none (by kernel_rfl) (by kernel_rfl) (by kernel_rfl) (fun w hk => r_pick (b := true) (v := (.bool (true))) rfl rfl) ?_)))))))))))))))))))))))
   refine wh_done (by kernel_rfl) (then_loop ?_)
   exact jend true ⟨h.cn _, hs⟩
  ·
   refine wh_base hg38 ?_
   obtain ⟨wsq36x3_1, wsq36x3_1e⟩ : ∃ x, x = w := ⟨_, rfl⟩
   have hgq36x3_2 : Grow wsq36x3_1 w := wsq36x3_1e ▸ Keep.refl _ _
   refine wh_ok 3 (Keep.refl BE _) rfl (want_on rfl (congrArg Value.bool c39)) (by kernel_rfl) (by kernel_rfl) (by kernel_rfl) (fun w hk => have h := h.grow hk; r_ldBN (vs := [(.int .i64 (a.kind)), (.int .i64 (a.co)), (.int .i64 (a.epoch)), (.int .i64 (a.place)), va4, va5]) h 5 rfl Many24 rfl rfl rfl) (wh_ok 5 (Keep.refl BE _) rfl (want_on rfl (congrArg Value.bool c39)) (by kernel_rfl) (by kernel_rfl) (by kernel_rfl) (fun w hk => r_move (v := (.int .i64 (y14.2))) rfl) ?_)
   obtain ⟨ws40, ws40e⟩ : ∃ x, x = w := ⟨_, rfl⟩
   have hg41 : Grow ws40 w := ws40e ▸ Keep.refl BE w
   refine wh_at ws40e.symm (wh_eff 4 (by kernel_rfl) rfl (want_on rfl (congrArg Value.bool c39)) (w_call fnOk13 rfl rfl (record_Check_c _ _ h.lt a va4 va5 (h.rdS 1 rfl) (h.rdS 2 rfl) _ rfl) ?_))
   rintro _ w ⟨kq36x4_1, rfl⟩
   refine ⟨_, rfl, ?_⟩
   replace h := h.grow kq36x4_1
   replace hg41 := hg41.trans kq36x4_1
   refine wl_nil (wh_back hg41 (wh_ok 6 hg41 rfl (want_on rfl (congrArg Value.bool c39)) (by kernel_rfl) (by kernel_rfl) (by kernel_rfl) (fun w hk => r_neq rfl rfl) (wh_ok 7 hg41 rfl want_none (by kernel_rfl) (by kernel_rfl) (by kernel_rfl) (fun w hk => r_pick (b := false) (v := (.bool (decide (((record_Check a) : Int) ≠ y14.2)))) (congrArg Value.bool c39) rfl) (wh_ok 8 hg41 rfl want_none (by kernel_rfl) (by kernel_rfl) (by kernel_rfl) (fun w hk => r_move (v := (.bool (decide (((record_Check a) : Int) ≠ y14.2)))) rfl) (c_split (b := decide (((record_Check a) : Int) ≠ y14.2)) hs (fun c42 hs => ?_) (fun c42 hs => ?_))))))
   ·
    refine wh_skip 9 hg41 rfl (want_off (b' := true) rfl (congrArg Value.bool c42) rfl) (by kernel_rfl) (by kernel_rfl) (by kernel_rfl) (wh_skip 10 hg41 rfl (want_off (b' := true) rfl (congrArg Value.bool c42) rfl) (by kernel_rfl) (by kernel_rfl) (by kernel_rfl) (wh_skip 11 hg41 rfl (want_off (b' := true) rfl (congrArg Value.bool c42) rfl) (by kernel_rfl) (by kernel_rfl) (by kernel_rfl) (wh_ok 12 hg41 rfl want_none (by kernel_rfl) (by kernel_rfl) (by kernel_rfl) (fun w hk => r_pick (b := true) (v := (.bool (true))) (congrArg Value.bool c42) rfl) (wh_ok 13 hg41 rfl want_none (by kernel_rfl) (by kernel_rfl) (by kernel_rfl) (fun w hk => r_move (v := (.bool (true))) rfl) (wh_skip 14 hg41 rfl (want_off (b' := true) rfl rfl rfl) (by kernel_rfl) (by kernel_rfl) (by kernel_rfl) (wh_skip 15 hg41 rfl (want_off (b' := true) rfl rfl rfl) (by kernel_rfl) (by kernel_rfl) (by kernel_rfl) (wh_skip 16 hg41 rfl (want_off (b' := true) rfl rfl rfl) (by kernel_rfl) (by kernel_rfl) (by kernel_rfl) (wh_ok 17 hg41 rfl want_none (by kernel_rfl) (by kernel_rfl) (by kernel_rfl) (fun w hk => r_pick (b := true) (v := (.bool (true))) rfl rfl) (wh_ok 18 hg41 rfl want_none (by kernel_rfl) (by kernel_rfl) (by kernel_rfl) (fun w hk => r_move (v := (.bool (true))) rfl) (wh_skip 19 hg41 rfl (want_off (b' := true) rfl rfl rfl) (by kernel_rfl) (by kernel_rfl) (by kernel_rfl) (wh_skip 20 hg41 rfl (want_off (b' := true) rfl rfl rfl) (by kernel_rfl) (by kernel_rfl) (by kernel_rfl) (wh_skip 21 hg41 rfl (want_off (b' := true) rfl rfl rfl) (by kernel_rfl) (by kernel_rfl) (by kernel_rfl) (wh_skip 22 hg41 rfl (want_off (b' := true) rfl rfl rfl) (by kernel_rfl) (by kernel_rfl) (by kernel_rfl) (wh_skip 23 hg41 rfl (want_off (b' := true) rfl rfl rfl) (by kernel_rfl) (by kernel_rfl) (by kernel_rfl) (wh_skip 24 hg41 rfl (want_off (b' := true) rfl rfl rfl) (by kernel_rfl) (by kernel_rfl) (by kernel_rfl) (wh_skip 25 hg41 rfl (want_off (b' := true) rfl rfl rfl) (by kernel_rfl) (by kernel_rfl) (by kernel_rfl) (wh_ok 26 hg41 rfl want_none (by kernel_rfl) (by kernel_rfl) (by kernel_rfl) (fun w hk => r_pick (b := true) (v := (.bool (true))) rfl rfl) (wh_done (by kernel_rfl) (then_loop ?_)))))))))))))))))))
    exact jend true ⟨h.cn _, hs⟩
   ·
    refine wh_ok 9 hg41 rfl (want_on rfl (congrArg Value.bool c42)) (by kernel_rfl) (by kernel_rfl) (by kernel_rfl) (fun w hk => r_move (v := (.int .i64 (y3.2))) rfl) (wh_ok 10 hg41 rfl (want_on rfl (congrArg Value.bool c42)) (by kernel_rfl) (by kernel_rfl) (by kernel_rfl) (fun w hk => r_move (v := (.int .i64 (y14.2))) rfl) (wh_ok 11 hg41 rfl (want_on rfl (congrArg Value.bool c42)) (by kernel_rfl) (by kernel_rfl) (by kernel_rfl) (fun w hk => r_neq rfl rfl) (wh_ok 12 hg41 rfl want_none (by kernel_rfl) (by kernel_rfl) (by kernel_rfl) (fun w hk => r_pick (b := false) (v := (.bool (decide ((y3.2 : Int) ≠ y14.2)))) (congrArg Value.bool c42) rfl) (wh_ok 13 hg41 rfl want_none (by kernel_rfl) (by kernel_rfl) (by kernel_rfl) (fun w hk => r_move (v := (.bool (decide ((y3.2 : Int) ≠ y14.2)))) rfl) (c_split (b := decide ((y3.2 : Int) ≠ y14.2)) hs (fun c43 hs => ?_) (fun c43 hs => ?_))))))
    ·
     refine wh_skip 14 hg41 rfl (want_off (b' := true) rfl (congrArg Value.bool c43) rfl) (by kernel_rfl) (by kernel_rfl) (by kernel_rfl) (wh_skip 15 hg41 rfl (want_off (b' := true) rfl (congrArg Value.bool c43) rfl) (by kernel_rfl) (by kernel_rfl) (by kernel_rfl) (wh_skip 16 hg41 rfl (want_off (b' := true) rfl (congrArg Value.bool c43) rfl) (by kernel_rfl) (by kernel_rfl) (by kernel_rfl) (wh_ok 17 hg41 rfl want_none (by kernel_rfl) (by kernel_rfl) (by kernel_rfl) (fun w hk => r_pick (b := true) (v := (.bool (true))) (congrArg Value.bool c43) rfl) (wh_ok 18 hg41 rfl want_none (by kernel_rfl) (by kernel_rfl) (by kernel_rfl) (fun w hk => r_move (v := (.bool (true))) rfl) (wh_skip 19 hg41 rfl (want_off (b' := true) rfl rfl rfl) (by kernel_rfl) (by kernel_rfl) (by kernel_rfl) (wh_skip 20 hg41 rfl (want_off (b' := true) rfl rfl rfl) (by kernel_rfl) (by kernel_rfl) (by kernel_rfl) (wh_skip 21 hg41 rfl (want_off (b' := true) rfl rfl rfl) (by kernel_rfl) (by kernel_rfl) (by kernel_rfl) (wh_skip 22 hg41 rfl (want_off (b' := true) rfl rfl rfl) (by kernel_rfl) (by kernel_rfl) (by kernel_rfl) (wh_skip 23 hg41 rfl (want_off (b' := true) rfl rfl rfl) (by kernel_rfl) (by kernel_rfl) (by kernel_rfl) (wh_skip 24 hg41 rfl (want_off (b' := true) rfl rfl rfl) (by kernel_rfl) (by kernel_rfl) (by kernel_rfl) (wh_skip 25 hg41 rfl (want_off (b' := true) rfl rfl rfl) (by kernel_rfl) (by kernel_rfl) (by kernel_rfl) (wh_ok 26 hg41 rfl want_none (by kernel_rfl) (by kernel_rfl) (by kernel_rfl) (fun w hk => r_pick (b := true) (v := (.bool (true))) rfl rfl) (wh_done (by kernel_rfl) (then_loop ?_))))))))))))))
     exact jend true ⟨h.cn _, hs⟩
    ·
     refine wh_ok 14 hg41 rfl (want_on rfl (congrArg Value.bool c43)) (by kernel_rfl) (by kernel_rfl) (by kernel_rfl) (fun w hk => r_move (v := (strV y3.1)) rfl) (wh_ok 15 hg41 rfl (want_on rfl (congrArg Value.bool c43)) (by kernel_rfl) (by kernel_rfl) (by kernel_rfl) (fun w hk => r_move (v := (strV y14.1)) rfl) (wh_ok 16 hg41 rfl (want_on rfl (congrArg Value.bool c43)) (by kernel_rfl) (by kernel_rfl) (by kernel_rfl) (fun w hk => r_neqs rfl rfl) (wh_ok 17 hg41 rfl want_none (by kernel_rfl) (by kernel_rfl) (by kernel_rfl) (fun w hk => r_pick (b := false) (v := (.bool (decide ((y3.1 : Str) ≠ y14.1)))) (congrArg Value.bool c43) rfl) (wh_ok 18 hg41 rfl want_none (by kernel_rfl) (by kernel_rfl) (by kernel_rfl) (fun w hk => r_move (v := (.bool (decide ((y3.1 : Str) ≠ y14.1)))) rfl) (c_split (b := decide ((y3.1 : Str) ≠ y14.1)) hs (fun c44 hs => ?_) (fun c44 hs => ?_))))))
     ·
      refine wh_skip 19 hg41 rfl (want_off (b' := true) rfl (congrArg Value.bool c44) rfl) (by kernel_rfl) (by kernel_rfl) (by kernel_rfl) (wh_skip 20 hg41 rfl (want_off (b' := true) rfl (congrArg Value.bool c44) rfl) (by kernel_rfl) (by kernel_rfl) (by kernel_rfl) (wh_skip 21 hg41 rfl (want_off (b' := true) rfl (congrArg Value.bool c44) rfl) (by kernel_rfl) (by kernel_rfl) (by kernel_rfl) (wh_skip 22 hg41 rfl (want_off (b' := true) rfl (congrArg Value.bool c44) rfl) (by kernel_rfl) (by kernel_rfl) (by kernel_rfl) (wh_skip 23 hg41 rfl (want_off (b' := true) rfl (congrArg Value.bool c44) rfl) (by kernel_rfl) (by kernel_rfl) (by kernel_rfl) (wh_skip 24 hg41 rfl (want_off (b' := true) rfl (congrArg Value.bool c44) rfl) (by kernel_rfl) (by kernel_rfl) (by kernel_rfl) (wh_skip 25 hg41 rfl (want_off (b' := true) rfl (congrArg Value.bool c44) rfl) (by kernel_rfl) (by kernel_rfl) (by kernel_rfl) (wh_ok 26 hg41 rfl want_none (by kernel_rfl) (by kernel_rfl) (by kernel_rfl) (fun w hk => r_pick (b := true) (v := (.bool (true))) (congrArg Value.bool c44) rfl) (wh_done (by kernel_rfl) (then_loop ?_)))))))))
      exact jend true ⟨h.cn _, hs⟩
     ·
      refine wh_base hg41 ?_
      obtain ⟨wsq36x19_1, wsq36x19_1e⟩ : ∃ x, x = w := ⟨_, rfl⟩
      have hgq36x19_2 : Grow wsq36x19_1 w := wsq36x19_1e ▸ Keep.refl _ _
      refine wh_ok 19 (Keep.refl BE _) rfl (want_on rfl (congrArg Value.bool c44)) (by kernel_rfl) (by kernel_rfl) (by kernel_rfl) (fun w hk => have h := h.grow hk; r_ldBN (vs := [(.int .i64 (a.kind)), (.int .i64 (a.co)), (.int .i64 (a.epoch)), (.int .i64 (a.place)), va4, va5]) h 5 rfl Many24 rfl rfl rfl) (wh_ok 20 (Keep.refl BE _) rfl (want_on rfl (congrArg Value.bool c44)) (by kernel_rfl) (by kernel_rfl) (by kernel_rfl) (fun w hk => have h := h.grow hk; r_ldBN (vs := [(.int .i64 (b.kind)), (.int .i64 (b.co)), (.int .i64 (b.epoch)), (.int .i64 (b.place)), vb4, vb5]) h 6 rfl Many24 rfl rfl rfl) (wh_ok 22 (Keep.refl BE _) rfl (want_on rfl (congrArg Value.bool c44)) (by kernel_rfl) (by kernel_rfl) (by kernel_rfl) (fun w hk => have h := h.grow hk; r_ldBN (vs := [(.int .i64 (a.kind)), (.int .i64 (a.co)), (.int .i64 (a.epoch)), (.int .i64 (a.place)), va4, va5]) h 5 rfl Many24 rfl rfl rfl) (wh_ok 23 (Keep.refl BE _) rfl (want_on rfl (congrArg Value.bool c44)) (by kernel_rfl) (by kernel_rfl) (by kernel_rfl) (fun w hk => have h := h.grow hk; r_ldBN (vs := [(.int .i64 (b.kind)), (.int .i64 (b.co)), (.int .i64 (b.epoch)), (.int .i64 (b.place)), vb4, vb5]) h 6 rfl Many24 rfl rfl rfl) ?_)))
      obtain ⟨ws45, ws45e⟩ : ∃ x, x = w := ⟨_, rfl⟩
      have hg46 : Grow ws45 w := ws45e ▸ Keep.refl BE w
      refine wh_at ws45e.symm (wh_eff 21 (by kernel_rfl) rfl (want_on rfl (congrArg Value.bool c44)) ?_)
      obtain ⟨yq36x21_1, eq36x21_2, hs⟩ := o_bind hs
      refine w_call fnOk10 rfl rfl (record_Same_c _ _ h.lt a va4 va5 (h.rdS 1 rfl) (h.rdS 2 rfl) b vb4 vb5 (h.srS 3 rfl) (h.srS 4 rfl) _ eq36x21_2) ?_
      rintro _ w ⟨kq36x21_3, rfl⟩
      refine ⟨_, rfl, ?_⟩
      replace h := h.grow kq36x21_3
      replace hg46 := hg46.trans kq36x21_3
      refine wl_nil (wh_back hg46 (wh_eff 24 (by kernel_rfl) rfl (want_on rfl (congrArg Value.bool c44)) ?_))
      obtain ⟨yq36x24_1, eq36x24_2, hs⟩ := o_bind hs
      refine w_call fnOk14 rfl rfl (wandererref_SameRec_c _ _ h.lt a va4 va5 (h.rdS 1 rfl) (h.rdS 2 rfl) b vb4 vb5 (h.srS 3 rfl) (h.srS 4 rfl) _ eq36x24_2) ?_
      rintro _ w ⟨kq36x24_3, rfl⟩
      refine ⟨_, rfl, ?_⟩
      replace h := h.grow kq36x24_3
      replace hg46 := hg46.trans kq36x24_3
      refine wl_nil (wh_back hg46 (wh_ok 25 hg46 rfl (want_on rfl (congrArg Value.bool c44)) (by kernel_rfl) (by kernel_rfl) (by kernel_rfl) (fun w hk => r_neqb Tryd.underlying4 rfl rfl) (wh_ok 26 hg46 rfl want_none (by kernel_rfl) (by kernel_rfl) (by kernel_rfl) (fun w hk => r_pick (b := false) (v := (.bool ((yq36x21_1 != yq36x24_1)))) (congrArg Value.bool c44) rfl) (wh_done (by kernel_rfl) (then_loop ?_)))))
      exact jend (yq36x21_1 != yq36x24_1) ⟨h.cn _, hs⟩
def wandererlaw_RecordBack_j4 (c : Str) : Option Bool :=
  (record_Parse c).bind fun y11 => bif decide ((y11.2 : Int) ≠ 0) then some true else (record_Print y11.1).bind fun y20 => some (decide ((y20.2 : Int) = 0) && decide ((y20.1 : Str) = c))
def wandererlaw_RecordBack_j5 (c : Str) (x32 : Bool) : Option Bool :=
  bif x32 then some false else wandererlaw_RecordBack_j4 c
def wandererlaw_RecordBack_j2 (y3 : Str × Int) (c : Str) (a : Rec) (x9 : Bool) : Option Bool :=
  bif x9 then some false else bif (decide ((y3.2 : Int) = 0) && decide (((y3.1.length : Int) : Int) ≤ 60000)) then (record_Parse y3.1).bind fun y24 => bif decide ((y24.2 : Int) ≠ 0) then wandererlaw_RecordBack_j5 c true else (record_Same y24.1 a).bind fun y35 => wandererlaw_RecordBack_j5 c (!y35) else wandererlaw_RecordBack_j4 c
def wandererlaw_RecordBack (a : Rec) (b : Rec) (c : Str) : Option Bool :=
  (record_Print a).bind fun y3 => (record_Print b).bind fun y6 => (wandererlaw_lined).bind fun y38 => bif (!y38) then wandererlaw_RecordBack_j2 y3 c a true else bif (decide ((y3.2 : Int) = 0) && decide ((y6.2 : Int) = 0)) then (record_Same a b).bind fun y43 => wandererlaw_RecordBack_j2 y3 c a (decide ((y3.1 : Str) = y6.1) != y43) else wandererlaw_RecordBack_j2 y3 c a false
theorem wandererlaw_RecordBack_c (w0 : World) (M : BS) (hM : ∀ b, M b → b < w0.heap.size) (hT : Tabs Tryd.prog 3 w0) (a : Rec) (va4 va5 : Value) (ha4 : RdSl rInt w0 M va4 a.says) (ha5 : RdSl rInt w0 M va5 a.image) (b : Rec) (vb4 vb5 : Value) (hb4 : RdSl rInt w0 M vb4 b.says) (hb5 : RdSl rInt w0 M vb5 b.image) (c : Str) (r : Bool) (hs : wandererlaw_RecordBack a b c = some r) :
    Calls Tryd.prog 3 #[(.agg #[(.int .i64 (a.kind)), (.int .i64 (a.co)), (.int .i64 (a.epoch)), (.int .i64 (a.place)), va4, va5]), (.agg #[(.int .i64 (b.kind)), (.int .i64 (b.co)), (.int .i64 (b.epoch)), (.int .i64 (b.place)), vb4, vb5]), (strV c)] w0 (fun e w' => Grow w0 w' ∧ e = .returned (.bool r)) := by
 refine calls_start (args := [(.agg #[(.int .i64 (a.kind)), (.int .i64 (a.co)), (.int .i64 (a.epoch)), (.int .i64 (a.place)), va4, va5]), (.agg #[(.int .i64 (b.kind)), (.int .i64 (b.co)), (.int .i64 (b.epoch)), (.int .i64 (b.place)), vb4, vb5]), (strV c)]) Tryd.func3 rfl Tryd.ntmps3 (Nat.le_of_ble_eq_true rfl) ?_
 have h := SH.init hM
 replace h := h.argRd 1 ha4 none_own
 replace h := h.argRd 2 ha5 (hupd_own_rd none_own)
 replace h := h.argRd 3 hb4 (hupd_own_rd (hupd_own_rd none_own))
 replace h := h.argRd 4 hb5 (hupd_own_rd (hupd_own_rd (hupd_own_rd none_own)))
 refine wc_seq (wc_region (w_box (cs := [(.int .i64 (a.kind)), (.int .i64 (a.co)), (.int .i64 (a.epoch)), (.int .i64 (a.place)), va4, va5]) h 5 rfl rfl fun w b1 h => w_box (cs := [(.int .i64 (b.kind)), (.int .i64 (b.co)), (.int .i64 (b.epoch)), (.int .i64 (b.place)), vb4, vb5]) h 6 rfl rfl fun w b2 h => wl_ok (r_assign (v := (.bool (false))) rfl) (wl_nil (then_normal (wc_seq (wc_region (wl_ok (r_ldBN (vs := [(.int .i64 (a.kind)), (.int .i64 (a.co)), (.int .i64 (a.epoch)), (.int .i64 (a.place)), va4, va5]) h 5 rfl Many24 rfl rfl rfl) ?_)))))))
 obtain ⟨y3, e4, hs⟩ := o_bind hs
 refine w_call fnOk8 rfl rfl (record_Print_c _ _ h.lt (hT.go h.keep) a va4 va5 (h.rdAt 1 rfl) (h.rdAt 2 rfl) _ e4) ?_
 rintro _ w ⟨k5, rfl⟩
 refine ⟨_, rfl, ?_⟩
 replace h := h.grow k5
 refine wl_ok (r_move (v := (.tuple #[(strV y3.1), (.int .i64 (y3.2))])) rfl) (wl_ok (r_extract rfl rfl) (wl_ok (r_extract rfl rfl) (wl_ok (r_assign (v := (strV y3.1)) rfl) (wl_ok (r_assign (v := (.int .i64 (y3.2))) rfl) (wl_nil (then_normal (wc_seq (wc_region (wl_ok (r_ldBN (vs := [(.int .i64 (b.kind)), (.int .i64 (b.co)), (.int .i64 (b.epoch)), (.int .i64 (b.place)), vb4, vb5]) h 6 rfl Many24 rfl rfl rfl) ?_)))))))))
 obtain ⟨y6, e7, hs⟩ := o_bind hs
 refine w_call fnOk8 rfl rfl (record_Print_c _ _ h.lt (hT.go h.keep) b vb4 vb5 (h.rdAt 3 rfl) (h.rdAt 4 rfl) _ e7) ?_
 rintro _ w ⟨k8, rfl⟩
 refine ⟨_, rfl, ?_⟩
 replace h := h.grow k8
 refine wl_ok (r_move (v := (.tuple #[(strV y6.1), (.int .i64 (y6.2))])) rfl) (wl_ok (r_extract rfl rfl) (wl_ok (r_extract rfl rfl) (wl_ok (r_assign (v := (strV y6.1)) rfl) (wl_ok (r_assign (v := (.int .i64 (y6.2))) rfl) (wl_nil (then_normal (wc_seq (wc_join (σ := Bool) (inl [26, 27, 28, 29, 30, 31, 32, 33, 34, 35, 36, 37, 38, 39, 40, 41, 42, 43, 44]) (fun x9 => [(44, (.bool (x9)))]) (fun x9 w => SH w0 M BE w (hset [(1, .rd rInt va4 a.says), (2, .rd rInt va5 a.image), (5, .blk b1 [(.int .i64 (a.kind)), (.int .i64 (a.co)), (.int .i64 (a.epoch)), (.int .i64 (a.place)), va4, va5])]) ∧ wandererlaw_RecordBack_j2 y3 c a x9 = some r) ?_ ?_))))))))
 ·
  rintro x9 w junk ⟨h, hs⟩
  refine wc_ifb hs rfl (fun c10 hs => ?_) (fun c10 hs => ?_)
  ·
   refine wc_seq (wc_region (wl_ok (r_assign (v := (.bool (false))) rfl) (wl_nil (then_normal (wc_ret (then_ret (fin1 (v := (.bool (false))) Tryd.results3 rfl ?_)))))))
   obtain rfl := Option.some.inj hs
   exact ⟨h.grown, rfl⟩
  ·
   refine wc_skip (then_normal (wc_join (σ := Unit) (inl [6, 11, 12, 45, 46, 47, 48, 49, 50, 51, 52, 53, 54, 55, 56, 57, 58, 59, 60, 61, 62, 63, 64]) (fun _ => []) (fun _ w => SH w0 M BE w (hset []) ∧ wandererlaw_RecordBack_j4 c = some r) ?_ ?_))
   ·
    rintro ⟨⟩ w junk ⟨h, hs⟩
    refine wc_seq (wc_region (wl_ok (r_move (v := (strV c)) rfl) ?_))
    obtain ⟨y11, e12, hs⟩ := o_bind hs
    refine w_call fnOk11 rfl rfl (record_Parse_c _ _ h.lt (hT.go h.keep) c _ e12) ?_
    rintro _ w ⟨k17, u13, u15, rfl, g14, g16⟩
    refine ⟨_, rfl, ?_⟩
    replace h := h.gotRd 7 k17 g14
    replace h := h.knowRd 8 g16.up
    refine wl_ok (r_move (v := (.tuple #[(.agg #[(.int .i64 (y11.1.kind)), (.int .i64 (y11.1.co)), (.int .i64 (y11.1.epoch)), (.int .i64 (y11.1.place)), u13, u15]), (.int .i64 (y11.2))])) rfl) (wl_ok (r_extract rfl rfl) (wl_ok (r_extract rfl rfl) (w_allocN h 9 Many24 fun w b18 h => w_stN (vs := [(.int .i64 (y11.1.kind)), (.int .i64 (y11.1.co)), (.int .i64 (y11.1.epoch)), (.int .i64 (y11.1.place)), u13, u15]) h 9 [(.int .i64 (y11.1.kind)), (.int .i64 (y11.1.co)), (.int .i64 (y11.1.epoch)), (.int .i64 (y11.1.place)), u13, u15] rfl Many24 rfl rfl rfl rfl rfl (ones_cons rfl (ones_cons rfl (ones_cons rfl (ones_cons rfl (ones_cons (h.rdAt 7 rfl).one (ones_cons (h.rdAt 8 rfl).one ones_nil)))))) fun w h => wl_ok (r_assign (v := (.int .i64 (y11.2))) rfl) (wl_nil (then_normal (wc_seq (wc_seq (wc_region (wl_ok (r_move (v := (.int .i64 (y11.2))) rfl) (wl_ok (r_neq rfl rfl) (wl_nil (then_normal (wc_ifb hs rfl (fun c19 hs => ?_) (fun c19 hs => ?_))))))))))))))
    ·
     refine wc_seq (wc_region (wl_ok (r_assign (v := (.bool (true))) rfl) (wl_nil (then_normal (wc_ret (then_ret (fin1 (v := (.bool (true))) Tryd.results3 rfl ?_)))))))
     obtain rfl := Option.some.inj hs
     exact ⟨h.grown, rfl⟩
    ·
     refine wc_skip (then_normal (wc_seq (wc_region (wl_ok (r_ldBN (vs := [(.int .i64 (y11.1.kind)), (.int .i64 (y11.1.co)), (.int .i64 (y11.1.epoch)), (.int .i64 (y11.1.place)), u13, u15]) h 9 rfl Many24 rfl rfl rfl) ?_))))
     obtain ⟨y20, e21, hs⟩ := o_bind hs
     refine w_call fnOk8 rfl rfl (record_Print_c _ _ h.lt (hT.go h.keep) y11.1 u13 u15 (h.rdAt 7 rfl) (h.rdAt 8 rfl) _ e21) ?_
     rintro _ w ⟨k22, rfl⟩
     refine ⟨_, rfl, ?_⟩
     replace h := h.grow k22
     refine wl_ok (r_move (v := (.tuple #[(strV y20.1), (.int .i64 (y20.2))])) rfl) (wl_ok (r_extract rfl rfl) (wl_ok (r_extract rfl rfl) (wl_ok (r_assign (v := (strV y20.1)) rfl) (wl_ok (r_assign (v := (.int .i64 (y20.2))) rfl) (wl_nil (then_normal (wc_seq (wc_region (wl_ok (r_move (v := (.int .i64 (y20.2))) rfl) (wl_ok (r_eql rfl rfl) (wl_ok (r_move (v := (.bool (decide ((y20.2 : Int) = 0)))) rfl) (wl_gd0 rfl rfl (fun q => r_move (v := (strV y20.1)) rfl) (wl_gd0 rfl rfl (fun q => r_move (v := (strV c)) rfl) (wl_gd0 rfl rfl (fun q => r_eqls (gvt q) (gvt q)) (wl_ok (r_pand rfl rfl evc) (wl_ok (r_assign (v := (.bool ((decide ((y20.2 : Int) = 0) && decide ((y20.1 : Str) = c))))) rfl) (wl_nil (then_normal (wc_ret (fin1 (v := (.bool ((decide ((y20.2 : Int) = 0) && decide ((y20.1 : Str) = c))))) Tryd.results3 rfl ?_))))))))))))))))))))
     obtain rfl := Option.some.inj hs
     exact ⟨h.grown, rfl⟩
   ·
    refine wc_seq (wc_region (wl_ok (r_move (v := (.int .i64 (y3.2))) rfl) (wl_ok (r_eql rfl rfl) (wl_ok (r_move (v := (.bool (decide ((y3.2 : Int) = 0)))) rfl) (wl_gd0 rfl rfl (fun q => r_move (v := (strV y3.1)) rfl) (wl_gd0 rfl rfl (fun q => r_lenS Tryd.underlying9 (gvt q)) (wl_gd0 rfl rfl (fun q => r_leq (gvt q) rfl) (wl_ok (r_pand rfl rfl evc) (wl_nil (then_normal (wc_ifb hs rfl (fun c23 hs => ?_) (fun c23 hs => ?_))))))))))))
    ·
     refine wc_seq (wc_region (wl_ok (r_move (v := (strV y3.1)) rfl) ?_))
     obtain ⟨y24, e25, hs⟩ := o_bind hs
     refine w_call fnOk11 rfl rfl (record_Parse_c _ _ h.lt (hT.go h.keep) y3.1 _ e25) ?_
     rintro _ w ⟨k30, u26, u28, rfl, g27, g29⟩
     refine ⟨_, rfl, ?_⟩
     replace h := h.gotRd 10 k30 g27
     replace h := h.knowRd 11 g29.up
     refine wl_ok (r_move (v := (.tuple #[(.agg #[(.int .i64 (y24.1.kind)), (.int .i64 (y24.1.co)), (.int .i64 (y24.1.epoch)), (.int .i64 (y24.1.place)), u26, u28]), (.int .i64 (y24.2))])) rfl) (wl_ok (r_extract rfl rfl) (wl_ok (r_extract rfl rfl) (w_allocN h 12 Many24 fun w b31 h => w_stN (vs := [(.int .i64 (y24.1.kind)), (.int .i64 (y24.1.co)), (.int .i64 (y24.1.epoch)), (.int .i64 (y24.1.place)), u26, u28]) h 12 [(.int .i64 (y24.1.kind)), (.int .i64 (y24.1.co)), (.int .i64 (y24.1.epoch)), (.int .i64 (y24.1.place)), u26, u28] rfl Many24 rfl rfl rfl rfl rfl (ones_cons rfl (ones_cons rfl (ones_cons rfl (ones_cons rfl (ones_cons (h.rdAt 10 rfl).one (ones_cons (h.rdAt 11 rfl).one ones_nil)))))) fun w h => wl_ok (r_assign (v := (.int .i64 (y24.2))) rfl) (wl_nil (then_normal (wc_join (σ := Bool) (inl [57, 58, 59, 60, 61, 62, 63, 64]) (fun x32 => [(64, (.bool (x32)))]) (fun x32 w => SH w0 M BE w (hset []) ∧ wandererlaw_RecordBack_j5 c x32 = some r) ?_ ?_))))))
     ·
      rintro x32 w junk ⟨h, hs⟩
      refine wc_ifb hs rfl (fun c33 hs => ?_) (fun c33 hs => ?_)
      ·
       refine wc_seq (wc_region (wl_ok (r_assign (v := (.bool (false))) rfl) (wl_nil (then_normal (wc_ret (then_ret (fin1 (v := (.bool (false))) Tryd.results3 rfl ?_)))))))
       obtain rfl := Option.some.inj hs
       exact ⟨h.grown, rfl⟩
      ·
       refine wc_skip (then_loop ?_)
       exact jend () ⟨h.cn _, hs⟩
     ·
      refine wc_region (wl_ok (r_move (v := (.int .i64 (y24.2))) rfl) (wl_ok (r_neq rfl rfl) (wl_ok (r_move (v := (.bool (decide ((y24.2 : Int) ≠ 0)))) rfl) (c_split (b := decide ((y24.2 : Int) ≠ 0)) hs (fun c34 hs => ?_) (fun c34 hs => ?_)))))
      ·
       refine wl_off (b' := true) rfl (congrArg Value.bool c34) rfl (wl_off (b' := true) rfl (congrArg Value.bool c34) rfl (wl_off (b' := true) rfl (congrArg Value.bool c34) rfl (wl_off (b' := true) rfl (congrArg Value.bool c34) rfl (wl_ok (r_pick (b := true) (v := (.bool (true))) (congrArg Value.bool c34) rfl) (wl_nil (then_loop ?_))))))
       exact jend true ⟨h.cn _, hs⟩
      ·
       refine wl_on rfl (congrArg Value.bool c34) (wl_ok (r_ldBN (vs := [(.int .i64 (y24.1.kind)), (.int .i64 (y24.1.co)), (.int .i64 (y24.1.epoch)), (.int .i64 (y24.1.place)), u26, u28]) h 12 rfl Many24 rfl rfl rfl) (wl_on rfl (congrArg Value.bool c34) (wl_ok (r_ldBN (vs := [(.int .i64 (a.kind)), (.int .i64 (a.co)), (.int .i64 (a.epoch)), (.int .i64 (a.place)), va4, va5]) h 5 rfl Many24 rfl rfl rfl) (wl_on rfl (congrArg Value.bool c34) ?_))))
       obtain ⟨y35, e36, hs⟩ := o_bind hs
       refine w_call fnOk10 rfl rfl (record_Same_c _ _ h.lt y24.1 u26 u28 (h.rdS 10 rfl) (h.rdS 11 rfl) a va4 va5 (h.rdS 1 rfl) (h.rdS 2 rfl) _ e36) ?_
       rintro _ w ⟨k37, rfl⟩
       refine ⟨_, rfl, ?_⟩
       replace h := h.grow k37
       refine wl_on rfl (congrArg Value.bool c34) (wl_ok (r_notb rfl) (wl_ok (r_pick (b := false) (v := (.bool ((!y35)))) (congrArg Value.bool c34) rfl) (wl_nil (then_loop ?_))))
       exact jend (!y35) ⟨h.cn _, hs⟩
    ·
     refine wc_skip (then_loop ?_)
     exact jend () ⟨h.cn _, hs⟩
 ·
  refine wc_region ?_
  obtain ⟨y38, e39, hs⟩ := o_bind hs
  refine w_call fnOk9 rfl rfl (wandererlaw_lined_c _ _ h.lt (hT.go h.keep)  _ e39) ?_
  rintro _ w ⟨k40, rfl⟩
  refine ⟨_, rfl, ?_⟩
  replace h := h.grow k40
  refine wl_ok (r_notb rfl) (wl_ok (r_move (v := (.bool ((!y38)))) rfl) (c_split (b := (!y38)) hs (fun c41 hs => ?_) (fun c41 hs => ?_)))
  ·
   refine wl_off (b' := true) rfl (congrArg Value.bool c41) rfl (wl_off (b' := true) rfl (congrArg Value.bool c41) rfl (wl_off (b' := true) rfl (congrArg Value.bool c41) rfl (wl_offU rfl rfl (wl_offU rfl rfl (wl_off (b' := true) rfl (congrArg Value.bool c41) rfl (wl_off (b' := true) rfl (congrArg Value.bool c41) rfl (wl_offU rfl rfl (wl_offU rfl rfl (wl_offU rfl rfl (wl_offU rfl rfl (wl_offU rfl rfl (wl_offU rfl rfl (wl_offU rfl rfl (wl_off (b' := true) rfl (congrArg Value.bool c41) rfl (wl_ok (r_pick (b := true) (v := (.bool (true))) (congrArg Value.bool c41) rfl) (wl_nil (then_loop ?_)))))))))))))))))
   exact jend true ⟨h.cn _, hs⟩
  ·
   refine wl_on rfl (congrArg Value.bool c41) (wl_ok (r_move (v := (.int .i64 (y3.2))) rfl) (wl_on rfl (congrArg Value.bool c41) (wl_ok (r_eql rfl rfl) (wl_on rfl (congrArg Value.bool c41) (wl_ok (r_move (v := (.bool (decide ((y3.2 : Int) = 0)))) rfl) (wl_gd0 rfl rfl (fun q => r_move (v := (.int .i64 (y6.2))) rfl) (wl_gd0 rfl rfl (fun q => r_eql (gvt q) rfl) (wl_on rfl (congrArg Value.bool c41) (wl_ok (r_pand rfl rfl evc) (wl_on rfl (congrArg Value.bool c41) (wl_ok (r_move (v := (.bool ((decide ((y3.2 : Int) = 0) && decide ((y6.2 : Int) = 0))))) rfl) (c_split (b := (decide ((y3.2 : Int) = 0) && decide ((y6.2 : Int) = 0))) hs (fun c42 hs => ?_) (fun c42 hs => ?_)))))))))))))
   ·
    refine wl_on rfl (congrArg Value.bool c42) (wl_ok (r_move (v := (strV y3.1)) rfl) (wl_on rfl (congrArg Value.bool c42) (wl_ok (r_move (v := (strV y6.1)) rfl) (wl_on rfl (congrArg Value.bool c42) (wl_ok (r_eqls rfl rfl) (wl_on rfl (congrArg Value.bool c42) (wl_ok (r_ldBN (vs := [(.int .i64 (a.kind)), (.int .i64 (a.co)), (.int .i64 (a.epoch)), (.int .i64 (a.place)), va4, va5]) h 5 rfl Many24 rfl rfl rfl) (wl_on rfl (congrArg Value.bool c42) (wl_ok (r_ldBN (vs := [(.int .i64 (b.kind)), (.int .i64 (b.co)), (.int .i64 (b.epoch)), (.int .i64 (b.place)), vb4, vb5]) h 6 rfl Many24 rfl rfl rfl) (wl_on rfl (congrArg Value.bool c42) ?_))))))))))
    obtain ⟨y43, e44, hs⟩ := o_bind hs
    refine w_call fnOk10 rfl rfl (record_Same_c _ _ h.lt a va4 va5 (h.rdS 1 rfl) (h.rdS 2 rfl) b vb4 vb5 (h.rdS 3 rfl) (h.rdS 4 rfl) _ e44) ?_
    rintro _ w ⟨k45, rfl⟩
    refine ⟨_, rfl, ?_⟩
    replace h := h.grow k45
    refine wl_on rfl (congrArg Value.bool c42) (wl_ok (r_neqb Tryd.underlying4 rfl rfl) (wl_on rfl (congrArg Value.bool c41) (wl_ok (r_pick (b := true) (v := (.bool ((decide ((y3.1 : Str) = y6.1) != y43)))) (congrArg Value.bool c42) rfl) (wl_ok (r_pick (b := false) (v := (.bool ((decide ((y3.1 : Str) = y6.1) != y43)))) (congrArg Value.bool c41) rfl) (wl_nil (then_loop ?_))))))
    exact jend (decide ((y3.1 : Str) = y6.1) != y43) ⟨h.cn _, hs⟩
   ·
    refine wl_off (b' := false) rfl (congrArg Value.bool c42) rfl (wl_off (b' := false) rfl (congrArg Value.bool c42) rfl (wl_off (b' := false) rfl (congrArg Value.bool c42) rfl (wl_off (b' := false) rfl (congrArg Value.bool c42) rfl (wl_off (b' := false) rfl (congrArg Value.bool c42) rfl (wl_off (b' := false) rfl (congrArg Value.bool c42) rfl (wl_off (b' := false) rfl (congrArg Value.bool c42) rfl (wl_on rfl (congrArg Value.bool c41) (wl_ok (r_pick (b := false) (v := (.bool (false))) (congrArg Value.bool c42) rfl) (wl_ok (r_pick (b := false) (v := (.bool (false))) (congrArg Value.bool c41) rfl) (wl_nil (then_loop ?_)))))))))))
    exact jend false ⟨h.cn _, hs⟩
end Go.Proofs.YthlibjllfckhjaaDoor
