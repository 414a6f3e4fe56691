/-
  Functions of the program, each as plain Lean, and that the code does just that.
-/
import Derived.Test.YtckocfgmnlhcmaaDoorProg
import Derived.Test.YtckocfgmnlhcmaaDoorLiftD
import Derived.Test.YtckocfgmnlhcmaaDoorImgShelf
set_option linter.unusedSimpArgs false
set_option linter.unusedVariables false
set_option maxRecDepth 10000
namespace Go.Proofs.YtckocfgmnlhcmaaDoor
open Go Go.Proofs Go.LX
theorem ElemOf22 : ElemOf Tryd.prog 22 52 3 40 := ⟨Tryd.underlying22, elem_of (z := (.agg #[(.int .i64 (0)), (.int .i64 (0)), (.slice none 0 0)])) (by kernel_rfl) rfl⟩
theorem ElemOf43 : ElemOf Tryd.prog 43 3 1 8 := ⟨Tryd.underlying43, elem_of (z := (.int .i64 (0))) (by kernel_rfl) rfl⟩
theorem ElemOf50 : ElemOf Tryd.prog 50 54 5 56 := ⟨Tryd.underlying50, elem_of (z := (.agg #[(.int .i64 (0)), (.int .i64 (0)), (.int .i64 (0)), (.int .i64 (0)), (.slice none 0 0)])) (by kernel_rfl) rfl⟩
theorem ElemOf68 : ElemOf Tryd.prog 68 9 1 16 := ⟨Tryd.underlying68, elem_of (z := (strV [])) (by kernel_rfl) rfl⟩
theorem ElemOf96 : ElemOf Tryd.prog 96 43 1 24 := ⟨Tryd.underlying96, elem_of (z := (.slice none 0 0)) (by kernel_rfl) rfl⟩
theorem Fld52x0 : FieldAt Tryd.prog 52 0 0 := ⟨_, _, 0, Tryd.underlying52, rfl, rfl, by kernel_rfl⟩
theorem Fld52x1 : FieldAt Tryd.prog 52 1 1 := ⟨_, _, 0, Tryd.underlying52, rfl, rfl, by kernel_rfl⟩
theorem Fld52x2 : FieldAt Tryd.prog 52 2 2 := ⟨_, _, 0, Tryd.underlying52, rfl, rfl, by kernel_rfl⟩
theorem Fld54x0 : FieldAt Tryd.prog 54 0 0 := ⟨_, _, 0, Tryd.underlying54, rfl, rfl, by kernel_rfl⟩
theorem Fld54x1 : FieldAt Tryd.prog 54 1 1 := ⟨_, _, 0, Tryd.underlying54, rfl, rfl, by kernel_rfl⟩
theorem Fld54x2 : FieldAt Tryd.prog 54 2 2 := ⟨_, _, 0, Tryd.underlying54, rfl, rfl, by kernel_rfl⟩
theorem Fld54x3 : FieldAt Tryd.prog 54 3 3 := ⟨_, _, 0, Tryd.underlying54, rfl, rfl, by kernel_rfl⟩
theorem Fld54x4 : FieldAt Tryd.prog 54 4 4 := ⟨_, _, 0, Tryd.underlying54, rfl, rfl, by kernel_rfl⟩
theorem fnOk10 : FnOk Tryd.prog 10 := ⟨_, Tryd.func10, by kernel_rfl, rfl⟩
theorem fnOk11 : FnOk Tryd.prog 11 := ⟨_, Tryd.func11, by kernel_rfl, rfl⟩
theorem fnOk12 : FnOk Tryd.prog 12 := ⟨_, Tryd.func12, by kernel_rfl, rfl⟩
theorem fnOk13 : FnOk Tryd.prog 13 := ⟨_, Tryd.func13, by kernel_rfl, rfl⟩
theorem fnOk18 : FnOk Tryd.prog 18 := ⟨_, Tryd.func18, by kernel_rfl, rfl⟩
theorem fnOk19 : FnOk Tryd.prog 19 := ⟨_, Tryd.func19, by kernel_rfl, rfl⟩
theorem fnOk20 : FnOk Tryd.prog 20 := ⟨_, Tryd.func20, by kernel_rfl, rfl⟩
theorem fnOk21 : FnOk Tryd.prog 21 := ⟨_, Tryd.func21, by kernel_rfl, rfl⟩
theorem fnOk22 : FnOk Tryd.prog 22 := ⟨_, Tryd.func22, by kernel_rfl, rfl⟩
theorem fnOk23 : FnOk Tryd.prog 23 := ⟨_, Tryd.func23, by kernel_rfl, rfl⟩
theorem fnOk24 : FnOk Tryd.prog 24 := ⟨_, Tryd.func24, by kernel_rfl, rfl⟩
theorem fnOk25 : FnOk Tryd.prog 25 := ⟨_, Tryd.func25, by kernel_rfl, rfl⟩
theorem fnOk26 : FnOk Tryd.prog 26 := ⟨_, Tryd.func26, by kernel_rfl, rfl⟩
theorem fnOk27 : FnOk Tryd.prog 27 := ⟨_, Tryd.func27, by kernel_rfl, rfl⟩
theorem fnOk28 : FnOk Tryd.prog 28 := ⟨_, Tryd.func28, by kernel_rfl, rfl⟩
theorem fnOk29 : FnOk Tryd.prog 29 := ⟨_, Tryd.func29, by kernel_rfl, rfl⟩
theorem fnOk30 : FnOk Tryd.prog 30 := ⟨_, Tryd.func30, by kernel_rfl, rfl⟩
theorem fnOk31 : FnOk Tryd.prog 31 := ⟨_, Tryd.func31, by kernel_rfl, rfl⟩
theorem fnOk32 : FnOk Tryd.prog 32 := ⟨_, Tryd.func32, by kernel_rfl, rfl⟩
theorem fnOk33 : FnOk Tryd.prog 33 := ⟨_, Tryd.func33, by kernel_rfl, rfl⟩
theorem fnOk34 : FnOk Tryd.prog 34 := ⟨_, Tryd.func34, by kernel_rfl, rfl⟩
theorem fnOk35 : FnOk Tryd.prog 35 := ⟨_, Tryd.func35, by kernel_rfl, rfl⟩
theorem fnOk36 : FnOk Tryd.prog 36 := ⟨_, Tryd.func36, by kernel_rfl, rfl⟩
theorem fnOk37 : FnOk Tryd.prog 37 := ⟨_, Tryd.func37, by kernel_rfl, rfl⟩
theorem fnOk38 : FnOk Tryd.prog 38 := ⟨_, Tryd.func38, by kernel_rfl, rfl⟩
theorem fnOk48 : FnOk Tryd.prog 48 := ⟨_, Tryd.func48, by kernel_rfl, rfl⟩
theorem fnOk52 : FnOk Tryd.prog 52 := ⟨_, Tryd.func52, by kernel_rfl, rfl⟩
theorem fnOk53 : FnOk Tryd.prog 53 := ⟨_, Tryd.func53, by kernel_rfl, rfl⟩
theorem fnOk54 : FnOk Tryd.prog 54 := ⟨_, Tryd.func54, by kernel_rfl, rfl⟩
theorem fnOk56 : FnOk Tryd.prog 56 := ⟨_, Tryd.func56, by kernel_rfl, rfl⟩
theorem fnOk58 : FnOk Tryd.prog 58 := ⟨_, Tryd.func58, by kernel_rfl, rfl⟩
theorem fnOk59 : FnOk Tryd.prog 59 := ⟨_, Tryd.func59, by kernel_rfl, rfl⟩
theorem fnOk6 : FnOk Tryd.prog 6 := ⟨_, Tryd.func6, by kernel_rfl, rfl⟩
theorem fnOk68 : FnOk Tryd.prog 68 := ⟨_, Tryd.func68, by kernel_rfl, rfl⟩
theorem fnOk69 : FnOk Tryd.prog 69 := ⟨_, Tryd.func69, by kernel_rfl, rfl⟩
theorem fnOk7 : FnOk Tryd.prog 7 := ⟨_, Tryd.func7, by kernel_rfl, rfl⟩
theorem fnOk8 : FnOk Tryd.prog 8 := ⟨_, Tryd.func8, by kernel_rfl, rfl⟩
theorem fnOk9 : FnOk Tryd.prog 9 := ⟨_, Tryd.func9, by kernel_rfl, rfl⟩
theorem IfaceT45 : IfaceT Tryd.prog 45 := ⟨by kernel_rfl⟩
theorem Many42 : Many Tryd.prog 42 [(.pointer none), (.slice none 0 0)] := ⟨⟨_, Tryd.underlying42, trivial⟩, by kernel_rfl⟩
theorem Many52 : Many Tryd.prog 52 [(.int .i64 (0)), (.int .i64 (0)), (.slice none 0 0)] := ⟨⟨_, Tryd.underlying52, trivial⟩, by kernel_rfl⟩
theorem Many54 : Many Tryd.prog 54 [(.int .i64 (0)), (.int .i64 (0)), (.int .i64 (0)), (.int .i64 (0)), (.slice none 0 0)] := ⟨⟨_, Tryd.underlying54, trivial⟩, by kernel_rfl⟩
theorem MapOf92 : MapOf Tryd.prog 92 (strV []) := ⟨_, _, Tryd.underlying92, Tryd.underlying3, by kernel_rfl⟩
theorem One3 : One Tryd.prog 3 (.int .i64 (0)) := ⟨⟨_, Tryd.underlying3, trivial⟩, by kernel_rfl, rfl⟩
theorem One43 : One Tryd.prog 43 (.slice none 0 0) := ⟨⟨_, Tryd.underlying43, trivial⟩, by kernel_rfl, rfl⟩
theorem One50 : One Tryd.prog 50 (.slice none 0 0) := ⟨⟨_, Tryd.underlying50, trivial⟩, by kernel_rfl, rfl⟩
theorem One9 : One Tryd.prog 9 (strV []) := ⟨⟨_, Tryd.underlying9, trivial⟩, by kernel_rfl, rfl⟩
theorem SliceOf22 : SliceOf Tryd.prog 22 52 3 := ⟨Tryd.underlying22, by kernel_rfl⟩
theorem SliceOf43 : SliceOf Tryd.prog 43 3 1 := ⟨Tryd.underlying43, by kernel_rfl⟩
theorem SliceOf50 : SliceOf Tryd.prog 50 54 5 := ⟨Tryd.underlying50, by kernel_rfl⟩
theorem SliceOf68 : SliceOf Tryd.prog 68 9 1 := ⟨Tryd.underlying68, by kernel_rfl⟩
theorem SliceOf96 : SliceOf Tryd.prog 96 43 1 := ⟨Tryd.underlying96, by kernel_rfl⟩
theorem Struct52 : Struct Tryd.prog 52 [(.int .i64 (0)), (.int .i64 (0)), (.slice none 0 0)] [(0, 1), (1, 1), (2, 1)] := ⟨by kernel_rfl, _, Tryd.underlying52, by kernel_rfl⟩
theorem Struct54 : Struct Tryd.prog 54 [(.int .i64 (0)), (.int .i64 (0)), (.int .i64 (0)), (.int .i64 (0)), (.slice none 0 0)] [(0, 1), (1, 1), (2, 1), (3, 1), (4, 1)] := ⟨by kernel_rfl, _, Tryd.underlying54, by kernel_rfl⟩
theorem mixed : Tryd.prog.follows .mixedOrders = true := by kernel_rfl
def code_uses_j6 (x6 : Bool) : Bool × Bool × Bool × Bool :=
  bif x6 then (false, false, false, true) else (false, false, false, false)
def code_uses_j5 (a : Int) (x3 : Bool) : Bool × Bool × Bool × Bool :=
  bif x3 then (true, true, false, true) else bif decide ((a : Int) = 3) then (true, true, true, true) else bif decide ((a : Int) = 10) then code_uses_j6 (decide ((a : Int) = 10)) else code_uses_j6 (decide ((a : Int) = 12))
def code_uses_j4 (a : Int) (x1 : Bool) : Bool × Bool × Bool × Bool :=
  bif x1 then (true, false, false, true) else bif decide ((a : Int) = 2) then code_uses_j5 a (decide ((a : Int) = 2)) else bif decide ((a : Int) = 4) then code_uses_j5 a (decide ((a : Int) = 4)) else code_uses_j5 a (decide ((a : Int) = 6))
def code_uses (a : Int) : Bool × Bool × Bool × Bool :=
  bif decide ((a : Int) = 1) then code_uses_j4 a (decide ((a : Int) = 1)) else bif decide ((a : Int) = 5) then code_uses_j4 a (decide ((a : Int) = 5)) else bif decide ((a : Int) = 8) then code_uses_j4 a (decide ((a : Int) = 8)) else bif decide ((a : Int) = 9) then code_uses_j4 a (decide ((a : Int) = 9)) else bif decide ((a : Int) = 11) then code_uses_j4 a (decide ((a : Int) = 11)) else bif decide ((a : Int) = 13) then code_uses_j4 a (decide ((a : Int) = 13)) else code_uses_j4 a (decide ((a : Int) = 7))
theorem code_uses_c (w0 : World) (M : BS) (hM : ∀ b, M b → b < w0.heap.size) (a : Int) (r : Bool × Bool × Bool × Bool) (hs : code_uses a = r) :
    Calls Tryd.prog 68 #[(.int .i64 (a))] w0 (fun e w' => Grow w0 w' ∧ e = .returned (.tuple #[.bool r.1, .bool r.2.1, .bool r.2.2.1, .bool r.2.2.2])) := by
 refine calls_start (args := [(.int .i64 (a))]) Tryd.func68 rfl Tryd.ntmps68 (Nat.le_of_ble_eq_true rfl) ?_
 have h := SH.init hM
 refine wc_seq (wc_region (wl_ok (r_assign (v := (.bool (false))) rfl) (wl_ok (r_assign (v := (.bool (false))) rfl) (wl_ok (r_assign (v := (.bool (false))) rfl) (wl_ok (r_assign (v := (.bool (false))) rfl) (wl_nil (then_normal (wc_seq (wc_seq (wc_region (wl_ok (r_move (v := (.int .i64 (a))) rfl) (wl_nil (then_normal (wc_block (wc_join (σ := Bool) (inl [7, 8, 9, 10, 11, 12, 13, 14]) (fun x1 => [(7, (.bool (x1)))]) (fun x1 w => SH w0 M BE w (hset []) ∧ code_uses_j4 a x1 = r) ?_ ?_)))))))))))))))
 ·
  rintro x1 w junk ⟨h, hs⟩
  refine wc_ifb hs rfl (fun c2 hs => ?_) (fun c2 hs => ?_)
  ·
   refine wc_seq (wc_region (wl_ok (r_assign (v := (.bool (true))) rfl) (wl_ok (r_assign (v := (.bool (false))) rfl) (wl_ok (r_assign (v := (.bool (false))) rfl) (wl_ok (r_assign (v := (.bool (true))) rfl) (wl_nil (then_normal (wc_ret (inBlock_ret (then_ret (fin4 (v1 := (.bool (true))) (v2 := (.bool (false))) (v3 := (.bool (false))) (v4 := (.bool (true))) Tryd.results68 rfl rfl rfl rfl ?_)))))))))))
   obtain rfl := hs
   exact ⟨h.grown, rfl⟩
  ·
   refine wc_join (σ := Bool) (inl [15, 16, 17, 18]) (fun x3 => [(15, (.bool (x3)))]) (fun x3 w => SH w0 M BE w (hset []) ∧ code_uses_j5 a x3 = r) ?_ ?_
   ·
    rintro x3 w junk ⟨h, hs⟩
    refine wc_ifb hs rfl (fun c4 hs => ?_) (fun c4 hs => ?_)
    ·
     refine wc_seq (wc_region (wl_ok (r_assign (v := (.bool (true))) rfl) (wl_ok (r_assign (v := (.bool (true))) rfl) (wl_ok (r_assign (v := (.bool (false))) rfl) (wl_ok (r_assign (v := (.bool (true))) rfl) (wl_nil (then_normal (wc_ret (inBlock_ret (then_ret (fin4 (v1 := (.bool (true))) (v2 := (.bool (true))) (v3 := (.bool (false))) (v4 := (.bool (true))) Tryd.results68 rfl rfl rfl rfl ?_)))))))))))
     obtain rfl := hs
     exact ⟨h.grown, rfl⟩
    ·
     refine wc_seq (wc_region (wl_ok (r_eql rfl rfl) (wl_ok (r_assign (v := (.bool (decide ((a : Int) = 3)))) rfl) (wl_nil (then_normal (wc_ifb hs rfl (fun c5 hs => ?_) (fun c5 hs => ?_)))))))
     ·
      refine wc_seq (wc_region (wl_ok (r_assign (v := (.bool (true))) rfl) (wl_ok (r_assign (v := (.bool (true))) rfl) (wl_ok (r_assign (v := (.bool (true))) rfl) (wl_ok (r_assign (v := (.bool (true))) rfl) (wl_nil (then_normal (wc_ret (inBlock_ret (then_ret (fin4 (v1 := (.bool (true))) (v2 := (.bool (true))) (v3 := (.bool (true))) (v4 := (.bool (true))) Tryd.results68 rfl rfl rfl rfl ?_)))))))))))
      obtain rfl := hs
      exact ⟨h.grown, rfl⟩
     ·
      refine wc_join (σ := Bool) (inl [21, 22, 23]) (fun x6 => [(21, (.bool (x6)))]) (fun x6 w => SH w0 M BE w (hset []) ∧ code_uses_j6 x6 = r) ?_ ?_
      ·
       rintro x6 w junk ⟨h, hs⟩
       refine wc_ifb hs rfl (fun c7 hs => ?_) (fun c7 hs => ?_)
       ·
        refine wc_seq (wc_region (wl_ok (r_assign (v := (.bool (false))) rfl) (wl_ok (r_assign (v := (.bool (false))) rfl) (wl_ok (r_assign (v := (.bool (false))) rfl) (wl_ok (r_assign (v := (.bool (true))) rfl) (wl_nil (then_normal (wc_ret (inBlock_ret (then_ret (fin4 (v1 := (.bool (false))) (v2 := (.bool (false))) (v3 := (.bool (false))) (v4 := (.bool (true))) Tryd.results68 rfl rfl rfl rfl ?_)))))))))))
        obtain rfl := hs
        exact ⟨h.grown, rfl⟩
       ·
        refine wc_skip (inBlock_normal (then_normal (wc_seq (wc_region (wl_ok (r_assign (v := (.bool (false))) rfl) (wl_ok (r_assign (v := (.bool (false))) rfl) (wl_ok (r_assign (v := (.bool (false))) rfl) (wl_ok (r_assign (v := (.bool (false))) rfl) (wl_nil (then_normal (wc_ret (fin4 (v1 := (.bool (false))) (v2 := (.bool (false))) (v3 := (.bool (false))) (v4 := (.bool (false))) Tryd.results68 rfl rfl rfl rfl ?_))))))))))))
        obtain rfl := hs
        exact ⟨h.grown, rfl⟩
      ·
       refine wc_seq (wc_region (wl_ok (r_eql rfl rfl) (wl_ok (r_assign (v := (.bool (decide ((a : Int) = 10)))) rfl) (wl_nil (then_normal (wc_ifb hs rfl (fun c8 hs => ?_) (fun c8 hs => ?_)))))))
       ·
        refine wc_skip (then_loop ?_)
        exact jend (decide ((a : Int) = 10)) ⟨h.cn _, hs⟩
       ·
        refine wc_region (wl_ok (r_eql rfl rfl) (wl_ok (r_assign (v := (.bool (decide ((a : Int) = 12)))) rfl) (wl_nil (then_loop ?_))))
        exact jend (decide ((a : Int) = 12)) ⟨h.cn _, hs⟩
   ·
    refine wc_seq (wc_region (wl_ok (r_eql rfl rfl) (wl_ok (r_assign (v := (.bool (decide ((a : Int) = 2)))) rfl) (wl_nil (then_normal (wc_ifb hs rfl (fun c9 hs => ?_) (fun c9 hs => ?_)))))))
    ·
     refine wc_skip (then_loop ?_)
     exact jend (decide ((a : Int) = 2)) ⟨h.cn _, hs⟩
    ·
     refine wc_seq (wc_region (wl_ok (r_eql rfl rfl) (wl_ok (r_assign (v := (.bool (decide ((a : Int) = 4)))) rfl) (wl_nil (then_normal (wc_ifb hs rfl (fun c10 hs => ?_) (fun c10 hs => ?_)))))))
     ·
      refine wc_skip (then_loop ?_)
      exact jend (decide ((a : Int) = 4)) ⟨h.cn _, hs⟩
     ·
      refine wc_region (wl_ok (r_eql rfl rfl) (wl_ok (r_assign (v := (.bool (decide ((a : Int) = 6)))) rfl) (wl_nil (then_loop ?_))))
      exact jend (decide ((a : Int) = 6)) ⟨h.cn _, hs⟩
 ·
  refine wc_seq (wc_region (wl_ok (r_eql rfl rfl) (wl_ok (r_assign (v := (.bool (decide ((a : Int) = 1)))) rfl) (wl_nil (then_normal (wc_ifb hs rfl (fun c11 hs => ?_) (fun c11 hs => ?_)))))))
  ·
   refine wc_skip (then_loop ?_)
   exact jend (decide ((a : Int) = 1)) ⟨h.cn _, hs⟩
  ·
   refine wc_seq (wc_region (wl_ok (r_eql rfl rfl) (wl_ok (r_assign (v := (.bool (decide ((a : Int) = 5)))) rfl) (wl_nil (then_normal (wc_ifb hs rfl (fun c12 hs => ?_) (fun c12 hs => ?_)))))))
   ·
    refine wc_skip (then_loop ?_)
    exact jend (decide ((a : Int) = 5)) ⟨h.cn _, hs⟩
   ·
    refine wc_seq (wc_region (wl_ok (r_eql rfl rfl) (wl_ok (r_assign (v := (.bool (decide ((a : Int) = 8)))) rfl) (wl_nil (then_normal (wc_ifb hs rfl (fun c13 hs => ?_) (fun c13 hs => ?_)))))))
    ·
     refine wc_skip (then_loop ?_)
     exact jend (decide ((a : Int) = 8)) ⟨h.cn _, hs⟩
    ·
     refine wc_seq (wc_region (wl_ok (r_eql rfl rfl) (wl_ok (r_assign (v := (.bool (decide ((a : Int) = 9)))) rfl) (wl_nil (then_normal (wc_ifb hs rfl (fun c14 hs => ?_) (fun c14 hs => ?_)))))))
     ·
      refine wc_skip (then_loop ?_)
      exact jend (decide ((a : Int) = 9)) ⟨h.cn _, hs⟩
     ·
      refine wc_seq (wc_region (wl_ok (r_eql rfl rfl) (wl_ok (r_assign (v := (.bool (decide ((a : Int) = 11)))) rfl) (wl_nil (then_normal (wc_ifb hs rfl (fun c15 hs => ?_) (fun c15 hs => ?_)))))))
      ·
       refine wc_skip (then_loop ?_)
       exact jend (decide ((a : Int) = 11)) ⟨h.cn _, hs⟩
      ·
       refine wc_seq (wc_region (wl_ok (r_eql rfl rfl) (wl_ok (r_assign (v := (.bool (decide ((a : Int) = 13)))) rfl) (wl_nil (then_normal (wc_ifb hs rfl (fun c16 hs => ?_) (fun c16 hs => ?_)))))))
       ·
        refine wc_skip (then_loop ?_)
        exact jend (decide ((a : Int) = 13)) ⟨h.cn _, hs⟩
       ·
        refine wc_region (wl_ok (r_eql rfl rfl) (wl_ok (r_assign (v := (.bool (decide ((a : Int) = 7)))) rfl) (wl_nil (then_loop ?_))))
        exact jend (decide ((a : Int) = 7)) ⟨h.cn _, hs⟩
def code_check_1_ (a : Bool) (b : Int) (z0_0 : Int) : Bool :=
  ((!a) || (decide ((0 : Int) ≤ b) && decide ((b : Int) < z0_0)))
theorem code_check_1__c (w0 : World) (M : BS) (hM : ∀ b, M b → b < w0.heap.size) (a : Bool) (b : Int) (z0_0 : Int) (q0 : Nat) (hq0 : ∃ E, w0.heap[q0]? = some (.cells #[(.int .i64 (z0_0))] E (0, 0))) (r : Bool) (hs : code_check_1_ a b z0_0 = r) :
    Calls Tryd.prog 69 #[(.bool (a)), (.int .i64 (b)), (.pointer (some ⟨q0, 0, none⟩))] w0 (fun e w' => Grow w0 w' ∧ e = .returned (.bool r)) := by
 refine calls_start (args := [(.bool (a)), (.int .i64 (b)), (.pointer (some ⟨q0, 0, none⟩))]) Tryd.func69 rfl Tryd.ntmps69 (Nat.le_of_ble_eq_true rfl) ?_
 have h := SH.init hM
 replace h := h.argPt 1 (cs := [(.int .i64 (z0_0))]) hq0 none_own
 refine wc_seq (wc_region (wl_ok (r_assign (v := (.bool (false))) rfl) (wl_nil (then_normal (wc_seq (wc_region (wl_ok (r_move (v := (.bool (a))) rfl) (wl_ok (r_notb rfl) (wl_ok (r_move (v := (.bool ((!a)))) rfl) (wl_gd0 rfl rfl (fun q => r_move (v := (.int .i64 (b))) rfl) (wl_gd0 rfl rfl (fun q => r_geq (gvt q) rfl) (wl_gd0 rfl rfl (fun q => r_move (v := (.bool (decide ((0 : Int) ≤ b)))) (gvt q)) (wl_gd ((!a) == false) rfl rfl (fun q => r_move (v := (.int .i64 (b))) rfl) (wl_gd ((!a) == false) rfl rfl (fun q => r_ldP (k := 0) h 1 rfl One3 rfl rfl) (wl_gd ((!a) == false) rfl rfl (fun q => r_lss (gvt q) (gvt q)) (wl_gd0 rfl rfl (fun q => r_pand (gvt q) (gvn q) evc) (wl_ok (r_por rfl rfl evc) (wl_ok (r_assign (v := (.bool (((!a) || (decide ((0 : Int) ≤ b) && decide ((b : Int) < z0_0)))))) rfl) (wl_nil (then_normal (wc_ret (fin1 (v := (.bool (((!a) || (decide ((0 : Int) ≤ b) && decide ((b : Int) < z0_0)))))) Tryd.results69 rfl ?_))))))))))))))))))))))
 obtain rfl := hs
 exact ⟨h.grown, rfl⟩
def code_check_b8 (d : Int) (x20 : Int) (s : Unit) (nx22 : Unit → Option Int) : Option Int :=
  bif (!(decide ((0 : Int) ≤ x20) && decide ((x20 : Int) < d))) then some 3 else nx22 ()
def code_check_k9 (s : Unit) : Option Int :=
  some 0
def code_check_j5 (x9 : Bool) (a : Ins) (b : Int) (y12 : Int) (c : List Proc) (y13 : Int) (x10 : Int) (d : Int) (y14 : Int) : Option Int :=
  bif (!x9) then some 3 else bif (((decide ((a.a : Int) ≠ y14) || decide ((a.b : Int) ≠ y12)) || decide ((a.c : Int) ≠ y13)) || decide (((a.args.length : Int) : Int) ≠ x10)) then some 4 else bif decide ((a.op : Int) = 7) then each (code_check_b8 d) code_check_k9 a.args () else some 0
def code_check_j4 (a : Ins) (b : Int) (c : List Proc) (d : Int) (x9 : Bool) (x10 : Int) (y11 : Int) (y12 : Int) (y13 : Int) : Option Int :=
  bif decide ((a.op : Int) = 12) then code_check_j5 x9 a b y12 c y13 x10 d 0 else code_check_j5 x9 a b y12 c y13 x10 d y11
def code_check_j12 (a : Ins) (b : Int) (c : List Proc) (d : Int) (x63 : Bool) : Option Int :=
  bif x63 then code_check_j4 a b c d ((code_uses a.op).2.2.2) 0 a.a 0 0 else bif decide ((a.op : Int) = 10) then code_check_j4 a b c d ((code_uses a.op).2.2.2) 0 0 0 0 else code_check_j4 a b c d ((code_uses a.op).2.2.2) 0 a.a a.b 0
def code_check_j11 (a : Ins) (b : Int) (c : List Proc) (d : Int) (e : Int) (x50 : Bool) : Option Int :=
  bif x50 then code_check_j4 a b c d (decide ((0 : Int) ≤ a.b) && decide ((a.b : Int) < e)) 0 a.a a.b 0 else bif decide ((a.op : Int) = 7) then bif (decide ((a.b : Int) < 0) || decide (((c.length : Int) : Int) ≤ a.b)) then some 5 else (idx c a.b).bind fun x54 => code_check_j4 a b c d ((code_uses a.op).2.2.2) x54.params a.a a.b 0 else bif decide ((a.op : Int) = 8) then code_check_j12 a b c d (decide ((a.op : Int) = 8)) else bif decide ((a.op : Int) = 9) then code_check_j12 a b c d (decide ((a.op : Int) = 9)) else code_check_j12 a b c d (decide ((a.op : Int) = 11))
def code_check_j10 (a : Ins) (b : Int) (c : List Proc) (d : Int) (e : Int) (x34 : Bool) : Option Int :=
  bif x34 then code_check_j4 a b c d (decide ((0 : Int) ≤ a.c) && decide ((a.c : Int) < 4)) 0 a.a a.b a.c else bif decide ((a.op : Int) = 3) then bif decide (((a.args.length : Int) : Int) = 1) then (idx a.args 0).bind fun x38 => code_check_j4 a b c d (decide ((1 : Int) ≤ x38) && decide ((x38 : Int) ≤ 5)) 1 a.a a.b a.c else code_check_j4 a b c d false 1 a.a a.b a.c else bif decide ((a.op : Int) = 12) then code_check_j11 a b c d e (decide ((a.op : Int) = 12)) else code_check_j11 a b c d e (decide ((a.op : Int) = 13))
def code_check (a : Ins) (b : Int) (c : List Proc) (d : Int) (e : Int) : Option Int :=
  bif (!(code_uses a.op).2.2.2) then some 4 else bif (((!((!(code_uses a.op).1) || (decide ((0 : Int) ≤ a.a) && decide ((a.a : Int) < d)))) || (!(code_check_1_ ((code_uses a.op).2.1) a.b d))) || (!(code_check_1_ ((code_uses a.op).2.2.1) a.c d))) then some 3 else bif decide ((a.op : Int) = 1) then code_check_j4 a b c d (decide ((-1000000000 : Int) ≤ a.b) && decide ((a.b : Int) ≤ 1000000000)) 0 a.a a.b 0 else bif decide ((a.op : Int) = 5) then code_check_j4 a b c d (decide ((1 : Int) ≤ a.b) && decide ((a.b : Int) ≤ 4)) 0 a.a a.b 0 else bif decide ((a.op : Int) = 4) then code_check_j10 a b c d e (decide ((a.op : Int) = 4)) else code_check_j10 a b c d e (decide ((a.op : Int) = 6))
theorem code_check_c (w0 : World) (M : BS) (hM : ∀ b, M b → b < w0.heap.size) (a : Ins) (va4 : Value) (ha4 : Rd2 rInt w0 BE M va4 a.args) (b : Int) (vc : Value) (c : List Proc) (hc : Rd2 rProc w0 BE M vc c) (d : Int) (e : Int) (r : Int) (hs : code_check a b c d e = some r) :
    Calls Tryd.prog 48 #[(.agg #[(.int .i64 (a.op)), (.int .i64 (a.a)), (.int .i64 (a.b)), (.int .i64 (a.c)), va4]), (.int .i64 (b)), vc, (.int .i64 (d)), (.int .i64 (e))] w0 (fun e w' => Grow w0 w' ∧ e = .returned (.int .i64 r)) := by
 refine calls_start (args := [(.agg #[(.int .i64 (a.op)), (.int .i64 (a.a)), (.int .i64 (a.b)), (.int .i64 (a.c)), va4]), (.int .i64 (b)), vc, (.int .i64 (d)), (.int .i64 (e))]) Tryd.func48 rfl Tryd.ntmps48 (Nat.le_of_ble_eq_true rfl) ?_
 have h := SH.init hM
 replace h := h.argSr 1 ha4 none_own
 replace h := h.argSr 2 hc (hupd_own_sr none_own)
 have hl_c := hc.len_le
 refine wc_seq (wc_region (w_box (cs := [(.int .i64 (a.op)), (.int .i64 (a.a)), (.int .i64 (a.b)), (.int .i64 (a.c)), va4]) h 3 rfl rfl fun w b1 h => w_box (cs := [(.int .i64 (d))]) h 4 rfl rfl fun w b2 h => wl_ok (r_assign (v := (.int .i64 (0))) rfl) (wl_nil (then_normal (wc_seq (wc_region (wl_ok (r_fieldAddr Fld54x0 rfl) (wl_ok (r_ldB h 3 rfl One3 rfl rfl) (w_call fnOk68 rfl rfl (code_uses_c _ _ h.lt a.op _ rfl) ?_)))))))))
 rintro _ w ⟨k3, rfl⟩
 refine ⟨_, rfl, ?_⟩
 replace h := h.grow k3
 refine wl_ok (r_move (v := (.tuple #[(.bool ((code_uses a.op).1)), (.bool ((code_uses a.op).2.1)), (.bool ((code_uses a.op).2.2.1)), (.bool ((code_uses a.op).2.2.2))])) rfl) (wl_ok (r_extract rfl rfl) (wl_ok (r_extract rfl rfl) (wl_ok (r_extract rfl rfl) (wl_ok (r_extract rfl rfl) (wl_ok (r_assign (v := (.bool ((code_uses a.op).1))) rfl) (wl_ok (r_assign (v := (.bool ((code_uses a.op).2.1))) rfl) (wl_ok (r_assign (v := (.bool ((code_uses a.op).2.2.1))) rfl) (wl_ok (r_assign (v := (.bool ((code_uses a.op).2.2.2))) rfl) (wl_nil (then_normal (wc_seq (wc_seq (wc_region (wl_ok (r_move (v := (.bool ((code_uses a.op).2.2.2))) rfl) (wl_ok (r_notb rfl) (wl_nil (then_normal (wc_ifb hs rfl (fun c4 hs => ?_) (fun c4 hs => ?_)))))))))))))))))))
 ·
  refine wc_seq (wc_region (wl_ok (r_assign (v := (.int .i64 (4))) rfl) (wl_nil (then_normal (wc_ret (then_ret (fin1 (v := (.int .i64 (4))) Tryd.results48 rfl ?_)))))))
  obtain rfl := Option.some.inj hs
  exact ⟨h.grown, rfl⟩
 ·
  refine wc_skip (then_normal (wc_seq (wc_region (wl_ok (r_makeFunc (c1 := []) (c2 := [(.pointer (some ⟨b2, 0, none⟩))]) rfl rfl) (wl_ok (r_assign (v := (.func (.func 69) #[] #[(.pointer (some ⟨b2, 0, none⟩))])) rfl) (wl_nil (then_normal (wc_seq (wc_seq (wc_region (wl_ok (r_move (v := (.func (.func 69) #[] #[(.pointer (some ⟨b2, 0, none⟩))])) rfl) (wl_ok (r_move (v := (.bool ((code_uses a.op).1))) rfl) (wl_ok (r_fieldAddr Fld54x1 rfl) (wl_ok (r_ldB h 3 rfl One3 rfl rfl) (w_callIn (args := [(.bool ((code_uses a.op).1)), (.int .i64 (a.a)), (.pointer (some ⟨b2, 0, none⟩))]) fnOk69 rfl rfl (calls_start (args := [(.bool ((code_uses a.op).1)), (.int .i64 (a.a)), (.pointer (some ⟨b2, 0, none⟩))]) Tryd.func69 rfl Tryd.ntmps69 (Nat.le_of_ble_eq_true rfl) (wc_seq (wc_region (wl_ok (r_assign (v := (.bool (false))) rfl) (wl_nil (then_normal (wc_seq (wc_region ?_)))))))))))))))))))))))
  refine wl_ok (r_move (v := (.bool ((code_uses a.op).1))) rfl) (wl_ok (r_notb rfl) (wl_ok (r_move (v := (.bool ((!(code_uses a.op).1)))) rfl) (wl_gd0 rfl rfl (fun q => r_move (v := (.int .i64 (a.a))) rfl) (wl_gd0 rfl rfl (fun q => r_geq (gvt q) rfl) (wl_gd0 rfl rfl (fun q => r_move (v := (.bool (decide ((0 : Int) ≤ a.a)))) (gvt q)) (wl_gd ((!(code_uses a.op).1) == false) rfl rfl (fun q => r_move (v := (.int .i64 (a.a))) rfl) (wl_gd ((!(code_uses a.op).1) == false) rfl rfl (fun q => r_ldB h 4 rfl One3 rfl rfl) (wl_gd ((!(code_uses a.op).1) == false) rfl rfl (fun q => r_lss (gvt q) (gvt q)) (wl_gd0 rfl rfl (fun q => r_pand (gvt q) (gvn q) evc) (wl_ok (r_por rfl rfl evc) (wl_ok (r_assign (v := (.bool (((!(code_uses a.op).1) || (decide ((0 : Int) ≤ a.a) && decide ((a.a : Int) < d)))))) rfl) (wl_nil (then_normal (wc_ret (fin1 (v := (.bool (((!(code_uses a.op).1) || (decide ((0 : Int) ≤ a.a) && decide ((a.a : Int) < d)))))) Tryd.results69 rfl (⟨_, rfl, ?_⟩))))))))))))))))
  refine wl_ok (r_notb rfl) (wl_ok (r_move (v := (.bool ((!((!(code_uses a.op).1) || (decide ((0 : Int) ≤ a.a) && decide ((a.a : Int) < d))))))) rfl) (wl_gd0 rfl rfl (fun q => r_move (v := (.func (.func 69) #[] #[(.pointer (some ⟨b2, 0, none⟩))])) rfl) (wl_gd0 rfl rfl (fun q => r_move (v := (.bool ((code_uses a.op).2.1))) rfl) (wl_gd0 rfl rfl (fun q => r_fieldAddr Fld54x2 rfl) (wl_gd0 rfl rfl (fun q => r_ldB h 3 rfl One3 (gvt q) rfl) (w_callH0 [(.pointer (some ⟨b2, 0, none⟩))] rfl rfl fnOk69 (fun q => (gvt q)) (fun q => la_cons (gvt q) (la_cons (gvt q) rfl)) (code_check_1__c _ _ h.lt ((code_uses a.op).2.1) a.b d b2 (h.blkAt 4 rfl) _ rfl) fun w k5 => ?_))))))
  replace h := h.grow k5
  refine wl_gd0 rfl rfl (fun q => r_notb (gvt q)) (wl_ok (r_por rfl rfl evc) (wl_ok (r_move (v := (.bool (((!((!(code_uses a.op).1) || (decide ((0 : Int) ≤ a.a) && decide ((a.a : Int) < d)))) || (!(code_check_1_ ((code_uses a.op).2.1) a.b d)))))) rfl) (wl_gd0 rfl rfl (fun q => r_move (v := (.func (.func 69) #[] #[(.pointer (some ⟨b2, 0, none⟩))])) rfl) (wl_gd0 rfl rfl (fun q => r_move (v := (.bool ((code_uses a.op).2.2.1))) rfl) (wl_gd0 rfl rfl (fun q => r_fieldAddr Fld54x3 rfl) (wl_gd0 rfl rfl (fun q => r_ldB h 3 rfl One3 (gvt q) rfl) (w_callH0 [(.pointer (some ⟨b2, 0, none⟩))] rfl rfl fnOk69 (fun q => (gvt q)) (fun q => la_cons (gvt q) (la_cons (gvt q) rfl)) (code_check_1__c _ _ h.lt ((code_uses a.op).2.2.1) a.c d b2 (h.blkAt 4 rfl) _ rfl) fun w k6 => ?_)))))))
  replace h := h.grow k6
  refine wl_gd0 rfl rfl (fun q => r_notb (gvt q)) (wl_ok (r_por rfl rfl evc) (wl_nil (then_normal (wc_ifb hs rfl (fun c7 hs => ?_) (fun c7 hs => ?_)))))
  ·
   refine wc_seq (wc_region (wl_ok (r_assign (v := (.int .i64 (3))) rfl) (wl_nil (then_normal (wc_ret (then_ret (fin1 (v := (.int .i64 (3))) Tryd.results48 rfl ?_)))))))
   obtain rfl := Option.some.inj hs
   exact ⟨h.grown, rfl⟩
  ·
   refine wc_skip (then_normal (wc_seq (wc_region (wl_ok (r_fieldAddr Fld54x3 rfl) (wl_ok (r_ldB h 3 rfl One3 rfl rfl) (wl_ok (r_geq rfl rfl) (wl_ok (r_move (v := (.bool (decide ((0 : Int) ≤ a.c)))) rfl) (wl_gd0 rfl rfl (fun q => r_fieldAddr Fld54x3 rfl) (wl_gd0 rfl rfl (fun q => r_ldB h 3 rfl One3 (gvt q) rfl) (wl_gd0 rfl rfl (fun q => r_lss (gvt q) rfl) (wl_ok (r_pand rfl rfl evc) (wl_ok (r_assign (v := (.bool ((decide ((0 : Int) ≤ a.c) && decide ((a.c : Int) < 4))))) rfl) (wl_nil (then_normal (wc_seq (wc_region (wl_ok (r_assign (v := (.int .i64 (0))) rfl) (wl_nil (then_normal (wc_seq (wc_region (wl_ok (r_fieldAddr Fld54x0 rfl) (wl_ok (r_ldB h 3 rfl One3 rfl rfl) ?_)))))))))))))))))))))))
   refine wl_ok (r_fieldAddr Fld54x1 rfl) (wl_ok (r_ldB h 3 rfl One3 rfl rfl) (wl_ok (r_fieldAddr Fld54x2 rfl) (wl_ok (r_ldB h 3 rfl One3 rfl rfl) (wl_ok (r_build (pv := [(0, (.int .i64 (a.op))), (1, (.int .i64 (a.a))), (2, (.int .i64 (a.b)))]) (out := [(.int .i64 (a.op)), (.int .i64 (a.a)), (.int .i64 (a.b)), (.int .i64 (0)), (.slice none 0 0)]) Struct54 rfl ⟨0, 1, [(.int .i64 (a.op))], rfl, rfl, rfl, Nat.le_of_ble_eq_true rfl, ⟨1, 1, [(.int .i64 (a.a))], rfl, rfl, rfl, Nat.le_of_ble_eq_true rfl, ⟨2, 1, [(.int .i64 (a.b))], rfl, rfl, rfl, Nat.le_of_ble_eq_true rfl, rfl⟩⟩⟩) (w_allocN h 5 Many54 fun w b8 h => w_stN (vs := [(.int .i64 (a.op)), (.int .i64 (a.a)), (.int .i64 (a.b)), (.int .i64 (0)), (.slice none 0 0)]) h 5 [(.int .i64 (a.op)), (.int .i64 (a.a)), (.int .i64 (a.b)), (.int .i64 (0)), (.slice none 0 0)] rfl Many54 rfl rfl rfl rfl rfl (ones_cons rfl (ones_cons rfl (ones_cons rfl (ones_cons rfl (ones_cons rfl ones_nil))))) fun w h => wl_nil (then_normal (wc_join (σ := Bool × Int × Int × Int × Int) (inl [10, 14, 17, 69, 70, 71, 72, 73, 74, 75, 76, 77, 78, 79, 80, 81, 82, 83, 84, 85, 86, 87, 88, 89, 90, 91, 92, 93, 94, 95, 96, 97, 98, 99, 100, 101, 102, 103, 104, 105, 106, 107, 108, 109, 110, 111, 112, 113, 114, 115, 116, 117, 118, 119, 120, 121, 122, 123, 124, 125, 126, 127, 128, 129, 130, 131, 132, 133, 134, 135, 136, 137, 138, 139, 140, 141, 142, 143, 144, 145, 146, 147, 148, 149, 150, 151, 152, 153, 154, 155, 156, 157, 158, 159]) (fun ⟨x9, x10, y11, y12, y13⟩ => [(14, (.bool (x9))), (17, (.int .i64 (x10)))]) (fun ⟨x9, x10, y11, y12, y13⟩ w => SH w0 M BE w (hset [(1, .sr rInt va4 a.args), (3, .blk b1 [(.int .i64 (a.op)), (.int .i64 (a.a)), (.int .i64 (a.b)), (.int .i64 (a.c)), va4]), (4, .blk b2 [(.int .i64 (d))]), (5, .blk b8 [(.int .i64 (a.op)), (.int .i64 (y11)), (.int .i64 (y12)), (.int .i64 (y13)), (.slice none 0 0)])]) ∧ code_check_j4 a b c d x9 x10 y11 y12 y13 = some r) ?_ ?_)))))))
   ·
    rintro ⟨x9, x10, y11, y12, y13⟩ w junk ⟨h, hs⟩
    refine wc_join (σ := Int) (inl [160, 161, 162, 163]) (fun y14 => []) (fun y14 w => SH w0 M BE w (hset [(1, .sr rInt va4 a.args), (3, .blk b1 [(.int .i64 (a.op)), (.int .i64 (a.a)), (.int .i64 (a.b)), (.int .i64 (a.c)), va4]), (4, .blk b2 [(.int .i64 (d))]), (5, .blk b8 [(.int .i64 (a.op)), (.int .i64 (y14)), (.int .i64 (y12)), (.int .i64 (y13)), (.slice none 0 0)])]) ∧ code_check_j5 x9 a b y12 c y13 x10 d y14 = some r) ?_ ?_
    ·
     rintro y14 w junk ⟨h, hs⟩
     refine wc_seq (wc_seq (wc_region (wl_ok (r_move (v := (.bool (x9))) rfl) (wl_ok (r_notb rfl) (wl_nil (then_normal (wc_ifb hs rfl (fun c15 hs => ?_) (fun c15 hs => ?_))))))))
     ·
      refine wc_seq (wc_region (wl_ok (r_assign (v := (.int .i64 (3))) rfl) (wl_nil (then_normal (wc_ret (then_ret (fin1 (v := (.int .i64 (3))) Tryd.results48 rfl ?_)))))))
      obtain rfl := Option.some.inj hs
      exact ⟨h.grown, rfl⟩
     ·
      refine wc_skip (then_normal (wc_seq (wc_seq (wc_region (wl_ok (r_fieldAddr Fld54x1 rfl) (wl_ok (r_ldB h 3 rfl One3 rfl rfl) (wl_ok (r_fieldAddr Fld54x1 rfl) (wl_ok (r_ldB h 5 rfl One3 rfl rfl) (wl_ok (r_neq rfl rfl) (wl_ok (r_move (v := (.bool (decide ((a.a : Int) ≠ y14)))) rfl) (wl_gd0 rfl rfl (fun q => r_fieldAddr Fld54x2 rfl) (wl_gd0 rfl rfl (fun q => r_ldB h 3 rfl One3 (gvt q) rfl) (wl_gd0 rfl rfl (fun q => r_fieldAddr Fld54x2 rfl) (wl_gd0 rfl rfl (fun q => r_ldB h 5 rfl One3 (gvt q) rfl) (wl_gd0 rfl rfl (fun q => r_neq (gvt q) (gvt q)) (wl_ok (r_por rfl rfl evc) (wl_ok (r_move (v := (.bool ((decide ((a.a : Int) ≠ y14) || decide ((a.b : Int) ≠ y12))))) rfl) (wl_gd0 rfl rfl (fun q => r_fieldAddr Fld54x3 rfl) (wl_gd0 rfl rfl (fun q => r_ldB h 3 rfl One3 (gvt q) rfl) (wl_gd0 rfl rfl (fun q => r_fieldAddr Fld54x3 rfl) (wl_gd0 rfl rfl (fun q => r_ldB h 5 rfl One3 (gvt q) rfl) (wl_gd0 rfl rfl (fun q => r_neq (gvt q) (gvt q)) (wl_ok (r_por rfl rfl evc) ?_)))))))))))))))))))))))
      refine wl_ok (r_move (v := (.bool (((decide ((a.a : Int) ≠ y14) || decide ((a.b : Int) ≠ y12)) || decide ((a.c : Int) ≠ y13))))) rfl) (wl_gd0 rfl rfl (fun q => r_fieldAddr Fld54x4 rfl) (wl_gd0 rfl rfl (fun q => r_ldB h 3 rfl One43 (gvt q) rfl) (wl_gd0 rfl rfl (fun q => r_len SliceOf43 (gvt q) (h.srS 1 rfl)) (wl_gd0 rfl rfl (fun q => r_move (v := (.int .i64 (x10))) rfl) (wl_gd0 rfl rfl (fun q => r_neq (gvt q) (gvt q)) (wl_ok (r_por rfl rfl evc) (wl_nil (then_normal (wc_ifb hs rfl (fun c16 hs => ?_) (fun c16 hs => ?_))))))))))
      ·
       refine wc_seq (wc_region (wl_ok (r_assign (v := (.int .i64 (4))) rfl) (wl_nil (then_normal (wc_ret (then_ret (fin1 (v := (.int .i64 (4))) Tryd.results48 rfl ?_)))))))
       obtain rfl := Option.some.inj hs
       exact ⟨h.grown, rfl⟩
      ·
       refine wc_skip (then_normal (wc_seq (wc_seq (wc_region (wl_ok (r_fieldAddr Fld54x0 rfl) (wl_ok (r_ldB h 3 rfl One3 rfl rfl) (wl_ok (r_eql rfl rfl) (wl_nil (then_normal (wc_ifb hs rfl (fun c17 hs => ?_) (fun c17 hs => ?_)))))))))))
       ·
        refine wc_seq (wc_region (wl_ok (r_fieldAddr Fld54x4 rfl) (wl_ok (r_ldB h 3 rfl One43 rfl rfl) (wl_ok (r_len SliceOf43 rfl (h.srS 1 rfl)) (wl_ok (r_move (v := (.int .i64 (0))) rfl) (wl_nil (then_normal (wc_block (wc_lp (σ := Nat × Int) (inl [10, 20, 198, 199, 200, 201, 202, 203, 204, 205, 206]) (fun ⟨k18, i19⟩ => [(198, (.int .i64 (i19)))]) (fun ⟨k18, i19⟩ w => SH w0 M BE w (hset [(1, .sr rInt va4 a.args), (4, .blk b2 [(.int .i64 (d))])]) ∧ i19 = (k18 : Int) ∧ each (code_check_b8 d) code_check_k9 (a.args.drop k18) () = some r) (fun ⟨k18, i19⟩ => a.args.length - k18) ⟨0, 0⟩ ⟨rfl, trivial⟩ ?_ ?_)))))))))
        ·
         exact ⟨h.cn _, rfl, hs⟩
        ·
         rintro ⟨k18, i19⟩ w junk ⟨h, hik, hs⟩
         refine wc_seq (wc_region ?_)
         refine wl_ok (r_lss rfl rfl) (wl_nil (then_normal ?_))
         refine wc_seq (wc_if rfl (fun e23 => ?_) (fun e23 => ?_))
         ·
          refine wc_skip (then_normal ?_)
          obtain ⟨x20, e24a, e24b⟩ := drop_lt (hik ▸ e23)
          rw [e24b, each_cons] at hs
          generalize hnx22 : each (code_check_b8 d) code_check_k9 (a.args.drop (k18 + 1)) = nx22 at hs
          have e24r := nat_rng ((h.srS 1 rfl)).len_le hik e23
          refine wc_seq (wc_block (wc_seq (wc_region ?_)))
          obtain ⟨b26, o27, cs28, h, r29, i25⟩ := h.ixS 1 6 rfl SliceOf43 rfl (nat_nn hik) (get_nat hik e24a)
          obtain rfl := r29
          refine wl_ok (i25 _ _ _ _ _ _ _ _ _ rfl rfl) (wl_ok (r_ldP (k := 0) h 6 rfl One3 rfl rfl) (wl_ok (r_assign (v := (.int .i64 (x20))) rfl) (wl_nil (then_normal (wc_seq (wc_region (wl_ok (r_move (v := (.func (.func 69) #[] #[(.pointer (some ⟨b2, 0, none⟩))])) rfl) (wl_ok (r_move (v := (.int .i64 (x20))) rfl) (w_callIn (args := [(.bool (true)), (.int .i64 (x20)), (.pointer (some ⟨b2, 0, none⟩))]) fnOk69 rfl rfl (calls_start (args := [(.bool (true)), (.int .i64 (x20)), (.pointer (some ⟨b2, 0, none⟩))]) Tryd.func69 rfl Tryd.ntmps69 (Nat.le_of_ble_eq_true rfl) (wc_seq (wc_region (wl_ok (r_assign (v := (.bool (false))) rfl) (wl_nil (then_normal (wc_seq (wc_region (wl_ok (r_move (v := (.bool (true))) rfl) (wl_ok (r_notb rfl) (wl_ok (r_move (v := (.bool (false))) rfl) (wl_on rfl rfl (wl_ok (r_move (v := (.int .i64 (x20))) rfl) (wl_on rfl rfl ?_)))))))))))))))))))))))
          refine wl_ok (r_geq rfl rfl) (wl_on rfl rfl (wl_ok (r_move (v := (.bool (decide ((0 : Int) ≤ x20)))) rfl) (wl_gd0 rfl rfl (fun q => r_move (v := (.int .i64 (x20))) rfl) (wl_gd0 rfl rfl (fun q => r_ldB h 4 rfl One3 rfl rfl) (wl_gd0 rfl rfl (fun q => r_lss (gvt q) (gvt q)) (wl_on rfl rfl (wl_ok (r_pand rfl rfl evc) (wl_ok (r_pick (b := false) (v := (.bool ((decide ((0 : Int) ≤ x20) && decide ((x20 : Int) < d))))) rfl rfl) (wl_ok (r_assign (v := (.bool ((decide ((0 : Int) ≤ x20) && decide ((x20 : Int) < d))))) rfl) (wl_nil (then_normal (wc_ret (fin1 (v := (.bool ((decide ((0 : Int) ≤ x20) && decide ((x20 : Int) < d))))) Tryd.results69 rfl (⟨_, rfl, ?_⟩))))))))))))))
          refine wl_ok (r_notb rfl) (wl_nil (then_normal (wc_ifb hs rfl (fun c30 hs => ?_) (fun c30 hs => ?_))))
          ·
           refine wc_seq (wc_region (wl_ok (r_assign (v := (.int .i64 (3))) rfl) (wl_nil (then_normal (wc_ret (inBlock_ret (then_ret (then_ret (inBlock_ret (then_ret (fin1 (v := (.int .i64 (3))) Tryd.results48 rfl ?_)))))))))))
           obtain rfl := Option.some.inj hs
           exact ⟨h.grown, rfl⟩
          ·
           refine wc_skip (inBlock_normal (then_normal (wc_region (wl_ok (r_add rfl rfl e24r) (wl_ok (r_move (v := (.int .i64 ((i19 + 1)))) rfl) (wl_nil (then_loop ?_)))))))
           subst hnx22
           exact lend ⟨k18 + 1, i19 + 1⟩ ⟨h.cn _, by omega, hs⟩ (by have := of_decide_eq_true e23; dsimp only; omega)
         ·
          rw [drop_ge (hik ▸ e23), each_nil] at hs
          refine wc_exit (then_exit (then_exit (inBlock_eq (then_normal (wc_seq (wc_region (wl_ok (r_assign (v := (.int .i64 (0))) rfl) (wl_nil (then_normal (wc_ret (fin1 (v := (.int .i64 (0))) Tryd.results48 rfl ?_)))))))))))
          obtain rfl := Option.some.inj hs
          exact ⟨h.grown, rfl⟩
       ·
        refine wc_skip (then_normal (wc_seq (wc_region (wl_ok (r_assign (v := (.int .i64 (0))) rfl) (wl_nil (then_normal (wc_ret (fin1 (v := (.int .i64 (0))) Tryd.results48 rfl ?_))))))))
        obtain rfl := Option.some.inj hs
        exact ⟨h.grown, rfl⟩
    ·
     refine wc_seq (wc_region (wl_ok (r_fieldAddr Fld54x0 rfl) (wl_ok (r_ldB h 3 rfl One3 rfl rfl) (wl_ok (r_eql rfl rfl) (wl_nil (then_normal (wc_ifb hs rfl (fun c31 hs => ?_) (fun c31 hs => ?_))))))))
     ·
      refine wc_region (wl_ok (r_fieldAddr Fld54x1 rfl) (w_st1 h 5 [(.int .i64 (a.op)), (.int .i64 (0)), (.int .i64 (y12)), (.int .i64 (y13)), (.slice none 0 0)] rfl One3 rfl rfl rfl rfl rfl fun w h => wl_nil (then_loop ?_)))
      exact jend 0 ⟨h.cn _, hs⟩
     ·
      refine wc_skip (then_loop ?_)
      exact jend y11 ⟨h.cn _, hs⟩
   ·
    refine wc_seq (wc_region (wl_ok (r_fieldAddr Fld54x0 rfl) (wl_ok (r_ldB h 3 rfl One3 rfl rfl) (wl_nil (then_normal (wc_block (wc_seq (wc_region (wl_ok (r_eql rfl rfl) (wl_ok (r_assign (v := (.bool (decide ((a.op : Int) = 1)))) rfl) (wl_nil (then_normal (wc_ifb hs rfl (fun c32 hs => ?_) (fun c32 hs => ?_))))))))))))))
    ·
     refine wc_region (wl_ok (r_fieldAddr Fld54x2 rfl) (wl_ok (r_ldB h 3 rfl One3 rfl rfl) (wl_ok (r_geq rfl rfl) (wl_ok (r_move (v := (.bool (decide ((-1000000000 : Int) ≤ a.b)))) rfl) (wl_gd0 rfl rfl (fun q => r_fieldAddr Fld54x2 rfl) (wl_gd0 rfl rfl (fun q => r_ldB h 3 rfl One3 (gvt q) rfl) (wl_gd0 rfl rfl (fun q => r_leq (gvt q) rfl) (wl_ok (r_pand rfl rfl evc) (wl_ok (r_assign (v := (.bool ((decide ((-1000000000 : Int) ≤ a.b) && decide ((a.b : Int) ≤ 1000000000))))) rfl) (wl_nil (inBlock_normal (then_loop ?_))))))))))))
     exact jend ((decide ((-1000000000 : Int) ≤ a.b) && decide ((a.b : Int) ≤ 1000000000)), 0, a.a, a.b, 0) ⟨h.cn _, hs⟩
    ·
     refine wc_seq (wc_region (wl_ok (r_eql rfl rfl) (wl_ok (r_assign (v := (.bool (decide ((a.op : Int) = 5)))) rfl) (wl_nil (then_normal (wc_ifb hs rfl (fun c33 hs => ?_) (fun c33 hs => ?_)))))))
     ·
      refine wc_region (wl_ok (r_fieldAddr Fld54x2 rfl) (wl_ok (r_ldB h 3 rfl One3 rfl rfl) (wl_ok (r_geq rfl rfl) (wl_ok (r_move (v := (.bool (decide ((1 : Int) ≤ a.b)))) rfl) (wl_gd0 rfl rfl (fun q => r_fieldAddr Fld54x2 rfl) (wl_gd0 rfl rfl (fun q => r_ldB h 3 rfl One3 (gvt q) rfl) (wl_gd0 rfl rfl (fun q => r_leq (gvt q) rfl) (wl_ok (r_pand rfl rfl evc) (wl_ok (r_assign (v := (.bool ((decide ((1 : Int) ≤ a.b) && decide ((a.b : Int) ≤ 4))))) rfl) (wl_nil (inBlock_normal (then_loop ?_))))))))))))
      exact jend ((decide ((1 : Int) ≤ a.b) && decide ((a.b : Int) ≤ 4)), 0, a.a, a.b, 0) ⟨h.cn _, hs⟩
     ·
      refine wc_join (σ := Bool) (inl [91, 92, 93]) (fun x34 => [(91, (.bool (x34)))]) (fun x34 w => SH w0 M BE w (hset [(1, .sr rInt va4 a.args), (2, .sr rProc vc c), (3, .blk b1 [(.int .i64 (a.op)), (.int .i64 (a.a)), (.int .i64 (a.b)), (.int .i64 (a.c)), va4]), (4, .blk b2 [(.int .i64 (d))]), (5, .blk b8 [(.int .i64 (a.op)), (.int .i64 (a.a)), (.int .i64 (a.b)), (.int .i64 (0)), (.slice none 0 0)])]) ∧ code_check_j10 a b c d e x34 = some r) ?_ ?_
      ·
       rintro x34 w junk ⟨h, hs⟩
       refine wc_ifb hs rfl (fun c35 hs => ?_) (fun c35 hs => ?_)
       ·
        refine wc_tail 5 mixed (by kernel_rfl) h fun w h => wk_ok (r_move (v := (.bool ((decide ((0 : Int) ≤ a.c) && decide ((a.c : Int) < 4))))) rfl) (wk_ok (r_fieldAddr Fld54x3 rfl) (wk_ok (r_ldB h 3 rfl One3 rfl rfl) (wk_ok (r_assign (v := (.bool ((decide ((0 : Int) ≤ a.c) && decide ((a.c : Int) < 4))))) rfl) (wk_ok (r_fieldAddr Fld54x3 rfl) (wk_go (w_st1 h 5 [(.int .i64 (a.op)), (.int .i64 (a.a)), (.int .i64 (a.b)), (.int .i64 (a.c)), (.slice none 0 0)] rfl One3 rfl rfl rfl rfl rfl fun w h => wl_nil (inBlock_normal (then_loop ?_))))))))
        exact jend ((decide ((0 : Int) ≤ a.c) && decide ((a.c : Int) < 4)), 0, a.a, a.b, a.c) ⟨h.cn _, hs⟩
       ·
        refine wc_seq (wc_region (wl_ok (r_eql rfl rfl) (wl_ok (r_assign (v := (.bool (decide ((a.op : Int) = 3)))) rfl) (wl_nil (then_normal (wc_ifb hs rfl (fun c36 hs => ?_) (fun c36 hs => ?_)))))))
        ·
         refine wc_seq (wc_tail 4 mixed (by kernel_rfl) h fun w h => wk_ok (r_fieldAddr Fld54x3 rfl) (wk_ok (r_ldB h 3 rfl One3 rfl rfl) (wk_ok (r_assign (v := (.int .i64 (1))) rfl) (wk_ok (r_fieldAddr Fld54x3 rfl) (wk_go (w_st1 h 5 [(.int .i64 (a.op)), (.int .i64 (a.a)), (.int .i64 (a.b)), (.int .i64 (a.c)), (.slice none 0 0)] rfl One3 rfl rfl rfl rfl rfl fun w h => wl_nil (then_normal (wc_region (wl_ok (r_fieldAddr Fld54x4 rfl) (wl_ok (r_ldB h 3 rfl One43 rfl rfl) (wl_ok (r_len SliceOf43 rfl (h.srS 1 rfl)) (wl_ok (r_eql rfl rfl) (wl_ok (r_move (v := (.bool (decide (((a.args.length : Int) : Int) = 1)))) rfl) (c_split (b := decide (((a.args.length : Int) : Int) = 1)) hs (fun c37 hs => ?_) (fun c37 hs => ?_)))))))))))))))
         ·
          refine wl_on rfl (congrArg Value.bool c37) (wl_ok (r_fieldAddr Fld54x4 rfl) (wl_on rfl (congrArg Value.bool c37) (wl_ok (r_ldB h 3 rfl One43 rfl rfl) (wl_on rfl (congrArg Value.bool c37) ?_))))
          obtain ⟨x38, e39, hs⟩ := o_bind hs
          obtain ⟨b41, o42, cs43, h, r44, i40⟩ := h.ixS 1 7 rfl SliceOf43 rfl (o_idx e39).1 (o_idx e39).2
          obtain rfl := r44
          refine wl_ok (i40 _ _ _ _ _ _ _ _ _ rfl rfl) (wl_on rfl (congrArg Value.bool c37) (wl_ok (r_ldP (k := 0) h 7 rfl One3 rfl rfl) (wl_on rfl (congrArg Value.bool c37) (wl_ok (r_geq rfl rfl) (wl_ok (r_pick (b := true) (v := (.bool (decide ((1 : Int) ≤ x38)))) (congrArg Value.bool c37) rfl) (wl_ok (r_move (v := (.bool (decide ((1 : Int) ≤ x38)))) rfl) (wl_gd0 rfl rfl (fun q => r_fieldAddr Fld54x4 rfl) (wl_gd0 rfl rfl (fun q => r_ldB h 3 rfl One43 (gvt q) rfl) ?_))))))))
          obtain ⟨b46, o47, cs48, h, r49, i45⟩ := h.ixS 1 8 rfl SliceOf43 rfl (o_idx e39).1 (o_idx e39).2
          obtain rfl := r49
          refine wl_gd0 rfl rfl (fun q => i45 _ _ _ _ _ _ _ _ _ (gvt q) rfl) (wl_gd0 rfl rfl (fun q => r_ldP (k := 0) h 8 rfl One3 (gvt q) rfl) (wl_gd0 rfl rfl (fun q => r_leq (gvt q) rfl) (wl_ok (r_pand rfl rfl evc) (wl_ok (r_assign (v := (.bool ((decide ((1 : Int) ≤ x38) && decide ((x38 : Int) ≤ 5))))) rfl) (wl_nil (inBlock_normal (then_loop ?_)))))))
          exact jend ((decide ((1 : Int) ≤ x38) && decide ((x38 : Int) ≤ 5)), 1, a.a, a.b, a.c) ⟨h.cn _, hs⟩
         ·
          refine wl_off (b' := false) rfl (congrArg Value.bool c37) rfl (wl_off (b' := false) rfl (congrArg Value.bool c37) rfl (wl_off (b' := false) rfl (congrArg Value.bool c37) rfl (wl_off (b' := false) rfl (congrArg Value.bool c37) rfl (wl_off (b' := false) rfl (congrArg Value.bool c37) rfl (wl_ok (r_pick (b := false) (v := (.bool (false))) (congrArg Value.bool c37) rfl) (wl_ok (r_move (v := (.bool (false))) rfl) (wl_off (b' := false) rfl rfl rfl (wl_off (b' := false) rfl rfl rfl (wl_off (b' := false) rfl rfl rfl (wl_off (b' := false) rfl rfl rfl (wl_off (b' := false) rfl rfl rfl (wl_ok (r_pick (b := false) (v := (.bool (false))) rfl rfl) (wl_ok (r_assign (v := (.bool (false))) rfl) (wl_nil (inBlock_normal (then_loop ?_))))))))))))))))
          exact jend (false, 1, a.a, a.b, a.c) ⟨h.cn _, hs⟩
        ·
         refine wc_join (σ := Bool) (inl [121, 122, 123]) (fun x50 => [(121, (.bool (x50)))]) (fun x50 w => SH w0 M BE w (hset [(1, .sr rInt va4 a.args), (2, .sr rProc vc c), (3, .blk b1 [(.int .i64 (a.op)), (.int .i64 (a.a)), (.int .i64 (a.b)), (.int .i64 (a.c)), va4]), (4, .blk b2 [(.int .i64 (d))]), (5, .blk b8 [(.int .i64 (a.op)), (.int .i64 (a.a)), (.int .i64 (a.b)), (.int .i64 (0)), (.slice none 0 0)])]) ∧ code_check_j11 a b c d e x50 = some r) ?_ ?_
         ·
          rintro x50 w junk ⟨h, hs⟩
          refine wc_ifb hs rfl (fun c51 hs => ?_) (fun c51 hs => ?_)
          ·
           refine wc_region (wl_ok (r_fieldAddr Fld54x2 rfl) (wl_ok (r_ldB h 3 rfl One3 rfl rfl) (wl_ok (r_geq rfl rfl) (wl_ok (r_move (v := (.bool (decide ((0 : Int) ≤ a.b)))) rfl) (wl_gd0 rfl rfl (fun q => r_fieldAddr Fld54x2 rfl) (wl_gd0 rfl rfl (fun q => r_ldB h 3 rfl One3 (gvt q) rfl) (wl_gd0 rfl rfl (fun q => r_move (v := (.int .i64 (e))) rfl) (wl_gd0 rfl rfl (fun q => r_lss (gvt q) (gvt q)) (wl_ok (r_pand rfl rfl evc) (wl_ok (r_assign (v := (.bool ((decide ((0 : Int) ≤ a.b) && decide ((a.b : Int) < e))))) rfl) (wl_nil (inBlock_normal (then_loop ?_)))))))))))))
           exact jend ((decide ((0 : Int) ≤ a.b) && decide ((a.b : Int) < e)), 0, a.a, a.b, 0) ⟨h.cn _, hs⟩
          ·
           refine wc_seq (wc_region (wl_ok (r_eql rfl rfl) (wl_ok (r_assign (v := (.bool (decide ((a.op : Int) = 7)))) rfl) (wl_nil (then_normal (wc_ifb hs rfl (fun c52 hs => ?_) (fun c52 hs => ?_)))))))
           ·
            refine wc_seq (wc_seq (wc_region (wl_ok (r_fieldAddr Fld54x2 rfl) (wl_ok (r_ldB h 3 rfl One3 rfl rfl) (wl_ok (r_lss rfl rfl) (wl_ok (r_move (v := (.bool (decide ((a.b : Int) < 0)))) rfl) (wl_gd0 rfl rfl (fun q => r_fieldAddr Fld54x2 rfl) (wl_gd0 rfl rfl (fun q => r_ldB h 3 rfl One3 (gvt q) rfl) (wl_gd0 rfl rfl (fun q => r_move (v := vc) rfl) (wl_gd0 rfl rfl (fun q => r_len SliceOf22 (gvt q) (h.srS 2 rfl)) (wl_gd0 rfl rfl (fun q => r_geq (gvt q) (gvt q)) (wl_ok (r_por rfl rfl evc) (wl_nil (then_normal (wc_ifb hs rfl (fun c53 hs => ?_) (fun c53 hs => ?_))))))))))))))))
            ·
             refine wc_seq (wc_region (wl_ok (r_assign (v := (.int .i64 (5))) rfl) (wl_nil (then_normal (wc_ret (then_ret (inBlock_ret (then_ret (fin1 (v := (.int .i64 (5))) Tryd.results48 rfl ?_)))))))))
             obtain rfl := Option.some.inj hs
             exact ⟨h.grown, rfl⟩
            ·
             refine wc_skip (then_normal (wc_region (wl_ok (r_move (v := vc) rfl) (wl_ok (r_fieldAddr Fld54x2 rfl) (wl_ok (r_ldB h 3 rfl One3 rfl rfl) ?_)))))
             obtain ⟨x54, e55, hs⟩ := o_bind hs
             obtain ⟨b57, o58, cs59, h, r60, i56⟩ := h.ixS 2 9 rfl SliceOf22 rfl (o_idx e55).1 (o_idx e55).2
             obtain ⟨u61, rfl, g62⟩ := rProc_open r60
             replace h := h.knowRd 10 g62.up
             refine wl_ok (i56 _ _ _ _ _ _ _ _ _ rfl rfl) (wl_ok (r_fieldAddr Fld52x0 rfl) (wl_ok (r_ldP (k := 0) h 9 rfl One3 rfl rfl) (wl_ok (r_assign (v := (.int .i64 (x54.params))) rfl) (wl_nil (inBlock_normal (then_loop ?_))))))
             exact jend ((code_uses a.op).2.2.2, x54.params, a.a, a.b, 0) ⟨h.cn _, hs⟩
           ·
            refine wc_join (σ := Bool) (inl [151, 152, 153, 154]) (fun x63 => [(151, (.bool (x63)))]) (fun x63 w => SH w0 M BE w (hset [(1, .sr rInt va4 a.args), (3, .blk b1 [(.int .i64 (a.op)), (.int .i64 (a.a)), (.int .i64 (a.b)), (.int .i64 (a.c)), va4]), (4, .blk b2 [(.int .i64 (d))]), (5, .blk b8 [(.int .i64 (a.op)), (.int .i64 (a.a)), (.int .i64 (a.b)), (.int .i64 (0)), (.slice none 0 0)])]) ∧ code_check_j12 a b c d x63 = some r) ?_ ?_
            ·
             rintro x63 w junk ⟨h, hs⟩
             refine wc_ifb hs rfl (fun c64 hs => ?_) (fun c64 hs => ?_)
             ·
              refine wc_region (wl_ok (r_fieldAddr Fld54x2 rfl) (w_st1 h 5 [(.int .i64 (a.op)), (.int .i64 (a.a)), (.int .i64 (0)), (.int .i64 (0)), (.slice none 0 0)] rfl One3 rfl rfl rfl rfl rfl fun w h => wl_nil (inBlock_normal (then_loop ?_))))
              exact jend ((code_uses a.op).2.2.2, 0, a.a, 0, 0) ⟨h.cn _, hs⟩
             ·
              refine wc_seq (wc_region (wl_ok (r_eql rfl rfl) (wl_ok (r_assign (v := (.bool (decide ((a.op : Int) = 10)))) rfl) (wl_nil (then_normal (wc_ifb hs rfl (fun c65 hs => ?_) (fun c65 hs => ?_)))))))
              ·
               refine wc_region (wl_ok (r_fieldAddr Fld54x1 rfl) (w_st1 h 5 [(.int .i64 (a.op)), (.int .i64 (0)), (.int .i64 (a.b)), (.int .i64 (0)), (.slice none 0 0)] rfl One3 rfl rfl rfl rfl rfl fun w h => wl_ok (r_fieldAddr Fld54x2 rfl) (w_st1 h 5 [(.int .i64 (a.op)), (.int .i64 (0)), (.int .i64 (0)), (.int .i64 (0)), (.slice none 0 0)] rfl One3 rfl rfl rfl rfl rfl fun w h => wl_nil (inBlock_normal (then_loop ?_)))))
               exact jend ((code_uses a.op).2.2.2, 0, 0, 0, 0) ⟨h.cn _, hs⟩
              ·
               refine wc_skip (inBlock_normal (then_loop ?_))
               exact jend ((code_uses a.op).2.2.2, 0, a.a, a.b, 0) ⟨h.cn _, hs⟩
            ·
             refine wc_seq (wc_region (wl_ok (r_eql rfl rfl) (wl_ok (r_assign (v := (.bool (decide ((a.op : Int) = 8)))) rfl) (wl_nil (then_normal (wc_ifb hs rfl (fun c66 hs => ?_) (fun c66 hs => ?_)))))))
             ·
              refine wc_skip (then_loop ?_)
              exact jend (decide ((a.op : Int) = 8)) ⟨h.cn _, hs⟩
             ·
              refine wc_seq (wc_region (wl_ok (r_eql rfl rfl) (wl_ok (r_assign (v := (.bool (decide ((a.op : Int) = 9)))) rfl) (wl_nil (then_normal (wc_ifb hs rfl (fun c67 hs => ?_) (fun c67 hs => ?_)))))))
              ·
               refine wc_skip (then_loop ?_)
               exact jend (decide ((a.op : Int) = 9)) ⟨h.cn _, hs⟩
              ·
               refine wc_region (wl_ok (r_eql rfl rfl) (wl_ok (r_assign (v := (.bool (decide ((a.op : Int) = 11)))) rfl) (wl_nil (then_loop ?_))))
               exact jend (decide ((a.op : Int) = 11)) ⟨h.cn _, hs⟩
         ·
          refine wc_seq (wc_region (wl_ok (r_eql rfl rfl) (wl_ok (r_assign (v := (.bool (decide ((a.op : Int) = 12)))) rfl) (wl_nil (then_normal (wc_ifb hs rfl (fun c68 hs => ?_) (fun c68 hs => ?_)))))))
          ·
           refine wc_skip (then_loop ?_)
           exact jend (decide ((a.op : Int) = 12)) ⟨h.cn _, hs⟩
          ·
           refine wc_region (wl_ok (r_eql rfl rfl) (wl_ok (r_assign (v := (.bool (decide ((a.op : Int) = 13)))) rfl) (wl_nil (then_loop ?_))))
           exact jend (decide ((a.op : Int) = 13)) ⟨h.cn _, hs⟩
      ·
       refine wc_seq (wc_region (wl_ok (r_eql rfl rfl) (wl_ok (r_assign (v := (.bool (decide ((a.op : Int) = 4)))) rfl) (wl_nil (then_normal (wc_ifb hs rfl (fun c69 hs => ?_) (fun c69 hs => ?_)))))))
       ·
        refine wc_skip (then_loop ?_)
        exact jend (decide ((a.op : Int) = 4)) ⟨h.cn _, hs⟩
       ·
        refine wc_region (wl_ok (r_eql rfl rfl) (wl_ok (r_assign (v := (.bool (decide ((a.op : Int) = 6)))) rfl) (wl_nil (then_loop ?_))))
        exact jend (decide ((a.op : Int) = 6)) ⟨h.cn _, hs⟩
def code_Check_b35 (a : List Proc) (x21 : Proc) (i35 : Int) (x36 : Ins) (s : Unit) (nx38 : Unit → Option Int) : Option Int :=
  (code_check x36 i35 a x21.regs (x21.code.length : Int)).bind fun y49 => bif decide ((y49 : Int) ≠ 0) then some y49 else nx38 ()
def code_Check_k36 (x21 : Proc) (nx23 : Unit → Option Int) (s : Unit) : Option Int :=
  grd (I64 ((x21.code.length : Int) - 1)) ((idx x21.code ((x21.code.length : Int) - 1)).bind fun x54 => bif (decide ((x54.op : Int) ≠ 8) && decide ((x54.op : Int) ≠ 12)) then some 4 else nx23 ())
def code_Check_b37 (a : List Proc) (x21 : Proc) (s : Unit) (nx23 : Unit → Option Int) : Option Int :=
  eachI (code_Check_b35 a x21) (code_Check_k36 x21 nx23) 0 x21.code ()
def code_Check_k38 (s : Unit) : Option Int :=
  some 0
def code_Check_b39 (i3 : Int) (x4 : Proc) (s : Unit) (nx6 : Unit → Option Int) : Option Int :=
  bif (((((decide ((x4.params : Int) < 0) || decide ((3 : Int) < x4.params)) || decide ((x4.regs : Int) < 1)) || decide ((x4.regs : Int) < x4.params)) || decide ((40 : Int) < x4.regs)) || (decide ((i3 : Int) = 0) && decide ((0 : Int) < x4.params))) then some 3 else bif (decide (((x4.code.length : Int) : Int) = 0) || decide ((2000 : Int) < (x4.code.length : Int))) then some 2 else nx6 ()
def code_Check_k40 (a : List Proc) (s : Unit) : Option Int :=
  each (code_Check_b37 a) code_Check_k38 a ()
def code_Check (a : List Proc) : Option Int :=
  bif (decide (((a.length : Int) : Int) = 0) || decide ((4 : Int) < (a.length : Int))) then some 2 else eachI code_Check_b39 (code_Check_k40 a) 0 a ()
theorem code_Check_c (w0 : World) (M : BS) (hM : ∀ b, M b → b < w0.heap.size) (va : Value) (a : List Proc) (ha : Rd2 rProc w0 BE M va a) (r : Int) (hs : code_Check a = some r) :
    Calls Tryd.prog 18 #[va] w0 (fun e w' => Grow w0 w' ∧ e = .returned (.int .i64 r)) := by
 refine calls_start (args := [va]) Tryd.func18 rfl Tryd.ntmps18 (Nat.le_of_ble_eq_true rfl) ?_
 have h := SH.init hM
 replace h := h.argSr 1 ha none_own
 have hl_a := ha.len_le
 refine wc_seq (wc_region (wl_ok (r_assign (v := (.int .i64 (0))) rfl) (wl_nil (then_normal (wc_seq (wc_seq (wc_region (wl_ok (r_move (v := va) rfl) (wl_ok (r_len SliceOf22 rfl (h.srS 1 rfl)) (wl_ok (r_eql rfl rfl) (wl_ok (r_move (v := (.bool (decide (((a.length : Int) : Int) = 0)))) rfl) (wl_gd0 rfl rfl (fun q => r_move (v := va) rfl) (wl_gd0 rfl rfl (fun q => r_len SliceOf22 (gvt q) (h.srS 1 rfl)) (wl_gd0 rfl rfl (fun q => r_gtr (gvt q) rfl) (wl_ok (r_por rfl rfl evc) (wl_nil (then_normal (wc_ifb hs rfl (fun c1 hs => ?_) (fun c1 hs => ?_)))))))))))))))))))
 ·
  refine wc_seq (wc_region (wl_ok (r_assign (v := (.int .i64 (2))) rfl) (wl_nil (then_normal (wc_ret (then_ret (fin1 (v := (.int .i64 (2))) Tryd.results18 rfl ?_)))))))
  obtain rfl := Option.some.inj hs
  exact ⟨h.grown, rfl⟩
 ·
  refine wc_skip (then_normal (wc_seq (wc_seq (wc_region (wl_ok (r_move (v := va) rfl) (wl_ok (r_len SliceOf22 rfl (h.srS 1 rfl)) (wl_ok (r_move (v := (.int .i64 (0))) rfl) (wl_nil (then_normal (wc_block (wc_lp (σ := Nat × Int) (inl [2, 3, 4, 21, 22, 23, 24, 25, 26, 27, 28, 29, 30, 31, 32, 33, 34, 35, 36, 37, 38, 39, 40, 41, 42, 43, 44, 45, 46, 47, 48, 49, 50, 51, 52, 53, 54, 55, 56, 57, 58, 59, 60, 61, 62, 63, 64, 65, 66, 67, 68, 69, 70]) (fun ⟨k2, i3⟩ => [(21, (.int .i64 (i3)))]) (fun ⟨k2, i3⟩ w => SH w0 M BE w (hset [(1, .sr rProc va a)]) ∧ i3 = (k2 : Int) ∧ eachI code_Check_b39 (code_Check_k40 a) i3 (a.drop k2) () = some r) (fun ⟨k2, i3⟩ => a.length - k2) ⟨0, 0⟩ ⟨rfl, trivial⟩ ?_ ?_)))))))))))
  ·
   exact ⟨h.cn _, rfl, hs⟩
  ·
   rintro ⟨k2, i3⟩ w junk ⟨h, hik, hs⟩
   refine wc_seq (wc_region ?_)
   refine wl_ok (r_lss rfl rfl) (wl_nil (then_normal ?_))
   refine wc_seq (wc_if rfl (fun e7 => ?_) (fun e7 => ?_))
   ·
    refine wc_skip (then_normal ?_)
    obtain ⟨x4, e8a, e8b⟩ := drop_lt (hik ▸ e7)
    rw [e8b, eachI_cons] at hs
    generalize hnx6 : eachI code_Check_b39 (code_Check_k40 a) (i3 + 1) (a.drop (k2 + 1)) = nx6 at hs
    have e8r := nat_rng ((h.srS 1 rfl)).len_le hik e7
    refine wc_seq (wc_block (wc_seq (wc_region (wl_ok (r_move (v := (.int .i64 (i3))) rfl) ?_))))
    obtain ⟨b10, o11, cs12, h, r13, i9⟩ := h.ixS 1 2 rfl SliceOf22 rfl (nat_nn hik) (get_nat hik e8a)
    obtain ⟨u14, rfl, g15⟩ := rProc_open r13
    replace h := h.knowRd 3 g15.up
    refine wl_ok (i9 _ _ _ _ _ _ _ _ _ rfl rfl) (wl_ok (r_ldPN (k := 0) (vs := [(.int .i64 (x4.params)), (.int .i64 (x4.regs)), u14]) h 2 rfl Many52 rfl rfl rfl (Nat.le_of_ble_eq_true rfl)) (w_allocN h 4 Many52 fun w b16 h => wl_ok (r_assign (v := (.int .i64 (i3))) rfl) (w_stN (vs := [(.int .i64 (x4.params)), (.int .i64 (x4.regs)), u14]) h 4 [(.int .i64 (x4.params)), (.int .i64 (x4.regs)), u14] rfl Many52 rfl rfl rfl rfl rfl (ones_cons rfl (ones_cons rfl (ones_cons (h.rdAt 3 rfl).one ones_nil))) fun w h => wl_nil (then_normal (wc_seq (wc_seq (wc_region (wl_ok (r_fieldAddr Fld52x0 rfl) (wl_ok (r_ldB h 4 rfl One3 rfl rfl) (wl_ok (r_lss rfl rfl) (wl_ok (r_move (v := (.bool (decide ((x4.params : Int) < 0)))) rfl) (wl_gd0 rfl rfl (fun q => r_fieldAddr Fld52x0 rfl) (wl_gd0 rfl rfl (fun q => r_ldB h 4 rfl One3 (gvt q) rfl) (wl_gd0 rfl rfl (fun q => r_gtr (gvt q) rfl) (wl_ok (r_por rfl rfl evc) (wl_ok (r_move (v := (.bool ((decide ((x4.params : Int) < 0) || decide ((3 : Int) < x4.params))))) rfl) (wl_gd0 rfl rfl (fun q => r_fieldAddr Fld52x1 rfl) (wl_gd0 rfl rfl (fun q => r_ldB h 4 rfl One3 (gvt q) rfl) (wl_gd0 rfl rfl (fun q => r_lss (gvt q) rfl) (wl_ok (r_por rfl rfl evc) (wl_ok (r_move (v := (.bool (((decide ((x4.params : Int) < 0) || decide ((3 : Int) < x4.params)) || decide ((x4.regs : Int) < 1))))) rfl) ?_)))))))))))))))))))))
    refine wl_gd0 rfl rfl (fun q => r_fieldAddr Fld52x1 rfl) (wl_gd0 rfl rfl (fun q => r_ldB h 4 rfl One3 (gvt q) rfl) (wl_gd0 rfl rfl (fun q => r_fieldAddr Fld52x0 rfl) (wl_gd0 rfl rfl (fun q => r_ldB h 4 rfl One3 (gvt q) rfl) (wl_gd0 rfl rfl (fun q => r_lss (gvt q) (gvt q)) (wl_ok (r_por rfl rfl evc) (wl_ok (r_move (v := (.bool ((((decide ((x4.params : Int) < 0) || decide ((3 : Int) < x4.params)) || decide ((x4.regs : Int) < 1)) || decide ((x4.regs : Int) < x4.params))))) rfl) (wl_gd0 rfl rfl (fun q => r_fieldAddr Fld52x1 rfl) (wl_gd0 rfl rfl (fun q => r_ldB h 4 rfl One3 (gvt q) rfl) (wl_gd0 rfl rfl (fun q => r_gtr (gvt q) rfl) (wl_ok (r_por rfl rfl evc) (wl_ok (r_move (v := (.bool (((((decide ((x4.params : Int) < 0) || decide ((3 : Int) < x4.params)) || decide ((x4.regs : Int) < 1)) || decide ((x4.regs : Int) < x4.params)) || decide ((40 : Int) < x4.regs))))) rfl) (wl_gd0 rfl rfl (fun q => r_move (v := (.int .i64 (i3))) rfl) (wl_gd0 rfl rfl (fun q => r_eql (gvt q) rfl) (wl_gd0 rfl rfl (fun q => r_move (v := (.bool (decide ((i3 : Int) = 0)))) (gvt q)) (wl_gd (((((decide ((x4.params : Int) < 0) || decide ((3 : Int) < x4.params)) || decide ((x4.regs : Int) < 1)) || decide ((x4.regs : Int) < x4.params)) || decide ((40 : Int) < x4.regs)) == false) rfl rfl (fun q => r_fieldAddr Fld52x0 rfl) (wl_gd (((((decide ((x4.params : Int) < 0) || decide ((3 : Int) < x4.params)) || decide ((x4.regs : Int) < 1)) || decide ((x4.regs : Int) < x4.params)) || decide ((40 : Int) < x4.regs)) == false) rfl rfl (fun q => r_ldB h 4 rfl One3 (gvt q) rfl) (wl_gd (((((decide ((x4.params : Int) < 0) || decide ((3 : Int) < x4.params)) || decide ((x4.regs : Int) < 1)) || decide ((x4.regs : Int) < x4.params)) || decide ((40 : Int) < x4.regs)) == false) rfl rfl (fun q => r_gtr (gvt q) rfl) (wl_gd0 rfl rfl (fun q => r_pand (gvt q) (gvn q) evc) (wl_ok (r_por rfl rfl evc) (wl_nil (then_normal (wc_ifb hs rfl (fun c17 hs => ?_) (fun c17 hs => ?_)))))))))))))))))))))))
    ·
     refine wc_seq (wc_region (wl_ok (r_assign (v := (.int .i64 (3))) rfl) (wl_nil (then_normal (wc_ret (then_ret (inBlock_ret (then_ret (then_ret (inBlock_ret (then_ret (fin1 (v := (.int .i64 (3))) Tryd.results18 rfl ?_))))))))))))
     obtain rfl := Option.some.inj hs
     exact ⟨h.grown, rfl⟩
    ·
     refine wc_skip (then_normal (wc_seq (wc_region (wl_ok (r_fieldAddr Fld52x2 rfl) (wl_ok (r_ldB h 4 rfl One50 rfl rfl) (wl_ok (r_len SliceOf50 rfl (h.rdS 3 rfl)) (wl_ok (r_eql rfl rfl) (wl_ok (r_move (v := (.bool (decide (((x4.code.length : Int) : Int) = 0)))) rfl) (wl_gd0 rfl rfl (fun q => r_fieldAddr Fld52x2 rfl) (wl_gd0 rfl rfl (fun q => r_ldB h 4 rfl One50 (gvt q) rfl) (wl_gd0 rfl rfl (fun q => r_len SliceOf50 (gvt q) (h.rdS 3 rfl)) (wl_gd0 rfl rfl (fun q => r_gtr (gvt q) rfl) (wl_ok (r_por rfl rfl evc) (wl_nil (then_normal (wc_ifb hs rfl (fun c18 hs => ?_) (fun c18 hs => ?_)))))))))))))))))
     ·
      refine wc_seq (wc_region (wl_ok (r_assign (v := (.int .i64 (2))) rfl) (wl_nil (then_normal (wc_ret (inBlock_ret (then_ret (then_ret (inBlock_ret (then_ret (fin1 (v := (.int .i64 (2))) Tryd.results18 rfl ?_)))))))))))
      obtain rfl := Option.some.inj hs
      exact ⟨h.grown, rfl⟩
     ·
      refine wc_skip (inBlock_normal (then_normal (wc_region (wl_ok (r_add rfl rfl e8r) (wl_ok (r_move (v := (.int .i64 ((i3 + 1)))) rfl) (wl_nil (then_loop ?_)))))))
      subst hnx6
      exact lend ⟨k2 + 1, i3 + 1⟩ ⟨h.cn _, by omega, hs⟩ (by have := of_decide_eq_true e7; dsimp only; omega)
   ·
    rw [drop_ge (hik ▸ e7), eachI_nil] at hs
    refine wc_exit (then_exit (then_exit (inBlock_eq (then_normal (wc_seq (wc_seq (wc_region (wl_ok (r_move (v := va) rfl) (wl_ok (r_len SliceOf22 rfl (h.srS 1 rfl)) (wl_ok (r_move (v := (.int .i64 (0))) rfl) (wl_nil (then_normal (wc_block (wc_lp (σ := Nat × Int) (inl [2, 6, 7, 8, 9, 10, 73, 74, 75, 76, 77, 78, 79, 80, 81, 82, 83, 84, 85, 86, 87, 88, 89, 90, 91, 92, 93, 94, 95, 96, 97, 98, 99, 100, 101, 102, 103, 104, 105, 106, 107, 108, 109, 110, 111, 112, 113]) (fun ⟨k19, i20⟩ => [(73, (.int .i64 (i20)))]) (fun ⟨k19, i20⟩ w => SH w0 M BE w (hset [(1, .sr rProc va a)]) ∧ i20 = (k19 : Int) ∧ each (code_Check_b37 a) code_Check_k38 (a.drop k19) () = some r) (fun ⟨k19, i20⟩ => a.length - k19) ⟨0, 0⟩ ⟨rfl, trivial⟩ ?_ ?_))))))))))))))
    ·
     exact ⟨h.cn _, rfl, hs⟩
    ·
     rintro ⟨k19, i20⟩ w junk ⟨h, hik, hs⟩
     refine wc_seq (wc_region ?_)
     refine wl_ok (r_lss rfl rfl) (wl_nil (then_normal ?_))
     refine wc_seq (wc_if rfl (fun e24 => ?_) (fun e24 => ?_))
     ·
      refine wc_skip (then_normal ?_)
      obtain ⟨x21, e25a, e25b⟩ := drop_lt (hik ▸ e24)
      rw [e25b, each_cons] at hs
      generalize hnx23 : each (code_Check_b37 a) code_Check_k38 (a.drop (k19 + 1)) = nx23 at hs
      have e25r := nat_rng ((h.srS 1 rfl)).len_le hik e24
      refine wc_seq (wc_block (wc_seq (wc_region ?_)))
      obtain ⟨b27, o28, cs29, h, r30, i26⟩ := h.ixS 1 5 rfl SliceOf22 rfl (nat_nn hik) (get_nat hik e25a)
      obtain ⟨u31, rfl, g32⟩ := rProc_open r30
      replace h := h.knowRd 6 g32.up
      refine wl_ok (i26 _ _ _ _ _ _ _ _ _ rfl rfl) (wl_ok (r_ldPN (k := 0) (vs := [(.int .i64 (x21.params)), (.int .i64 (x21.regs)), u31]) h 5 rfl Many52 rfl rfl rfl (Nat.le_of_ble_eq_true rfl)) (w_allocN h 7 Many52 fun w b33 h => w_stN (vs := [(.int .i64 (x21.params)), (.int .i64 (x21.regs)), u31]) h 7 [(.int .i64 (x21.params)), (.int .i64 (x21.regs)), u31] rfl Many52 rfl rfl rfl rfl rfl (ones_cons rfl (ones_cons rfl (ones_cons (h.rdAt 6 rfl).one ones_nil))) fun w h => wl_nil (then_normal (wc_seq (wc_seq (wc_region (wl_ok (r_fieldAddr Fld52x2 rfl) (wl_ok (r_ldB h 7 rfl One50 rfl rfl) (wl_ok (r_len SliceOf50 rfl (h.rdS 6 rfl)) (wl_ok (r_move (v := (.int .i64 (0))) rfl) (wl_nil (then_normal (wc_block (wc_lp (σ := Nat × Int) (inl [2, 7, 8, 9, 80, 81, 82, 83, 84, 85, 86, 87, 88, 89, 90, 91, 92, 93, 94, 95, 96, 97]) (fun ⟨k34, i35⟩ => [(80, (.int .i64 (i35)))]) (fun ⟨k34, i35⟩ w => SH w0 M BE w (hset [(1, .sr rProc va a), (6, .rd rIns u31 x21.code), (7, .blk b33 [(.int .i64 (x21.params)), (.int .i64 (x21.regs)), u31])]) ∧ i35 = (k34 : Int) ∧ eachI (code_Check_b35 a x21) (code_Check_k36 x21 nx23) i35 (x21.code.drop k34) () = some r) (fun ⟨k34, i35⟩ => x21.code.length - k34) ⟨0, 0⟩ ⟨rfl, trivial⟩ ?_ ?_))))))))))))))
      ·
       exact ⟨h.cn _, rfl, hs⟩
      ·
       rintro ⟨k34, i35⟩ w junk ⟨h, hik, hs⟩
       refine wc_seq (wc_region ?_)
       refine wl_ok (r_lss rfl rfl) (wl_nil (then_normal ?_))
       refine wc_seq (wc_if rfl (fun e39 => ?_) (fun e39 => ?_))
       ·
        refine wc_skip (then_normal ?_)
        obtain ⟨x36, e40a, e40b⟩ := drop_lt (hik ▸ e39)
        rw [e40b, eachI_cons] at hs
        generalize hnx38 : eachI (code_Check_b35 a x21) (code_Check_k36 x21 nx23) (i35 + 1) (x21.code.drop (k34 + 1)) = nx38 at hs
        have e40r := nat_rng ((h.rdS 6 rfl)).len_le hik e39
        refine wc_seq (wc_block (wc_seq (wc_region (wl_ok (r_move (v := (.int .i64 (i35))) rfl) ?_))))
        obtain ⟨b42, o43, cs44, h, r45, i41⟩ := h.ixR 6 8 rfl SliceOf50 rfl (nat_nn hik) (get_nat hik e40a)
        obtain ⟨u46, rfl, g47⟩ := rIns_open r45
        replace h := h.knowRd 9 g47.up
        refine wl_ok (i41 _ _ _ _ _ _ _ _ _ rfl rfl) (wl_ok (r_ldPN (k := 0) (vs := [(.int .i64 (x36.op)), (.int .i64 (x36.a)), (.int .i64 (x36.b)), (.int .i64 (x36.c)), u46]) h 8 rfl Many54 rfl rfl rfl (Nat.le_of_ble_eq_true rfl)) (w_allocN h 10 Many54 fun w b48 h => wl_ok (r_assign (v := (.int .i64 (i35))) rfl) (w_stN (vs := [(.int .i64 (x36.op)), (.int .i64 (x36.a)), (.int .i64 (x36.b)), (.int .i64 (x36.c)), u46]) h 10 [(.int .i64 (x36.op)), (.int .i64 (x36.a)), (.int .i64 (x36.b)), (.int .i64 (x36.c)), u46] rfl Many54 rfl rfl rfl rfl rfl (ones_cons rfl (ones_cons rfl (ones_cons rfl (ones_cons rfl (ones_cons (h.rdAt 9 rfl).one ones_nil))))) fun w h => wl_nil (then_normal (wc_seq (wc_region (wl_ok (r_ldBN (vs := [(.int .i64 (x36.op)), (.int .i64 (x36.a)), (.int .i64 (x36.b)), (.int .i64 (x36.c)), u46]) h 10 rfl Many54 rfl rfl rfl) (wl_ok (r_move (v := (.int .i64 (i35))) rfl) (wl_ok (r_move (v := va) rfl) (wl_ok (r_fieldAddr Fld52x1 rfl) (wl_ok (r_ldB h 7 rfl One3 rfl rfl) (wl_ok (r_fieldAddr Fld52x2 rfl) (wl_ok (r_ldB h 7 rfl One50 rfl rfl) (wl_ok (r_len SliceOf50 rfl (h.rdS 6 rfl)) ?_))))))))))))))
        obtain ⟨y49, e50, hs⟩ := o_bind hs
        refine w_call fnOk48 rfl rfl (code_check_c _ _ h.lt x36 u46 (h.rdS 9 rfl) i35 va a (h.srS 1 rfl) x21.regs (x21.code.length : Int) _ e50) ?_
        rintro _ w ⟨k51, rfl⟩
        refine ⟨_, rfl, ?_⟩
        replace h := h.grow k51
        refine wl_ok (r_assign (v := (.int .i64 (y49))) rfl) (wl_nil (then_normal (wc_seq (wc_region (wl_ok (r_move (v := (.int .i64 (y49))) rfl) (wl_ok (r_neq rfl rfl) (wl_nil (then_normal (wc_ifb hs rfl (fun c52 hs => ?_) (fun c52 hs => ?_))))))))))
        ·
         refine wc_seq (wc_region (wl_ok (r_move (v := (.int .i64 (y49))) rfl) (wl_ok (r_assign (v := (.int .i64 (y49))) rfl) (wl_nil (then_normal (wc_ret (inBlock_ret (then_ret (then_ret (inBlock_ret (then_ret (inBlock_ret (then_ret (then_ret (inBlock_ret (then_ret (fin1 (v := (.int .i64 (y49))) Tryd.results18 rfl ?_)))))))))))))))))
         obtain rfl := Option.some.inj hs
         exact ⟨h.grown, rfl⟩
        ·
         refine wc_skip (inBlock_normal (then_normal (wc_region (wl_ok (r_add rfl rfl e40r) (wl_ok (r_move (v := (.int .i64 ((i35 + 1)))) rfl) (wl_nil (then_loop ?_)))))))
         subst hnx38
         exact lend ⟨k34 + 1, i35 + 1⟩ ⟨h.cn _, by omega, hs⟩ (by have := of_decide_eq_true e39; dsimp only; omega)
       ·
        rw [drop_ge (hik ▸ e39), eachI_nil] at hs
        refine wc_exit (then_exit (then_exit (inBlock_eq (then_normal (wc_seq (wc_region (wl_ok (r_fieldAddr Fld52x2 rfl) (wl_ok (r_ldB h 7 rfl One50 rfl rfl) (wl_ok (r_fieldAddr Fld52x2 rfl) (wl_ok (r_ldB h 7 rfl One50 rfl rfl) (wl_ok (r_len SliceOf50 rfl (h.rdS 6 rfl)) ?_)))))))))))
        obtain ⟨a53, hs⟩ := o_grd hs
        refine wl_ok (r_sub rfl rfl a53) ?_
        obtain ⟨x54, e55, hs⟩ := o_bind hs
        obtain ⟨b57, o58, cs59, h, r60, i56⟩ := h.ixR 6 11 rfl SliceOf50 rfl (o_idx e55).1 (o_idx e55).2
        obtain ⟨u61, rfl, g62⟩ := rIns_open r60
        replace h := h.knowRd 12 g62.up
        refine wl_ok (i56 _ _ _ _ _ _ _ _ _ rfl rfl) (wl_ok (r_fieldAddr Fld54x0 rfl) (wl_ok (r_ldP (k := 0) h 11 rfl One3 rfl rfl) (wl_ok (r_assign (v := (.int .i64 (x54.op))) rfl) (wl_nil (then_normal (wc_seq (wc_region (wl_ok (r_move (v := (.int .i64 (x54.op))) rfl) (wl_ok (r_neq rfl rfl) (wl_ok (r_move (v := (.bool (decide ((x54.op : Int) ≠ 8)))) rfl) (wl_gd0 rfl rfl (fun q => r_move (v := (.int .i64 (x54.op))) rfl) (wl_gd0 rfl rfl (fun q => r_neq (gvt q) rfl) (wl_ok (r_pand rfl rfl evc) (wl_nil (then_normal (wc_ifb hs rfl (fun c63 hs => ?_) (fun c63 hs => ?_)))))))))))))))))
        ·
         refine wc_seq (wc_region (wl_ok (r_assign (v := (.int .i64 (4))) rfl) (wl_nil (then_normal (wc_ret (inBlock_ret (then_ret (then_ret (inBlock_ret (then_ret (fin1 (v := (.int .i64 (4))) Tryd.results18 rfl ?_)))))))))))
         obtain rfl := Option.some.inj hs
         exact ⟨h.grown, rfl⟩
        ·
         refine wc_skip (inBlock_normal (then_normal (wc_region (wl_ok (r_add rfl rfl e25r) (wl_ok (r_move (v := (.int .i64 ((i20 + 1)))) rfl) (wl_nil (then_loop ?_)))))))
         subst hnx23
         exact lend ⟨k19 + 1, i20 + 1⟩ ⟨h.cn _, by omega, hs⟩ (by have := of_decide_eq_true e24; dsimp only; omega)
     ·
      rw [drop_ge (hik ▸ e24), each_nil] at hs
      refine wc_exit (then_exit (then_exit (inBlock_eq (then_normal (wc_seq (wc_region (wl_ok (r_assign (v := (.int .i64 (0))) rfl) (wl_nil (then_normal (wc_ret (fin1 (v := (.int .i64 (0))) Tryd.results18 rfl ?_)))))))))))
      obtain rfl := Option.some.inj hs
      exact ⟨h.grown, rfl⟩
set_option maxHeartbeats 1000000 in
set_option maxRecDepth 100000 in
theorem bld_cc {b : Nat} {v : Value} {l : Str} {w : World} {A : BS} (h : BldP 42 5 b v l w A) :
    Calls Tryd.prog 49 #[.pointer (some ⟨b, 0, none⟩)] w fun e w' => e = .returned (.tuple #[]) ∧ w'.heap[b]? = some (.cells #[.pointer (some ⟨b, 0, none⟩), v] 42 (0, 0)) ∧ OwnSl rByte 5 w' (fun x => A x ∨ x = b) v l ∧ Keep (fun x => x = b) w w' := by
  obtain ⟨p, h1, hp⟩ := h.1
  obtain ⟨j, hj, hjs⟩ : ∃ j, Tryd.prog.info? 42 = some j ∧ j.size = 2 := Option.map_eq_some_iff.1 (show (Tryd.prog.info? 42).map (·.size) = some 2 by kernel_rfl)
  rcases hp with rfl | rfl
  · have h0 : w.cell? ⟨b, 0, none⟩ = some (.pointer none) := by rw [Lib.cell_of_heap h1]; rfl
    have hsh : w.shape? b = some (42, 2) := by simp [World.shape?, h1]
    have hfz := Lib.frozen_of_heap h1 0
    have key : Calls Tryd.prog 49 #[.pointer (some ⟨b, 0, none⟩)] w fun e w' => e = .returned (.tuple #[]) ∧ w' = w.setCell ⟨b, 0, none⟩ (.pointer (some ⟨b, 0, none⟩)) := by
      go_enter Tryd.func49, Tryd.ntmps49
      go_wp2
      rw [Lib.run_to_unsafe w ⟨b, 0, none⟩ Tryd.underlying39 Tryd.underlying117 hj (by rw [hjs]; decide) hsh (Nat.zero_lt_succ 1)]
      simp only [Result.andThen]
      rw [Oper.upon_value]
      go_wp2
      rw [run_callFunc_extern Tryd.func70 (by kernel_rfl) (by kernel_rfl) (by kernel_rfl) (e := Extern.AbiNoEscape.same) (by kernel_rfl)]
      rw [Lib.run_noEscape]
      simp only [Result.andThen]
      rw [Oper.upon_value]
      go_wp2
      rw [Lib.run_from_unsafe w ⟨b, 0, none⟩ Tryd.underlying117 Tryd.underlying39 hj hsh (by kernel_rfl)]
      simp only [Result.andThen]
      rw [Oper.upon_value]
      go_wp2
      go_end0
      exact ⟨rfl, rfl⟩
    refine key.mono ?_
    rintro e w' ⟨rfl, rfl⟩
    exact ⟨rfl, h.used⟩
  · have h0 : w.cell? ⟨b, 0, none⟩ = some (.pointer (some ⟨b, 0, none⟩)) := by rw [Lib.cell_of_heap h1]; rfl
    have key : Calls Tryd.prog 49 #[.pointer (some ⟨b, 0, none⟩)] w fun e w' => e = .returned (.tuple #[]) ∧ w' = w := by
      go_enter Tryd.func49, Tryd.ntmps49
      go_wp2
      rw [Lib.run_neq_ptr_same w _ Tryd.underlying39 hj]
      go_wp2
      go_end0
      exact ⟨rfl, rfl⟩
    refine key.mono ?_
    rintro e w' ⟨rfl, rfl⟩
    exact ⟨rfl, h1, h.2.2, Keep.refl _ _⟩
set_option maxHeartbeats 1000000 in
set_option maxRecDepth 100000 in
theorem bld_w {b : Nat} {v : Value} {l s : Str} {w : World} {A : BS} (h : BldP 42 5 b v l w A) (hlen : l.length + s.length ≤ 140737488355328) :
    Calls Tryd.prog 20 #[.pointer (some ⟨b, 0, none⟩), strV s] w fun e w' => e = .returned (.tuple #[.int .i64 s.length, .nilIface]) ∧ ∃ v', BldP 42 5 b v' (l ++ s) w' A ∧ Keep (fun x => x = b ∨ ob v x) w w' ∧ (∀ x, ob v' x → x < w.heap.size → ob v x) := by
  obtain ⟨i0, hi, hz0, hz1, hz2⟩ := info_parts (show (Tryd.prog.info? 5).map (fun i => (i.zero, i.size, i.bytes)) = some (some (.int .u8 0), 1, 1) by kernel_rfl)
  show Calls Tryd.prog 20 #[.pointer (some ⟨b, 0, none⟩), .string ⟨s.toArray⟩] w _
  go_enter Tryd.func20, Tryd.ntmps20
  go_wp2_with (go_at_call 49; refine (bld_cc h).mono ?_)
  rintro e w1 ⟨rfl, hbk, hown, hk1⟩
  have hne := h.2.1
  have c0 : w1.cell? ⟨b, 0, none⟩ = some (.pointer (some ⟨b, 0, none⟩)) := by rw [Lib.cell_of_heap hbk]; rfl
  have c1 : w1.cell? ⟨b, 1, none⟩ = some v := by rw [Lib.cell_of_heap hbk]; rfl
  go_wp2_with (at_builtin; refine wpList_appS rfl _ _ 40 9 5 i0 rfl Tryd.underlying40 Tryd.underlying9 hi Tryd.underlying5 hz0 hz1 hz2 rfl hown rfl hlen ?_)
  intro v' w2 hown' hk2 hnew
  have hb2 : w2.heap[b]? = some (.cells #[.pointer (some ⟨b, 0, none⟩), v] 42 (0, 0)) := hk2.blk hbk hne
  have d0 : w2.cell? ⟨b, 0, none⟩ = some (.pointer (some ⟨b, 0, none⟩)) := by rw [Lib.cell_of_heap hb2]; rfl
  have d1 : w2.cell? ⟨b, 1, none⟩ = some v := by rw [Lib.cell_of_heap hb2]; rfl
  have f1 : w2.frozen? ⟨b, 1, none⟩ = false := Lib.frozen_of_heap hb2 1
  have hv1 : v'.oneCell' = true := hown'.one
  have hne' : ¬ ob v' b := fun hx => hne (hnew b hx (lt_of_blk hbk))
  obtain ⟨ao, n', cap, rfl⟩ : ∃ ao n' cap, v' = .slice ao n' cap := by
    obtain ⟨xs, h1, _⟩ := hown'
    rcases h1.2 with ⟨hv, _⟩ | ⟨g, cap, cur, hv, _⟩
    · exact ⟨_, _, _, hv⟩
    · exact ⟨_, _, _, hv⟩
  go_wp2
  go_ret2
  have hk3 : Keep (fun x => x = b) w2 (w2.setCell ⟨b, 1, none⟩ (.slice ao n' cap)) := ⟨rfl, rfl, rfl, by simp [World.setCell], fun k hk _ => Go.RowKit.Below.heap_setCell _ _ _ _ (fun e => hk (by simp [e]))⟩
  refine ⟨by simp, _, ⟨⟨_, by simp [World.setCell, Array.getElem?_modify, hb2], .inr rfl⟩, hne', hown'.go hk3 (fun x hx _ => .inr hx) (fun x hx ho => by subst hx; exact hne' ho) (fun x hx _ => .inl hx)⟩, ?_, fun x hx hl => hnew x hx (Nat.lt_of_lt_of_le hl hk1.size)⟩
  exact ((hk1.weaken (fun x hx _ => .inl hx)).step hk2 (fun x hx _ => .inr hx)).step hk3 (fun x hx _ => .inl hx)
theorem strconv_Itoa_c (w0 : World) (M : BS) (hM : ∀ b, M b → b < w0.heap.size) (hT : Tabs Tryd.prog 0 w0) (a : Int) (r : Str) (hs : itoaS a = some r) :
    Calls Tryd.prog 21 #[.int .i64 a] w0 (fun e w' => Grow w0 w' ∧ e = .returned (strV r)) :=
  itoa_w Tryd.strconv_Itoa hT hs
theorem bld_s {b : Nat} {v : Value} {l : Str} {w0 w : World} {M : BS} {hp : Nat → Chunk} (h : SH w0 M BE w hp) (i : Nat) (hi : hp i = .pce (bldS 42 5 b v l)) :
    Calls Tryd.prog 22 #[.pointer (some ⟨b, 0, none⟩)] w fun e w' => e = .returned (strV l) ∧ SH w0 M BE w' hno := bld_string Tryd.lays169 Tryd.Builder_Extra_169 h i hi
def image_Print_j1462 (x45 : Int) (nx42 : Str → Option (Str × Int)) (y54 : Str) : Option (Str × Int) :=
  (itoaS x45).bind fun y55 => grd (y54.length + y55.length ≤ 140737488355328) (nx42 (y54 ++ y55))
def image_Print_j1556 (x109 : Int) (nx106 : Str → Option (Str × Int)) (y118 : Str) : Option (Str × Int) :=
  (itoaS x109).bind fun y119 => grd (y118.length + y119.length ≤ 140737488355328) (nx106 (y118 ++ y119))
def image_Print_b1557 (x78 : Ins) (a : List Proc) (i103 : Int) (y101 : Str) (nx106 : Str → Option (Str × Int)) : Option (Str × Int) :=
  (idx ([x78.op, x78.a, x78.b, x78.c] ++ x78.args) i103).bind fun x109 => bif decide ((0 : Int) < i103) then grd (y101.length + [32].length ≤ 140737488355328) (image_Print_j1556 x109 nx106 (y101 ++ [32])) else image_Print_j1556 x109 nx106 y101
def image_Print_k1558 (nx80 : Str → Option (Str × Int)) (y101 : Str) : Option (Str × Int) :=
  grd (y101.length + [10].length ≤ 140737488355328) (nx80 (y101 ++ [10]))
def image_Print_b1559 (a : List Proc) (x78 : Ins) (y75 : Str) (nx80 : Str → Option (Str × Int)) : Option (Str × Int) :=
  grd (Room 8 [x78.op, x78.a, x78.b, x78.c] x78.args) (upto (image_Print_b1557 x78 a) (image_Print_k1558 nx80) 0 ((([x78.op, x78.a, x78.b, x78.c] ++ x78.args).length : Int)).toNat y75)
def image_Print_k1560 (nx18 : Str → Option (Str × Int)) (y75 : Str) : Option (Str × Int) :=
  nx18 y75
def image_Print_b1561 (x16 : Proc) (i39 : Int) (y37 : Str) (nx42 : Str → Option (Str × Int)) : Option (Str × Int) :=
  (idx [x16.params, x16.regs, (x16.code.length : Int)] i39).bind fun x45 => bif decide ((0 : Int) < i39) then grd (y37.length + [32].length ≤ 140737488355328) (image_Print_j1462 x45 nx42 (y37 ++ [32])) else image_Print_j1462 x45 nx42 y37
def image_Print_k1562 (a : List Proc) (nx18 : Str → Option (Str × Int)) (x16 : Proc) (y37 : Str) : Option (Str × Int) :=
  grd (y37.length + [10].length ≤ 140737488355328) (each (image_Print_b1559 a) (image_Print_k1560 nx18) x16.code (y37 ++ [10]))
def image_Print_b1563 (a : List Proc) (x16 : Proc) (y13 : Str) (nx18 : Str → Option (Str × Int)) : Option (Str × Int) :=
  upto (image_Print_b1561 x16) (image_Print_k1562 a nx18 x16) 0 (([x16.params, x16.regs, (x16.code.length : Int)].length : Int)).toNat y13
def image_Print_k1564 (y13 : Str) : Option (Str × Int) :=
  some (y13, 0)
def image_Print (a : List Proc) : Option (Str × Int) :=
  (code_Check a).bind fun y1 => bif decide ((y1 : Int) ≠ 0) then some ([], y1) else each (image_Print_b1563 a) image_Print_k1564 a ([] : Str)
theorem image_Print_c (w0 : World) (M : BS) (hM : ∀ b, M b → b < w0.heap.size) (hT : Tabs Tryd.prog 0 w0) (va : Value) (a : List Proc) (ha : Rd2 rProc w0 BE M va a) (r : Str × Int) (hs : image_Print a = some r) :
    Calls Tryd.prog 6 #[va] w0 (fun e w' => Grow w0 w' ∧ e = .returned (.tuple #[strV r.1, .int .i64 r.2])) := by
 refine calls_start (args := [va]) Tryd.func6 rfl Tryd.ntmps6 (Nat.le_of_ble_eq_true rfl) ?_
 have h := SH.init hM
 replace h := h.argSr 1 ha none_own
 have hl_a := ha.len_le
 refine wc_seq (wc_region (wl_ok (r_assign (v := (strV [])) rfl) (wl_ok (r_assign (v := (.int .i64 (0))) rfl) (wl_nil (then_normal (wc_seq (wc_seq (wc_region (wl_ok (r_move (v := va) rfl) ?_)))))))))
 obtain ⟨y1, e2, hs⟩ := o_bind hs
 refine w_call fnOk18 rfl rfl (code_Check_c _ _ h.lt va a (h.srS 1 rfl) _ e2) ?_
 rintro _ w ⟨k3, rfl⟩
 refine ⟨_, rfl, ?_⟩
 replace h := h.grow k3
 refine wl_ok (r_assign (v := (.int .i64 (y1))) rfl) (wl_nil (then_normal (wc_seq (wc_region (wl_ok (r_move (v := (.int .i64 (y1))) rfl) (wl_ok (r_neq rfl rfl) (wl_nil (then_normal (wc_ifb hs rfl (fun c4 hs => ?_) (fun c4 hs => ?_))))))))))
 ·
  refine wc_seq (wc_region (wl_ok (r_move (v := (.int .i64 (y1))) rfl) (wl_ok (r_assign (v := (strV [])) rfl) (wl_ok (r_assign (v := (.int .i64 (y1))) rfl) (wl_nil (then_normal (wc_ret (then_ret (fin2 (v1 := (strV [])) (v2 := (.int .i64 (y1))) Tryd.results6 rfl rfl ?_)))))))))
  obtain rfl := Option.some.inj hs
  exact ⟨h.grown, rfl⟩
 ·
  refine wc_skip (then_normal (wc_seq (wc_region (w_allocBld (E := 5) h 2 Many42 fun w b5 h => wl_nil (then_normal (wc_seq (wc_region (wl_ok (r_makeFunc (c1 := []) (c2 := [(.pointer (some ⟨b5, 0, none⟩))]) rfl rfl) (wl_ok (r_assign (v := (.func (.func 19) #[] #[(.pointer (some ⟨b5, 0, none⟩))])) rfl) (wl_nil (then_normal (wc_seq (wc_seq (wc_region (wl_ok (r_move (v := va) rfl) (wl_ok (r_len SliceOf22 rfl (h.srS 1 rfl)) (wl_ok (r_move (v := (.int .i64 (0))) rfl) (wl_nil (then_normal (wc_block (wc_lp (σ := Nat × Int × Value × Str) (inl [8, 10, 19, 20, 21, 22, 23, 24, 25, 26, 27, 28, 29, 30, 31, 32, 33, 34, 35, 36, 37, 38, 39, 40, 41, 42, 43, 44, 45, 46, 47, 48, 49, 50, 51, 52, 53, 54, 55]) (fun ⟨k14, i15, v12, y13⟩ => [(19, (.int .i64 (i15)))]) (fun ⟨k14, i15, v12, y13⟩ w => SH w0 M BE w (hset [(1, .sr rProc va a), (2, .pce (bldS 42 5 b5 v12 y13))]) ∧ i15 = (k14 : Int) ∧ each (image_Print_b1563 a) image_Print_k1564 (a.drop k14) y13 = some r) (fun ⟨k14, i15, v12, y13⟩ => a.length - k14) ⟨0, 0, (.slice none 0 0), ([] : Str)⟩ ⟨rfl, trivial⟩ ?_ ?_)))))))))))))))))))))
  ·
   exact ⟨h.cn _, rfl, hs⟩
  ·
   rintro ⟨k14, i15, v12, y13⟩ w junk ⟨h, hik, hs⟩
   refine wc_seq (wc_region ?_)
   refine wl_ok (r_lss rfl rfl) (wl_nil (then_normal ?_))
   refine wc_seq (wc_if rfl (fun e19 => ?_) (fun e19 => ?_))
   ·
    refine wc_skip (then_normal ?_)
    obtain ⟨x16, e20a, e20b⟩ := drop_lt (hik ▸ e19)
    rw [e20b, each_cons] at hs
    generalize hnx18 : each (image_Print_b1563 a) image_Print_k1564 (a.drop (k14 + 1)) = nx18 at hs
    have e20r := nat_rng ((h.srS 1 rfl)).len_le hik e19
    refine wc_seq (wc_block (wc_seq (wc_region ?_)))
    obtain ⟨b22, o23, cs24, h, r25, i21⟩ := h.ixS 1 3 rfl SliceOf22 rfl (nat_nn hik) (get_nat hik e20a)
    obtain ⟨u26, rfl, g27⟩ := rProc_open r25
    replace h := h.knowRd 4 g27.up
    refine wl_ok (i21 _ _ _ _ _ _ _ _ _ rfl rfl) (wl_ok (r_ldPN (k := 0) (vs := [(.int .i64 (x16.params)), (.int .i64 (x16.regs)), u26]) h 3 rfl Many52 rfl rfl rfl (Nat.le_of_ble_eq_true rfl)) (w_allocN h 5 Many52 fun w b28 h => w_stN (vs := [(.int .i64 (x16.params)), (.int .i64 (x16.regs)), u26]) h 5 [(.int .i64 (x16.params)), (.int .i64 (x16.regs)), u26] rfl Many52 rfl rfl rfl rfl rfl (ones_cons rfl (ones_cons rfl (ones_cons (h.rdAt 4 rfl).one ones_nil))) fun w h => wl_nil (then_normal (wc_seq (wc_region (wl_ok (r_move (v := (.func (.func 19) #[] #[(.pointer (some ⟨b5, 0, none⟩))])) rfl) (wl_ok (r_fieldAddr Fld52x0 rfl) (wl_ok (r_ldB h 5 rfl One3 rfl rfl) (wl_ok (r_fieldAddr Fld52x1 rfl) (wl_ok (r_ldB h 5 rfl One3 rfl rfl) (wl_ok (r_fieldAddr Fld52x2 rfl) (wl_ok (r_ldB h 5 rfl One50 rfl rfl) (wl_ok (r_len SliceOf50 rfl (h.rdS 4 rfl)) (w_bs (R := rInt) (vs := [(.int .i64 (x16.params)), (.int .i64 (x16.regs)), (.int .i64 ((x16.code.length : Int)))]) (xs := [x16.params, x16.regs, (x16.code.length : Int)]) h 6 ElemOf43 rfl rfl rfl ⟨rfl, ⟨rfl, ⟨rfl, trivial⟩⟩⟩ rfl fun w u29 h => w_callIn (args := [u29, (.pointer (some ⟨b5, 0, none⟩))]) fnOk19 rfl rfl (calls_start (args := [u29, (.pointer (some ⟨b5, 0, none⟩))]) Tryd.func19 rfl Tryd.ntmps19 (Nat.le_of_ble_eq_true rfl) (wc_seq (wc_seq (wc_region (wl_ok (r_move (v := u29) rfl) (wl_ok (r_len SliceOf43 rfl (h.ownS 6 rfl)) ?_))))))))))))))))))))
    refine wl_ok (r_move (v := (.int .i64 (0))) rfl) (wl_nil (then_normal (wc_block ?_)))
    have hli39 := (h.ownS 6 rfl).len_le
    refine wc_lp (σ := Nat × Int × Value × Str) (inl [3, 4, 7, 8, 9, 10, 11, 12, 13, 14, 15, 16, 17, 18]) (fun ⟨k38, i39, v36, y37⟩ => [(7, (.int .i64 (i39)))]) (fun ⟨k38, i39, v36, y37⟩ w => SH w0 M BE w (hset [(1, .sr rProc va a), (2, .pce (bldS 42 5 b5 v36 y37)), (3, .pt b22 o23 [(.int .i64 (x16.params)), (.int .i64 (x16.regs)), u26]), (4, .rd rIns u26 x16.code), (5, .blk b28 [(.int .i64 (x16.params)), (.int .i64 (x16.regs)), u26]), (6, .own rInt 3 u29 [x16.params, x16.regs, (x16.code.length : Int)])]) ∧ i39 = (k38 : Int) ∧ upto (image_Print_b1561 x16) (image_Print_k1562 a nx18 x16) i39 ((([x16.params, x16.regs, (x16.code.length : Int)].length : Int)).toNat - k38) y37 = some r) (fun ⟨k38, i39, v36, y37⟩ => (([x16.params, x16.regs, (x16.code.length : Int)].length : Int)).toNat - k38) ⟨0, 0, v12, y13⟩ ⟨rfl, trivial⟩ ?_ ?_
    ·
     exact ⟨h.cn _, rfl, hs⟩
    ·
     rintro ⟨k38, i39, v36, y37⟩ w junk ⟨h, hik, hs⟩
     refine wc_seq (wc_region ?_)
     refine wl_ok (r_lss rfl rfl) (wl_nil (then_normal ?_))
     refine wc_seq (wc_if rfl (fun e43 => ?_) (fun e43 => ?_))
     ·
      refine wc_skip (then_normal ?_)
      rw [upto_lt (by have := of_decide_eq_true e43; omega)] at hs
      generalize hnx42 : upto (image_Print_b1561 x16) (image_Print_k1562 a nx18 x16) (i39 + 1) ((([x16.params, x16.regs, (x16.code.length : Int)].length : Int)).toNat - (k38 + 1)) = nx42 at hs
      have e44r : I64 (i39 + 1) := (by have := of_decide_eq_true e43; have := hli39; exact I64.mk (by omega) (by omega))
      refine wc_seq (wc_block (wc_seq (wc_region (wl_ok (r_move (v := (.int .i64 (i39))) rfl) ?_))))
      obtain ⟨x45, e46, hs⟩ := o_bind hs
      obtain ⟨b48, q49, i47⟩ := h.ixO 6 rfl SliceOf43 rfl (o_idx e46).1 (o_idx e46).2
      refine wl_ok (i47 _ _ _ _ _ _ _ _ _ rfl rfl) ?_
      obtain ⟨cs50, m51, r52⟩ := h.elO 6 rfl q49 (o_idx e46).2
      obtain rfl := r52
      refine wl_ok (r_ldA (k := 0) m51 One3 rfl rfl) (wl_ok (r_assign (v := (.int .i64 (i39))) rfl) (wl_ok (r_assign (v := (.int .i64 (x45))) rfl) (wl_nil (then_normal (wc_join (σ := Value × Str) (inl [12, 13, 14]) (fun ⟨v53, y54⟩ => []) (fun ⟨v53, y54⟩ w => SH w0 M BE w (hset [(1, .sr rProc va a), (2, .pce (bldS 42 5 b5 v53 y54)), (3, .pt b22 o23 [(.int .i64 (x16.params)), (.int .i64 (x16.regs)), u26]), (4, .rd rIns u26 x16.code), (5, .blk b28 [(.int .i64 (x16.params)), (.int .i64 (x16.regs)), u26]), (6, .own rInt 3 u29 [x16.params, x16.regs, (x16.code.length : Int)])]) ∧ image_Print_j1462 x45 nx42 y54 = some r) ?_ ?_)))))
      ·
       rintro ⟨v53, y54⟩ w junk ⟨h, hs⟩
       refine wc_region (wl_ok (r_move (v := (.int .i64 (x45))) rfl) ?_)
       obtain ⟨y55, e56, hs⟩ := o_bind hs
       refine w_call fnOk21 rfl rfl (strconv_Itoa_c _ _ h.lt (hT.go h.keep) x45 _ e56) ?_
       rintro _ w ⟨k57, rfl⟩
       refine ⟨_, rfl, ?_⟩
       replace h := h.grow k57
       obtain ⟨a58, hs⟩ := o_grd hs
       refine w_call fnOk20 rfl rfl (bld_w (h.pceAt 2 rfl) a58) ?_
       rintro _ w ⟨rfl, u59, e60a, e60b, e60c⟩
       refine ⟨_, rfl, ?_⟩
       replace h := h.pceStep (S' := bldS 42 5 b5 u59 (y54 ++ y55)) 2 rfl e60a e60b (fun x hx hl => hx.imp id (fun hx => e60c x hx hl))
       refine wl_nil (inBlock_normal (then_normal (wc_region (wl_ok (r_add rfl rfl e44r) (wl_ok (r_move (v := (.int .i64 ((i39 + 1)))) rfl) (wl_nil (then_loop ?_)))))))
       subst hnx42
       exact lend ⟨k38 + 1, i39 + 1, u59, (y54 ++ y55)⟩ ⟨h.cn _, by omega, hs⟩ (by have := of_decide_eq_true e43; dsimp only; omega)
      ·
       refine wc_seq (wc_region (wl_ok (r_move (v := (.int .i64 (i39))) rfl) (wl_ok (r_gtr rfl rfl) (wl_nil (then_normal (wc_ifb hs rfl (fun c61 hs => ?_) (fun c61 hs => ?_)))))))
       ·
        refine wc_region ?_
        obtain ⟨a62, hs⟩ := o_grd hs
        refine w_call fnOk20 rfl rfl (bld_w (h.pceAt 2 rfl) a62) ?_
        rintro _ w ⟨rfl, u63, e64a, e64b, e64c⟩
        refine ⟨_, rfl, ?_⟩
        replace h := h.pceStep (S' := bldS 42 5 b5 u63 (y37 ++ [32])) 2 rfl e64a e64b (fun x hx hl => hx.imp id (fun hx => e64c x hx hl))
        refine wl_nil (then_loop ?_)
        exact jend (u63, (y37 ++ [32])) ⟨h.cn _, hs⟩
       ·
        refine wc_skip (then_loop ?_)
        exact jend (v36, y37) ⟨h.cn _, hs⟩
     ·
      rw [upto_ge (by have := of_decide_eq_false e43; omega)] at hs
      refine wc_exit (then_exit (then_exit (inBlock_eq (then_normal (wc_region ?_)))))
      obtain ⟨a65, hs⟩ := o_grd hs
      refine w_call fnOk20 rfl rfl (bld_w (h.pceAt 2 rfl) a65) ?_
      rintro _ w ⟨rfl, u66, e67a, e67b, e67c⟩
      refine ⟨_, rfl, ?_⟩
      replace h := h.pceStep (S' := bldS 42 5 b5 u66 (y37 ++ [10])) 2 rfl e67a e67b (fun x hx hl => hx.imp id (fun hx => e67c x hx hl))
      refine wl_nil (fin0n Tryd.results19 (⟨_, rfl, ?_⟩))
      refine wl_nil (then_normal (wc_seq (wc_region (wl_ok (r_fieldAddr Fld52x2 rfl) (wl_ok (r_ldB h 5 rfl One50 rfl rfl) (wl_ok (r_len SliceOf50 rfl (h.rdS 4 rfl)) (wl_ok (r_move (v := (.int .i64 (0))) rfl) (wl_nil (then_normal (wc_block (wc_lp (σ := Nat × Int × Value × Str) (inl [10, 36, 37, 38, 39, 40, 41, 42, 43, 44, 45, 46, 47, 48, 49, 50, 51, 52, 53, 54]) (fun ⟨k76, i77, v74, y75⟩ => [(36, (.int .i64 (i77)))]) (fun ⟨k76, i77, v74, y75⟩ w => SH w0 M BE w (hset [(1, .sr rProc va a), (2, .pce (bldS 42 5 b5 v74 y75)), (4, .rd rIns u26 x16.code)]) ∧ i77 = (k76 : Int) ∧ each (image_Print_b1559 a) (image_Print_k1560 nx18) (x16.code.drop k76) y75 = some r) (fun ⟨k76, i77, v74, y75⟩ => x16.code.length - k76) ⟨0, 0, u66, (y37 ++ [10])⟩ ⟨rfl, trivial⟩ ?_ ?_)))))))))))
      ·
       exact ⟨h.cn _, rfl, hs⟩
      ·
       rintro ⟨k76, i77, v74, y75⟩ w junk ⟨h, hik, hs⟩
       refine wc_seq (wc_region ?_)
       refine wl_ok (r_lss rfl rfl) (wl_nil (then_normal ?_))
       refine wc_seq (wc_if rfl (fun e81 => ?_) (fun e81 => ?_))
       ·
        refine wc_skip (then_normal ?_)
        obtain ⟨x78, e82a, e82b⟩ := drop_lt (hik ▸ e81)
        rw [e82b, each_cons] at hs
        generalize hnx80 : each (image_Print_b1559 a) (image_Print_k1560 nx18) (x16.code.drop (k76 + 1)) = nx80 at hs
        have e82r := nat_rng ((h.rdS 4 rfl)).len_le hik e81
        refine wc_seq (wc_block (wc_seq (wc_region ?_)))
        obtain ⟨b84, o85, cs86, h, r87, i83⟩ := h.ixR 4 7 rfl SliceOf50 rfl (nat_nn hik) (get_nat hik e82a)
        obtain ⟨u88, rfl, g89⟩ := rIns_open r87
        replace h := h.knowRd 8 g89.up
        refine wl_ok (i83 _ _ _ _ _ _ _ _ _ rfl rfl) (wl_ok (r_ldPN (k := 0) (vs := [(.int .i64 (x78.op)), (.int .i64 (x78.a)), (.int .i64 (x78.b)), (.int .i64 (x78.c)), u88]) h 7 rfl Many54 rfl rfl rfl (Nat.le_of_ble_eq_true rfl)) (w_allocN h 9 Many54 fun w b90 h => w_stN (vs := [(.int .i64 (x78.op)), (.int .i64 (x78.a)), (.int .i64 (x78.b)), (.int .i64 (x78.c)), u88]) h 9 [(.int .i64 (x78.op)), (.int .i64 (x78.a)), (.int .i64 (x78.b)), (.int .i64 (x78.c)), u88] rfl Many54 rfl rfl rfl rfl rfl (ones_cons rfl (ones_cons rfl (ones_cons rfl (ones_cons rfl (ones_cons (h.rdAt 8 rfl).one ones_nil))))) fun w h => wl_nil (then_normal (wc_region (wl_ok (r_move (v := (.func (.func 19) #[] #[(.pointer (some ⟨b5, 0, none⟩))])) rfl) (wl_ok (r_fieldAddr Fld54x0 rfl) (wl_ok (r_ldB h 9 rfl One3 rfl rfl) (wl_ok (r_fieldAddr Fld54x1 rfl) (wl_ok (r_ldB h 9 rfl One3 rfl rfl) (wl_ok (r_fieldAddr Fld54x2 rfl) (wl_ok (r_ldB h 9 rfl One3 rfl rfl) (wl_ok (r_fieldAddr Fld54x3 rfl) (wl_ok (r_ldB h 9 rfl One3 rfl rfl) (w_bs (R := rInt) (vs := [(.int .i64 (x78.op)), (.int .i64 (x78.a)), (.int .i64 (x78.b)), (.int .i64 (x78.c))]) (xs := [x78.op, x78.a, x78.b, x78.c]) h 10 ElemOf43 rfl rfl rfl ⟨rfl, ⟨rfl, ⟨rfl, ⟨rfl, trivial⟩⟩⟩⟩ rfl fun w u91 h => wl_ok (r_fieldAddr Fld54x4 rfl) (wl_ok (r_ldB h 9 rfl One43 rfl rfl) ?_)))))))))))))))
        obtain ⟨a92, hs⟩ := o_grd hs
        refine w_app (R := rInt) (m := x78.args) h 10 rfl (h.rdS 8 rfl) ElemOf43 rfl rfl rfl a92.1 a92.2 fun w u93 h => w_callIn (args := [u93, (.pointer (some ⟨b5, 0, none⟩))]) fnOk19 rfl rfl (calls_start (args := [u93, (.pointer (some ⟨b5, 0, none⟩))]) Tryd.func19 rfl Tryd.ntmps19 (Nat.le_of_ble_eq_true rfl) (wc_seq (wc_seq (wc_region (wl_ok (r_move (v := u93) rfl) (wl_ok (r_len SliceOf43 rfl (h.ownS 10 rfl)) (wl_ok (r_move (v := (.int .i64 (0))) rfl) (wl_nil (then_normal (wc_block ?_))))))))))
        have hli103 := (h.ownS 10 rfl).len_le
        refine wc_lp (σ := Nat × Int × Value × Str) (inl [3, 4, 7, 8, 9, 10, 11, 12, 13, 14, 15, 16, 17, 18]) (fun ⟨k102, i103, v100, y101⟩ => [(7, (.int .i64 (i103)))]) (fun ⟨k102, i103, v100, y101⟩ w => SH w0 M BE w (hset [(1, .sr rProc va a), (2, .pce (bldS 42 5 b5 v100 y101)), (4, .rd rIns u26 x16.code), (7, .pt b84 o85 [(.int .i64 (x78.op)), (.int .i64 (x78.a)), (.int .i64 (x78.b)), (.int .i64 (x78.c)), u88]), (8, .rd rInt u88 x78.args), (9, .blk b90 [(.int .i64 (x78.op)), (.int .i64 (x78.a)), (.int .i64 (x78.b)), (.int .i64 (x78.c)), u88]), (10, .own rInt 3 u93 ([x78.op, x78.a, x78.b, x78.c] ++ x78.args))]) ∧ i103 = (k102 : Int) ∧ upto (image_Print_b1557 x78 a) (image_Print_k1558 nx80) i103 (((([x78.op, x78.a, x78.b, x78.c] ++ x78.args).length : Int)).toNat - k102) y101 = some r) (fun ⟨k102, i103, v100, y101⟩ => ((([x78.op, x78.a, x78.b, x78.c] ++ x78.args).length : Int)).toNat - k102) ⟨0, 0, v74, y75⟩ ⟨rfl, trivial⟩ ?_ ?_
        ·
         exact ⟨h.cn _, rfl, hs⟩
        ·
         rintro ⟨k102, i103, v100, y101⟩ w junk ⟨h, hik, hs⟩
         refine wc_seq (wc_region ?_)
         refine wl_ok (r_lss rfl rfl) (wl_nil (then_normal ?_))
         refine wc_seq (wc_if rfl (fun e107 => ?_) (fun e107 => ?_))
         ·
          refine wc_skip (then_normal ?_)
          rw [upto_lt (by have := of_decide_eq_true e107; omega)] at hs
          generalize hnx106 : upto (image_Print_b1557 x78 a) (image_Print_k1558 nx80) (i103 + 1) (((([x78.op, x78.a, x78.b, x78.c] ++ x78.args).length : Int)).toNat - (k102 + 1)) = nx106 at hs
          have e108r : I64 (i103 + 1) := (by have := of_decide_eq_true e107; have := hli103; exact I64.mk (by omega) (by omega))
          refine wc_seq (wc_block (wc_seq (wc_region (wl_ok (r_move (v := (.int .i64 (i103))) rfl) ?_))))
          obtain ⟨x109, e110, hs⟩ := o_bind hs
          obtain ⟨b112, q113, i111⟩ := h.ixO 10 rfl SliceOf43 rfl (o_idx e110).1 (o_idx e110).2
          refine wl_ok (i111 _ _ _ _ _ _ _ _ _ rfl rfl) ?_
          obtain ⟨cs114, m115, r116⟩ := h.elO 10 rfl q113 (o_idx e110).2
          obtain rfl := r116
          refine wl_ok (r_ldA (k := 0) m115 One3 rfl rfl) (wl_ok (r_assign (v := (.int .i64 (i103))) rfl) (wl_ok (r_assign (v := (.int .i64 (x109))) rfl) (wl_nil (then_normal (wc_join (σ := Value × Str) (inl [12, 13, 14]) (fun ⟨v117, y118⟩ => []) (fun ⟨v117, y118⟩ w => SH w0 M BE w (hset [(1, .sr rProc va a), (2, .pce (bldS 42 5 b5 v117 y118)), (4, .rd rIns u26 x16.code), (7, .pt b84 o85 [(.int .i64 (x78.op)), (.int .i64 (x78.a)), (.int .i64 (x78.b)), (.int .i64 (x78.c)), u88]), (8, .rd rInt u88 x78.args), (9, .blk b90 [(.int .i64 (x78.op)), (.int .i64 (x78.a)), (.int .i64 (x78.b)), (.int .i64 (x78.c)), u88]), (10, .own rInt 3 u93 ([x78.op, x78.a, x78.b, x78.c] ++ x78.args))]) ∧ image_Print_j1556 x109 nx106 y118 = some r) ?_ ?_)))))
          ·
           rintro ⟨v117, y118⟩ w junk ⟨h, hs⟩
           refine wc_region (wl_ok (r_move (v := (.int .i64 (x109))) rfl) ?_)
           obtain ⟨y119, e120, hs⟩ := o_bind hs
           refine w_call fnOk21 rfl rfl (strconv_Itoa_c _ _ h.lt (hT.go h.keep) x109 _ e120) ?_
           rintro _ w ⟨k121, rfl⟩
           refine ⟨_, rfl, ?_⟩
           replace h := h.grow k121
           obtain ⟨a122, hs⟩ := o_grd hs
           refine w_call fnOk20 rfl rfl (bld_w (h.pceAt 2 rfl) a122) ?_
           rintro _ w ⟨rfl, u123, e124a, e124b, e124c⟩
           refine ⟨_, rfl, ?_⟩
           replace h := h.pceStep (S' := bldS 42 5 b5 u123 (y118 ++ y119)) 2 rfl e124a e124b (fun x hx hl => hx.imp id (fun hx => e124c x hx hl))
           refine wl_nil (inBlock_normal (then_normal (wc_region (wl_ok (r_add rfl rfl e108r) (wl_ok (r_move (v := (.int .i64 ((i103 + 1)))) rfl) (wl_nil (then_loop ?_)))))))
           subst hnx106
           exact lend ⟨k102 + 1, i103 + 1, u123, (y118 ++ y119)⟩ ⟨h.cn _, by omega, hs⟩ (by have := of_decide_eq_true e107; dsimp only; omega)
          ·
           refine wc_seq (wc_region (wl_ok (r_move (v := (.int .i64 (i103))) rfl) (wl_ok (r_gtr rfl rfl) (wl_nil (then_normal (wc_ifb hs rfl (fun c125 hs => ?_) (fun c125 hs => ?_)))))))
           ·
            refine wc_region ?_
            obtain ⟨a126, hs⟩ := o_grd hs
            refine w_call fnOk20 rfl rfl (bld_w (h.pceAt 2 rfl) a126) ?_
            rintro _ w ⟨rfl, u127, e128a, e128b, e128c⟩
            refine ⟨_, rfl, ?_⟩
            replace h := h.pceStep (S' := bldS 42 5 b5 u127 (y101 ++ [32])) 2 rfl e128a e128b (fun x hx hl => hx.imp id (fun hx => e128c x hx hl))
            refine wl_nil (then_loop ?_)
            exact jend (u127, (y101 ++ [32])) ⟨h.cn _, hs⟩
           ·
            refine wc_skip (then_loop ?_)
            exact jend (v100, y101) ⟨h.cn _, hs⟩
         ·
          rw [upto_ge (by have := of_decide_eq_false e107; omega)] at hs
          refine wc_exit (then_exit (then_exit (inBlock_eq (then_normal (wc_region ?_)))))
          obtain ⟨a129, hs⟩ := o_grd hs
          refine w_call fnOk20 rfl rfl (bld_w (h.pceAt 2 rfl) a129) ?_
          rintro _ w ⟨rfl, u130, e131a, e131b, e131c⟩
          refine ⟨_, rfl, ?_⟩
          replace h := h.pceStep (S' := bldS 42 5 b5 u130 (y101 ++ [10])) 2 rfl e131a e131b (fun x hx hl => hx.imp id (fun hx => e131c x hx hl))
          refine wl_nil (fin0n Tryd.results19 (⟨_, rfl, ?_⟩))
          refine wl_nil (inBlock_normal (then_normal (wc_region (wl_ok (r_add rfl rfl e82r) (wl_ok (r_move (v := (.int .i64 ((i77 + 1)))) rfl) (wl_nil (then_loop ?_)))))))
          subst hnx80
          exact lend ⟨k76 + 1, i77 + 1, u130, (y101 ++ [10])⟩ ⟨h.cn _, by omega, hs⟩ (by have := of_decide_eq_true e81; dsimp only; omega)
       ·
        rw [drop_ge (hik ▸ e81), each_nil] at hs
        refine wc_exit (then_exit (then_exit (inBlock_eq (inBlock_normal (then_normal (wc_region (wl_ok (r_add rfl rfl e20r) (wl_ok (r_move (v := (.int .i64 ((i15 + 1)))) rfl) (wl_nil (then_loop ?_))))))))))
        subst hnx18
        exact lend ⟨k14 + 1, i15 + 1, v74, y75⟩ ⟨h.cn _, by omega, hs⟩ (by have := of_decide_eq_true e19; dsimp only; omega)
   ·
    rw [drop_ge (hik ▸ e19), each_nil] at hs
    refine wc_exit (then_exit (then_exit (inBlock_eq (then_normal (wc_seq (wc_region (w_call fnOk22 rfl rfl (bld_s h 2 rfl) ?_)))))))
    rintro _ w ⟨rfl, h⟩
    refine ⟨_, rfl, ?_⟩
    refine wl_ok (r_assign (v := (strV y13)) rfl) (wl_ok (r_assign (v := (.int .i64 (0))) rfl) (wl_nil (then_normal (wc_ret (fin2 (v1 := (strV y13)) (v2 := (.int .i64 (0))) Tryd.results6 rfl rfl ?_)))))
    obtain rfl := Option.some.inj hs
    exact ⟨h.grown, rfl⟩
theorem strings_Cut_c (w0 : World) (M : BS) (hM : ∀ b, M b → b < w0.heap.size) (hT : Tabs Tryd.prog 0 w0) (a : Str) (b : Str) (r : Str × Str × Bool) (hs : cutS a b = some r) :
    Calls Tryd.prog 23 #[strV a, strV b] w0 (fun e w' => Grow w0 w' ∧ e = .returned (.tuple #[strV r.1, strV r.2.1, .bool r.2.2])) :=
  cut_w Tryd.strings_Cut hT hs
theorem strings_Split_c (w0 : World) (M : BS) (hM : ∀ b, M b → b < w0.heap.size) (hT : Tabs Tryd.prog 0 w0) (a : Str) (b : Str) (r : List Str) (hs : splitS a b = some r) :
    Calls Tryd.prog 35 #[strV a, strV b] w0 (fun e w' => Grow w0 w' ∧ ∃ u, e = .returned u ∧ RdSl rStr w' M u r) :=
  split_w Tryd.strings_Split hM hT hs
theorem strconv_Atoi_c (w0 : World) (M : BS) (hM : ∀ b, M b → b < w0.heap.size) (hT : Tabs Tryd.prog 0 w0) (a : Str) (r : Int × Bool) (hs : atoiS a = some r) :
    Calls Tryd.prog 52 #[strV a] w0 (fun e w' => Grow w0 w' ∧ ∃ u, e = .returned (.tuple #[.int .i64 r.1, u]) ∧ IsErr u r.2) :=
  atoi_w Tryd.strconv_Atoi_ok Tryd.strconv_Atoi_syntax_var Tryd.strconv_Atoi_range_var hT hs
def image_numbers_j26 (x13 : List Int) (y26 : Int × Bool) (nx18 : List Int → Option (List Int × Bool)) (x31 : Bool) : Option (List Int × Bool) :=
  bif x31 then some ([], false) else grd (Room 8 x13 [y26.1]) (nx18 (x13 ++ [y26.1]))
def image_numbers_b27 (x16 : Str) (x13 : List Int) (nx18 : List Int → Option (List Int × Bool)) : Option (List Int × Bool) :=
  (atoiS x16).bind fun y26 => bif y26.2 then image_numbers_j26 x13 y26 nx18 true else (itoaS y26.1).bind fun y37 => image_numbers_j26 x13 y26 nx18 (decide ((y37 : Str) ≠ x16))
def image_numbers_k28 (x13 : List Int) : Option (List Int × Bool) :=
  some (x13, true)
def image_numbers (a : Str) : Option (List Int × Bool) :=
  (splitS a [32]).bind fun y1 => each image_numbers_b27 image_numbers_k28 y1 []
theorem image_numbers_c (w0 : World) (M : BS) (hM : ∀ b, M b → b < w0.heap.size) (hT : Tabs Tryd.prog 0 w0) (a : Str) (r : List Int × Bool) (hs : image_numbers a = some r) :
    Calls Tryd.prog 24 #[(strV a)] w0 (fun e w' => Grow w0 w' ∧ ∃ u0, e = .returned (.tuple #[u0, .bool r.2]) ∧ OwnSl rInt 3 w' M u0 r.1 ∧ (∀ b, ob u0 b → w0.heap.size ≤ b)) := by
 refine calls_start (args := [(strV a)]) Tryd.func24 rfl Tryd.ntmps24 (Nat.le_of_ble_eq_true rfl) ?_
 have h := SH.init hM
 refine wc_seq (wc_region (wl_ok (r_assign (v := (.slice none 0 0)) rfl) (wl_ok (r_assign (v := (.bool (false))) rfl) (wl_nil (then_normal (wc_seq (wc_region (wl_ok (r_assign (v := (.slice none 0 0)) rfl) (wl_nil (then_normal (wc_seq (wc_seq (wc_region (wl_ok (r_move (v := (strV a)) rfl) ?_))))))))))))))
 obtain ⟨y1, e2, hs⟩ := o_bind hs
 refine w_call fnOk35 rfl rfl (strings_Split_c _ _ h.lt (hT.go h.keep) a [32] _ e2) ?_
 rintro _ w ⟨k5, u3, rfl, g4⟩
 refine ⟨_, rfl, ?_⟩
 replace h := h.gotRd 1 k5 g4
 refine wl_ok (r_len SliceOf68 rfl (h.rdS 1 rfl)) (wl_ok (r_move (v := (.int .i64 (0))) rfl) (wl_nil (then_normal (wc_block ?_))))
 replace h := h.nilO (R := rInt) (E := 3) 5
 refine wc_lp (σ := Nat × Int × Value × List Int) (inl [2, 3, 4, 6, 7, 8, 12, 13, 14, 15, 16, 17, 18, 19, 20, 21, 22, 23, 24, 25, 26, 27, 28, 29, 30, 31, 32, 33]) (fun ⟨k14, i15, v12, x13⟩ => [(4, v12), (12, (.int .i64 (i15)))]) (fun ⟨k14, i15, v12, x13⟩ w => SH w0 M BE w (hset [(1, .rd rStr u3 y1), (5, .own rInt 3 v12 x13)]) ∧ i15 = (k14 : Int) ∧ each image_numbers_b27 image_numbers_k28 (y1.drop k14) x13 = some r) (fun ⟨k14, i15, v12, x13⟩ => y1.length - k14) ⟨0, 0, (.slice none 0 0), []⟩ ⟨rfl, rfl, trivial⟩ ?_ ?_
 ·
  exact ⟨h.cn _, rfl, hs⟩
 ·
  rintro ⟨k14, i15, v12, x13⟩ w junk ⟨h, hik, hs⟩
  refine wc_seq (wc_region ?_)
  refine wl_ok (r_lss rfl rfl) (wl_nil (then_normal ?_))
  refine wc_seq (wc_if rfl (fun e19 => ?_) (fun e19 => ?_))
  ·
   refine wc_skip (then_normal ?_)
   obtain ⟨x16, e20a, e20b⟩ := drop_lt (hik ▸ e19)
   rw [e20b, each_cons] at hs
   generalize hnx18 : each image_numbers_b27 image_numbers_k28 (y1.drop (k14 + 1)) = nx18 at hs
   have e20r := nat_rng ((h.rdS 1 rfl)).len_le hik e19
   refine wc_seq (wc_block (wc_seq (wc_region ?_)))
   obtain ⟨b22, o23, cs24, h, r25, i21⟩ := h.ixR 1 6 rfl SliceOf68 rfl (nat_nn hik) (get_nat hik e20a)
   obtain rfl := r25
   refine wl_ok (i21 _ _ _ _ _ _ _ _ _ rfl rfl) (wl_ok (r_ldP (k := 0) h 6 rfl One9 rfl rfl) (wl_ok (r_assign (v := (strV x16)) rfl) (wl_nil (then_normal (wc_seq (wc_region (wl_ok (r_move (v := (strV x16)) rfl) ?_)))))))
   obtain ⟨y26, e27, hs⟩ := o_bind hs
   refine w_call fnOk52 rfl rfl (strconv_Atoi_c _ _ h.lt (hT.go h.keep) x16 _ e27) ?_
   rintro _ w ⟨k30, u28, rfl, g29⟩
   refine ⟨_, rfl, ?_⟩
   replace h := h.grow k30
   refine wl_ok (r_move (v := (.tuple #[(.int .i64 (y26.1)), u28])) rfl) (wl_ok (r_extract rfl rfl) (wl_ok (r_extract rfl rfl) (wl_ok (r_assign (v := (.int .i64 (y26.1))) rfl) (wl_ok (r_assign (v := u28) rfl) (wl_nil (then_normal (wc_seq (wc_join (σ := Bool) (inl [21, 22, 23, 24, 25, 26, 27, 28]) (fun x31 => [(28, (.bool (x31)))]) (fun x31 w => SH w0 M BE w (hset [(1, .rd rStr u3 y1), (5, .own rInt 3 v12 x13)]) ∧ image_numbers_j26 x13 y26 nx18 x31 = some r) ?_ ?_))))))))
   ·
    rintro x31 w junk ⟨h, hs⟩
    refine wc_ifb hs rfl (fun c32 hs => ?_) (fun c32 hs => ?_)
    ·
     refine wc_seq (wc_region (wl_ok (r_assign (v := (.slice none 0 0)) rfl) (wl_ok (r_assign (v := (.bool (false))) rfl) (wl_nil (then_normal (wc_ret (then_ret (inBlock_ret (then_ret (then_ret (inBlock_ret (then_ret (fin2 (v1 := (.slice none 0 0)) (v2 := (.bool (false))) Tryd.results24 rfl rfl ?_)))))))))))))
     obtain rfl := Option.some.inj hs
     exact ⟨h.grown, _, rfl, OwnSl.nil, fresh_nil⟩
    ·
     refine wc_skip (then_normal (wc_region (wl_ok (r_move (v := v12) rfl) (wl_ok (r_move (v := (.int .i64 (y26.1))) rfl) (w_bs (R := rInt) (vs := [(.int .i64 (y26.1))]) (xs := [y26.1]) h 7 ElemOf43 rfl rfl rfl ⟨rfl, trivial⟩ rfl fun w u33 h => ?_)))))
     obtain ⟨a34, hs⟩ := o_grd hs
     refine w_app (R := rInt) (m := [y26.1]) h 5 rfl (h.ownS 7 rfl) ElemOf43 rfl rfl rfl a34.1 a34.2 fun w u35 h => wl_ok (r_assign (v := u35) rfl) (wl_nil (inBlock_normal (then_normal (wc_region (wl_ok (r_add rfl rfl e20r) (wl_ok (r_move (v := (.int .i64 ((i15 + 1)))) rfl) (wl_nil (then_loop ?_))))))))
     subst hnx18
     exact lend ⟨k14 + 1, i15 + 1, u35, (x13 ++ [y26.1])⟩ ⟨h.cn _, by omega, hs⟩ (by have := of_decide_eq_true e19; dsimp only; omega)
   ·
    refine wc_region (wl_ok (r_move (v := u28) rfl) (wl_ok (r_neqnilI IfaceT45 rfl g29 rfl) (wl_ok (r_move (v := (.bool (y26.2))) rfl) (c_split (b := y26.2) hs (fun c36 hs => ?_) (fun c36 hs => ?_)))))
    ·
     refine wl_off (b' := true) rfl (congrArg Value.bool c36) rfl (wl_off (b' := true) rfl (congrArg Value.bool c36) rfl (wl_off (b' := true) rfl (congrArg Value.bool c36) rfl (wl_off (b' := true) rfl (congrArg Value.bool c36) rfl (wl_ok (r_pick (b := true) (v := (.bool (true))) (congrArg Value.bool c36) rfl) (wl_nil (then_loop ?_))))))
     exact jend true ⟨h.cn _, hs⟩
    ·
     refine wl_on rfl (congrArg Value.bool c36) (wl_ok (r_move (v := (.int .i64 (y26.1))) rfl) (wl_on rfl (congrArg Value.bool c36) ?_))
     obtain ⟨y37, e38, hs⟩ := o_bind hs
     refine w_call fnOk21 rfl rfl (strconv_Itoa_c _ _ h.lt (hT.go h.keep) y26.1 _ e38) ?_
     rintro _ w ⟨k39, rfl⟩
     refine ⟨_, rfl, ?_⟩
     replace h := h.grow k39
     refine wl_on rfl (congrArg Value.bool c36) (wl_ok (r_move (v := (strV x16)) rfl) (wl_on rfl (congrArg Value.bool c36) (wl_ok (r_neqs rfl rfl) (wl_ok (r_pick (b := false) (v := (.bool (decide ((y37 : Str) ≠ x16)))) (congrArg Value.bool c36) rfl) (wl_nil (then_loop ?_))))))
     exact jend (decide ((y37 : Str) ≠ x16)) ⟨h.cn _, hs⟩
  ·
   rw [drop_ge (hik ▸ e19), each_nil] at hs
   refine wc_exit (then_exit (then_exit (inBlock_eq (then_normal (wc_seq (wc_region (wl_ok (r_move (v := v12) rfl) (wl_ok (r_assign (v := v12) rfl) (wl_ok (r_assign (v := (.bool (true))) rfl) (wl_nil (then_normal (wc_ret (fin2 (v1 := v12) (v2 := (.bool (true))) Tryd.results24 rfl rfl ?_)))))))))))))
   obtain rfl := Option.some.inj hs
   exact ⟨h.grown, _, rfl, (h.outOwn 5 rfl).1, (h.outOwn 5 rfl).2⟩
def image_Parse_j25 (y33 : List Int × Bool) (x20 : List Proc) (nx26 : (Str × List Proc × Int) → Option (List Proc × Int)) (y30 : Str × Str × Bool) (x41 : Bool) : Option (List Proc × Int) :=
  bif x41 then some ([], 1) else (idx y33.1 0).bind fun xq46x2_1 => (idx y33.1 1).bind fun xq46x5_1 => (idx y33.1 2).bind fun xq46x11_1 => grd (Room 40 x20 [(⟨xq46x2_1, xq46x5_1, []⟩ : Proc)]) (nx26 (y30.2.1, (x20 ++ [(⟨xq46x2_1, xq46x5_1, []⟩ : Proc)]), xq46x11_1))
def image_Parse_b26 (s : Str × List Proc × Int) (nx26 : Str × List Proc × Int → Option (List Proc × Int)) : Option (List Proc × Int) :=
  match s with | (x17, x20, x21) => bif decide ((x17 : Str) ≠ []) then (cutS x17 [10]).bind fun y30 => (image_numbers y30.1).bind fun y33 => bif ((!y30.2.2) || (!y33.2)) then some ([], 1) else bif decide ((x21 : Int) = 0) then bif decide (((y33.1.length : Int) : Int) ≠ 3) then image_Parse_j25 y33 x20 nx26 y30 true else (idx y33.1 2).bind fun x50 => bif decide ((x50 : Int) < 1) then image_Parse_j25 y33 x20 nx26 y30 true else image_Parse_j25 y33 x20 nx26 y30 (decide ((2000 : Int) < x50)) else bif decide (((y33.1.length : Int) : Int) < 4) then some ([], 1) else grd (I64 ((x20.length : Int) - 1)) ((idx x20 ((x20.length : Int) - 1)).bind fun x70 => (idx y33.1 0).bind fun xq84x6_1 => (idx y33.1 1).bind fun xq84x9_1 => (idx y33.1 2).bind fun xq84x12_1 => (idx y33.1 3).bind fun xq84x15_1 => (sub? y33.1 4 (y33.1.length : Int)).bind fun xq84x18_1 => grd (Room 56 x70.code [(⟨xq84x6_1, xq84x9_1, xq84x12_1, xq84x15_1, xq84x18_1⟩ : Ins)]) (grd (I64 (x21 - 1)) (nx26 (y30.2.1, (x20.set (((x20.length : Int) - 1)).toNat ({ x70 with code := (x70.code ++ [(⟨xq84x6_1, xq84x9_1, xq84x12_1, xq84x15_1, xq84x18_1⟩ : Ins)]) })), (x21 - 1))))) else bif decide ((0 : Int) < x21) then some ([], 1) else (code_Check x20).bind fun y90 => bif decide ((y90 : Int) ≠ 0) then some ([], y90) else some (x20, 0)
def image_Parse (N : Nat) (a : Str) : Option (List Proc × Int) :=
  bif decide ((60000 : Int) < (a.length : Int)) then some ([], 2) else again image_Parse_b26 N (a, [], 0)
theorem image_Parse_c (N : Nat) (w0 : World) (M : BS) (hM : ∀ b, M b → b < w0.heap.size) (hT : Tabs Tryd.prog 0 w0) (a : Str) (r : List Proc × Int) (hs : image_Parse N a = some r) :
    Calls Tryd.prog 7 #[(strV a)] w0 (fun e w' => Grow w0 w' ∧ ∃ u0, e = .returned (.tuple #[u0, .int .i64 r.2]) ∧ RdSl rProc w' M u0 r.1) := by
 refine calls_start (args := [(strV a)]) Tryd.func7 rfl Tryd.ntmps7 (Nat.le_of_ble_eq_true rfl) ?_
 have h := SH.init hM
 refine wc_seq (wc_region (wl_ok (r_assign (v := (.slice none 0 0)) rfl) (wl_ok (r_assign (v := (.int .i64 (0))) rfl) (wl_nil (then_normal (wc_seq (wc_seq (wc_region (wl_ok (r_move (v := (strV a)) rfl) (wl_ok (r_lenS Tryd.underlying9 rfl) (wl_ok (r_gtr rfl rfl) (wl_nil (then_normal (wc_ifb hs rfl (fun c1 hs => ?_) (fun c1 hs => ?_)))))))))))))))
 ·
  refine wc_seq (wc_region (wl_ok (r_assign (v := (.slice none 0 0)) rfl) (wl_ok (r_assign (v := (.int .i64 (2))) rfl) (wl_nil (then_normal (wc_ret (then_ret (fin2 (v1 := (.slice none 0 0)) (v2 := (.int .i64 (2))) Tryd.results7 rfl rfl ?_))))))))
  obtain rfl := Option.some.inj hs
  exact ⟨h.grown, _, rfl, Rd2.nil⟩
 ·
  refine wc_skip (then_normal (wc_seq (wc_region (wl_ok (r_assign (v := (.slice none 0 0)) rfl) (wl_nil (then_normal (wc_seq (wc_region (wl_ok (r_assign (v := (.int .i64 (0))) rfl) (wl_nil (then_normal (wc_seq (wc_block ?_)))))))))))))
  replace h := h.nilO (R := nProc.raw) (E := 52) 7
  replace h := h.famNil (R := rIns) (Es := 54) 8
  refine wc_lp (σ := Nat × Str × Value × List Value × List Proc × Int) (inl [0, 2, 3, 4, 5, 6, 7, 8, 9, 10, 11, 16, 17, 18, 19, 20, 21, 22, 23, 24, 25, 26, 27, 28, 29, 30, 31, 32, 33, 34, 35, 36, 37, 38, 39, 40, 41, 42, 43, 44, 45, 46, 47, 48, 49, 50, 51, 52, 53, 54, 55, 56, 57, 58, 59, 60, 61, 62, 63, 64, 65, 66, 67, 68, 69, 70, 71, 72, 73, 74, 75, 76, 77, 78, 79, 80, 81, 82, 83, 84, 85, 86, 87, 88, 89, 90, 91, 92, 93, 94, 95, 96, 97, 98, 99]) (fun ⟨m25, x17, v18, us19, x20, x21⟩ => [(0, (strV x17)), (4, v18), (5, (.int .i64 (x21)))]) (fun ⟨m25, x17, v18, us19, x20, x21⟩ w => SH w0 M BE w (hset [(7, .own nProc.raw 52 v18 (List.zip x20 us19)), (8, .pce (famS rIns 54 hn us19 (List.map nProc.sub x20)))]) ∧ again image_Parse_b26 m25 (x17, x20, x21) = some r) (fun ⟨m25, x17, v18, us19, x20, x21⟩ => m25) ⟨N, a, (.slice none 0 0), ([] : List Value), [], 0⟩ ⟨rfl, rfl, rfl, trivial⟩ ?_ ?_
  ·
   exact ⟨h.cn _, hs⟩
  ·
   rintro ⟨m25, x17, v18, us19, x20, x21⟩ w junk ⟨h, hs⟩
   obtain ⟨m251, m25e, m25h⟩ := again_pos hs
   subst m25e
   replace hs := m25h
   generalize hnx26 : again image_Parse_b26 m251 = nx26 at hs
   refine wc_seq (wc_seq (wc_region (wl_ok (r_move (v := (strV x17)) rfl) (wl_ok (r_neqs rfl rfl) (wl_nil (then_normal (wc_ifb hs rfl (fun c29 hs => ?_) (fun c29 hs => ?_))))))))
   ·
    refine wc_skip (then_normal (wc_block (wc_seq (wc_region (wl_ok (r_move (v := (strV x17)) rfl) ?_)))))
    obtain ⟨y30, e31, hs⟩ := o_bind hs
    refine w_call fnOk23 rfl rfl (strings_Cut_c _ _ h.lt (hT.go h.keep) x17 [10] _ e31) ?_
    rintro _ w ⟨k32, rfl⟩
    refine ⟨_, rfl, ?_⟩
    replace h := h.grow k32
    refine wl_ok (r_move (v := (.tuple #[(strV y30.1), (strV y30.2.1), (.bool (y30.2.2))])) rfl) (wl_ok (r_extract rfl rfl) (wl_ok (r_extract rfl rfl) (wl_ok (r_extract rfl rfl) (wl_ok (r_assign (v := (strV y30.1)) rfl) (wl_ok (r_assign (v := (strV y30.2.1)) rfl) (wl_ok (r_assign (v := (.bool (y30.2.2))) rfl) (wl_nil (then_normal (wc_seq (wc_region (wl_ok (r_move (v := (strV y30.1)) rfl) ?_)))))))))))
    obtain ⟨y33, e34, hs⟩ := o_bind hs
    refine w_call fnOk24 rfl rfl (image_numbers_c _ _ h.lt (hT.go h.keep) y30.1 _ e34) ?_
    rintro _ w ⟨k38, u35, rfl, g36, g37⟩
    refine ⟨_, rfl, ?_⟩
    replace h := h.gotOwn 9 k38 g36 g37
    refine wl_ok (r_move (v := (.tuple #[u35, (.bool (y33.2))])) rfl) (wl_ok (r_extract rfl rfl) (wl_ok (r_extract rfl rfl) (wl_ok (r_assign (v := u35) rfl) (wl_ok (r_assign (v := (.bool (y33.2))) rfl) (wl_nil (then_normal (wc_seq (wc_seq (wc_region (wl_ok (r_move (v := (strV y30.2.1)) rfl) (wl_ok (r_assign (v := (strV y30.2.1)) rfl) (wl_nil (then_normal (wc_seq (wc_region (wl_ok (r_move (v := (.bool (y30.2.2))) rfl) (wl_ok (r_notb rfl) (wl_ok (r_move (v := (.bool ((!y30.2.2)))) rfl) (wl_gd0 rfl rfl (fun q => r_move (v := (.bool (y33.2))) rfl) (wl_gd0 rfl rfl (fun q => r_notb (gvt q)) (wl_ok (r_por rfl rfl evc) (wl_nil (then_normal ?_)))))))))))))))))))))))
    refine wc_ifb hs rfl (fun c39 hs => ?_) (fun c39 hs => ?_)
    ·
     refine wc_seq (wc_region (wl_ok (r_assign (v := (.slice none 0 0)) rfl) (wl_ok (r_assign (v := (.int .i64 (1))) rfl) (wl_nil (then_normal (wc_ret (then_ret (inBlock_ret (then_ret (inBlock_ret (then_ret (fin2 (v1 := (.slice none 0 0)) (v2 := (.int .i64 (1))) Tryd.results7 rfl rfl ?_))))))))))))
     obtain rfl := Option.some.inj hs
     exact ⟨h.grown, _, rfl, Rd2.nil⟩
    ·
     refine wc_skip (then_normal (wc_seq (wc_seq (wc_region (wl_ok (r_move (v := (.int .i64 (x21))) rfl) (wl_ok (r_eql rfl rfl) (wl_nil (then_normal (wc_ifb hs rfl (fun c40 hs => ?_) (fun c40 hs => ?_))))))))))
     ·
      refine wc_seq (wc_join (σ := Bool) (inl [38, 39, 40, 41, 42, 43, 44, 45, 46, 47, 48, 49, 50, 51, 52]) (fun x41 => [(52, (.bool (x41)))]) (fun x41 w => SH w0 M BE w (hset [(7, .own nProc.raw 52 v18 (List.zip x20 us19)), (8, .pce (famS rIns 54 hn us19 (List.map nProc.sub x20))), (9, .own rInt 3 u35 y33.1)]) ∧ image_Parse_j25 y33 x20 nx26 y30 x41 = some r) ?_ ?_)
      ·
       rintro x41 w junk ⟨h, hs⟩
       refine wc_ifb hs rfl (fun c42 hs => ?_) (fun c42 hs => ?_)
       ·
        refine wc_seq (wc_region (wl_ok (r_assign (v := (.slice none 0 0)) rfl) (wl_ok (r_assign (v := (.int .i64 (1))) rfl) (wl_nil (then_normal (wc_ret (then_ret (then_ret (inBlock_ret (then_ret (inBlock_ret (then_ret (fin2 (v1 := (.slice none 0 0)) (v2 := (.int .i64 (1))) Tryd.results7 rfl rfl ?_)))))))))))))
        obtain rfl := Option.some.inj hs
        exact ⟨h.grown, _, rfl, Rd2.nil⟩
       ·
        refine wc_skip (then_normal (wc_seq (wck_held (L := (ob v18)) mixed h fun w h => whk_ok 0 (Keep.refl _ _) rfl want_none (by kernel_rfl) (by kernel_rfl) (by kernel_rfl) (fun w hk => r_move (v := v18) rfl) (whk_ok 1 (Keep.refl _ _) rfl want_none (by kernel_rfl) (by kernel_rfl) (by kernel_rfl) (fun w hk => r_move (v := u35) rfl) ?_))))
        obtain ⟨xq46x2_1, eq46x2_2, hs⟩ := o_bind hs
        obtain ⟨bq46x2_4, qq46x2_5, iq46x2_3⟩ := h.ixO 9 rfl SliceOf43 rfl (o_idx eq46x2_2).1 (o_idx eq46x2_2).2
        refine whk_ok 2 (Keep.refl _ _) rfl want_none (by kernel_rfl) (by kernel_rfl) (by kernel_rfl) (fun w hk => iq46x2_3 _ _ _ _ _ _ _ _ _ rfl rfl) ?_
        obtain ⟨csq46x3_1, mq46x3_2, rq46x3_3⟩ := h.elO 9 rfl qq46x2_5 (o_idx eq46x2_2).2
        obtain rfl := rq46x3_3
        have nq46x3_4 : ¬ (ob v18 _) := h.apart 9 7 (by decide) _ qq46x2_5
        refine whk_ok 3 (Keep.refl _ _) rfl want_none (by kernel_rfl) (by kernel_rfl) (by kernel_rfl) (fun w hk => have h := h.loseC 7 rfl hk; r_ldA (k := 0) (mq46x3_2.hold hk nq46x3_4) One3 rfl rfl) (whk_ok 4 (Keep.refl _ _) rfl want_none (by kernel_rfl) (by kernel_rfl) (by kernel_rfl) (fun w hk => r_move (v := u35) rfl) ?_)
        obtain ⟨xq46x5_1, eq46x5_2, hs⟩ := o_bind hs
        obtain ⟨bq46x5_4, qq46x5_5, iq46x5_3⟩ := h.ixO 9 rfl SliceOf43 rfl (o_idx eq46x5_2).1 (o_idx eq46x5_2).2
        refine whk_ok 5 (Keep.refl _ _) rfl want_none (by kernel_rfl) (by kernel_rfl) (by kernel_rfl) (fun w hk => iq46x5_3 _ _ _ _ _ _ _ _ _ rfl rfl) ?_
        obtain ⟨csq46x6_1, mq46x6_2, rq46x6_3⟩ := h.elO 9 rfl qq46x5_5 (o_idx eq46x5_2).2
        obtain rfl := rq46x6_3
        have nq46x6_4 : ¬ (ob v18 _) := h.apart 9 7 (by decide) _ qq46x5_5
        refine whk_ok 6 (Keep.refl _ _) rfl want_none (by kernel_rfl) (by kernel_rfl) (by kernel_rfl) (fun w hk => have h := h.loseC 7 rfl hk; r_ldA (k := 0) (mq46x6_2.hold hk nq46x6_4) One3 rfl rfl) (whk_ok 7 (Keep.refl _ _) rfl want_none (by kernel_rfl) (by kernel_rfl) (by kernel_rfl) (fun w hk => r_build (pv := [(0, (.int .i64 (xq46x2_1))), (1, (.int .i64 (xq46x5_1)))]) (out := [(.int .i64 (xq46x2_1)), (.int .i64 (xq46x5_1)), (.slice none 0 0)]) Struct52 rfl ⟨0, 1, [(.int .i64 (xq46x2_1))], rfl, rfl, rfl, Nat.le_of_ble_eq_true rfl, ⟨1, 1, [(.int .i64 (xq46x5_1))], rfl, rfl, rfl, Nat.le_of_ble_eq_true rfl, rfl⟩⟩) (whk_ok 10 (Keep.refl _ _) rfl want_none (by kernel_rfl) (by kernel_rfl) (by kernel_rfl) (fun w hk => r_move (v := u35) rfl) ?_))
        obtain ⟨xq46x11_1, eq46x11_2, hs⟩ := o_bind hs
        obtain ⟨bq46x11_4, qq46x11_5, iq46x11_3⟩ := h.ixO 9 rfl SliceOf43 rfl (o_idx eq46x11_2).1 (o_idx eq46x11_2).2
        refine whk_ok 11 (Keep.refl _ _) rfl want_none (by kernel_rfl) (by kernel_rfl) (by kernel_rfl) (fun w hk => iq46x11_3 _ _ _ _ _ _ _ _ _ rfl rfl) ?_
        obtain ⟨csq46x12_1, mq46x12_2, rq46x12_3⟩ := h.elO 9 rfl qq46x11_5 (o_idx eq46x11_2).2
        obtain rfl := rq46x12_3
        have nq46x12_4 : ¬ (ob v18 _) := h.apart 9 7 (by decide) _ qq46x11_5
        refine whk_ok 12 (Keep.refl _ _) rfl want_none (by kernel_rfl) (by kernel_rfl) (by kernel_rfl) (fun w hk => have h := h.loseC 7 rfl hk; r_ldA (k := 0) (mq46x12_2.hold hk nq46x12_4) One3 rfl rfl) ?_
        obtain ⟨ws47, ws47e⟩ : ∃ x, x = w := ⟨_, rfl⟩
        have hg48 : Keep (ob v18) ws47 w := ws47e ▸ Keep.refl (ob v18) w
        refine whk_at ws47e.symm (whk_eff 8 (by kernel_rfl) rfl want_none ?_)
        replace h := h.nilO (R := rIns) (E := 54) 106
        have uq46x8_1o : (Value.oneCell' (.slice none 0 0)) = true := (h.ownAt 106 rfl).one
        refine w_bsG (R := nProc.raw) (vs := [(.agg #[(.int .i64 (xq46x2_1)), (.int .i64 (xq46x5_1)), (.slice none 0 0)])]) (xs := List.zip [(⟨xq46x2_1, xq46x5_1, []⟩ : Proc)] [(.slice none 0 0)]) h 107 ElemOf22 rfl rfl rfl ⟨⟨rfl, uq46x8_1o⟩, trivial⟩ rfl fun w uq46x8_1 h uq46x8_1k uq46x8_1f => ?_
        have uq46x8_1q : ∀ b, ob uq46x8_1 b → ws47.heap.size ≤ b := fun b hb => Nat.le_trans hg48.size (uq46x8_1f b hb)
        replace hg48 := hg48.grow uq46x8_1k
        replace h := h.famNewL (N := nProc) 106 (⟨xq46x2_1, xq46x5_1, []⟩ : Proc) rfl rfl
        refine wl_nil (whk_back hg48 (whk_eff 9 (by kernel_rfl) rfl want_none ?_))
        obtain ⟨aq46x9_1, hs⟩ := o_grd hs
        have zq46x9_3 := h.dnLen 8 rfl
        have zq46x9_3b := h.dnLen 106 rfl
        have uq46x9_2z := hg48.size
        refine w_appGN (R := nProc.raw) (m := List.zip [(⟨xq46x2_1, xq46x5_1, []⟩ : Proc)] [(.slice none 0 0)]) h 7 rfl (h.ownS 107 rfl) ElemOf22 rfl rfl rfl (by rw [zip_len zq46x9_3, zip_len zq46x9_3b]; exact aq46x9_1.1) (by rw [zip_len zq46x9_3, zip_len zq46x9_3b]; exact aq46x9_1.2) fun w uq46x9_2 h uq46x9_2k uq46x9_2n => ?_
        replace hg48 := hg48.same uq46x9_2k
        replace h := (h.famJoin 8 106 rfl rfl (by decide)).dropC 107
        rw [zip_app zq46x9_3, ← List.map_append] at h
        obtain ⟨usq46x9_4, usq46x9_4e⟩ : ∃ z, z = us19 ++ [(.slice none 0 0)] := ⟨_, rfl⟩
        rw [← usq46x9_4e] at h
        refine wl_nil (whk_back hg48 (whk_ok 13 hg48 rfl want_none (by kernel_rfl) (by kernel_rfl) (by kernel_rfl) (fun w hk => r_assign (v := uq46x9_2) rfl) (whk_ok 14 hg48 rfl want_none (by kernel_rfl) (by kernel_rfl) (by kernel_rfl) (fun w hk => r_assign (v := (.int .i64 (xq46x11_1))) rfl) (whk_done (by kernel_rfl) (then_normal (wc_exit (then_exit (inBlock_eq (then_loop ?_)))))))))
        subst hnx26
        exact lend ⟨m251, y30.2.1, uq46x9_2, usq46x9_4, (x20 ++ [(⟨xq46x2_1, xq46x5_1, []⟩ : Proc)]), xq46x11_1⟩ ⟨h.cn _, hs⟩
      ·
       refine wc_region (wl_ok (r_move (v := u35) rfl) (wl_ok (r_len SliceOf43 rfl (h.ownS 9 rfl)) (wl_ok (r_neq rfl rfl) (wl_ok (r_move (v := (.bool (decide (((y33.1.length : Int) : Int) ≠ 3)))) rfl) (c_split (b := decide (((y33.1.length : Int) : Int) ≠ 3)) hs (fun c49 hs => ?_) (fun c49 hs => ?_))))))
       ·
        refine wl_off (b' := true) rfl (congrArg Value.bool c49) rfl (wl_off (b' := true) rfl (congrArg Value.bool c49) rfl (wl_off (b' := true) rfl (congrArg Value.bool c49) rfl (wl_off (b' := true) rfl (congrArg Value.bool c49) rfl (wl_ok (r_pick (b := true) (v := (.bool (true))) (congrArg Value.bool c49) rfl) (wl_ok (r_move (v := (.bool (true))) rfl) (wl_off (b' := true) rfl rfl rfl (wl_off (b' := true) rfl rfl rfl (wl_off (b' := true) rfl rfl rfl (wl_off (b' := true) rfl rfl rfl (wl_ok (r_pick (b := true) (v := (.bool (true))) rfl rfl) (wl_nil (then_loop ?_))))))))))))
        exact jend true ⟨h.cn _, hs⟩
       ·
        refine wl_on rfl (congrArg Value.bool c49) (wl_ok (r_move (v := u35) rfl) (wl_on rfl (congrArg Value.bool c49) ?_))
        obtain ⟨x50, e51, hs⟩ := o_bind hs
        obtain ⟨b53, q54, i52⟩ := h.ixO 9 rfl SliceOf43 rfl (o_idx e51).1 (o_idx e51).2
        refine wl_ok (i52 _ _ _ _ _ _ _ _ _ rfl rfl) (wl_on rfl (congrArg Value.bool c49) ?_)
        obtain ⟨cs55, m56, r57⟩ := h.elO 9 rfl q54 (o_idx e51).2
        obtain rfl := r57
        refine wl_ok (r_ldA (k := 0) m56 One3 rfl rfl) (wl_on rfl (congrArg Value.bool c49) (wl_ok (r_lss rfl rfl) (wl_ok (r_pick (b := false) (v := (.bool (decide ((x50 : Int) < 1)))) (congrArg Value.bool c49) rfl) (wl_ok (r_move (v := (.bool (decide ((x50 : Int) < 1)))) rfl) (c_split (b := decide ((x50 : Int) < 1)) hs (fun c61 hs => ?_) (fun c61 hs => ?_))))))
        ·
         refine wl_off (b' := true) rfl (congrArg Value.bool c61) rfl (wl_off (b' := true) rfl (congrArg Value.bool c61) rfl (wl_off (b' := true) rfl (congrArg Value.bool c61) rfl (wl_off (b' := true) rfl (congrArg Value.bool c61) rfl (wl_ok (r_pick (b := true) (v := (.bool (true))) (congrArg Value.bool c61) rfl) (wl_nil (then_loop ?_))))))
         exact jend true ⟨h.cn _, hs⟩
        ·
         refine wl_on rfl (congrArg Value.bool c61) (wl_ok (r_move (v := u35) rfl) (wl_on rfl (congrArg Value.bool c61) ?_))
         obtain ⟨b63, q64, i62⟩ := h.ixO 9 rfl SliceOf43 rfl (o_idx e51).1 (o_idx e51).2
         refine wl_ok (i62 _ _ _ _ _ _ _ _ _ rfl rfl) (wl_on rfl (congrArg Value.bool c61) ?_)
         obtain ⟨cs65, m66, r67⟩ := h.elO 9 rfl q64 (o_idx e51).2
         obtain rfl := r67
         refine wl_ok (r_ldA (k := 0) m66 One3 rfl rfl) (wl_on rfl (congrArg Value.bool c61) (wl_ok (r_gtr rfl rfl) (wl_ok (r_pick (b := false) (v := (.bool (decide ((2000 : Int) < x50)))) (congrArg Value.bool c61) rfl) (wl_nil (then_loop ?_)))))
         exact jend (decide ((2000 : Int) < x50)) ⟨h.cn _, hs⟩
     ·
      refine wc_skip (then_normal (wc_seq (wc_seq (wc_region (wl_ok (r_move (v := u35) rfl) (wl_ok (r_len SliceOf43 rfl (h.ownS 9 rfl)) (wl_ok (r_lss rfl rfl) (wl_nil (then_normal (wc_ifb hs rfl (fun c68 hs => ?_) (fun c68 hs => ?_)))))))))))
      ·
       refine wc_seq (wc_region (wl_ok (r_assign (v := (.slice none 0 0)) rfl) (wl_ok (r_assign (v := (.int .i64 (1))) rfl) (wl_nil (then_normal (wc_ret (then_ret (inBlock_ret (then_ret (inBlock_ret (then_ret (fin2 (v1 := (.slice none 0 0)) (v2 := (.int .i64 (1))) Tryd.results7 rfl rfl ?_))))))))))))
       obtain rfl := Option.some.inj hs
       exact ⟨h.grown, _, rfl, Rd2.nil⟩
      ·
       refine wc_skip (then_normal (wc_seq (wc_region (wl_ok (r_move (v := v18) rfl) (wl_ok (r_move (v := v18) rfl) (wl_ok (r_lenZ (N := nProc) SliceOf22 rfl (h.ownS 7 rfl) (h.dnLen 8 rfl)) ?_))))))
       obtain ⟨a69, hs⟩ := o_grd hs
       refine wl_ok (r_sub rfl rfl a69) ?_
       obtain ⟨x70, e71, hs⟩ := o_bind hs
       obtain ⟨u75, e76, h⟩ := h.dnOpen 8 202 rfl rfl (by decide) (o_idx e71).2
       obtain ⟨b73, q74, i72⟩ := h.ixO 7 rfl SliceOf22 rfl (o_idx e71).1 (zip_at (o_idx e71).2 e76)
       refine wl_ok (i72 _ _ _ _ _ _ _ _ _ rfl rfl) (wl_ok (r_assign (v := (.pointer (some ⟨b73, (((x20.length : Int) - 1)).toNat * 3, none⟩))) rfl) (wl_nil (then_normal (wc_seq (wck_held (L := (fun b => ob u75 b ∨ ob v18 b)) mixed h fun w h => whk_ok 0 (Keep.refl _ _) rfl want_none (by kernel_rfl) (by kernel_rfl) (by kernel_rfl) (fun w hk => r_move (v := (.pointer (some ⟨b73, (((x20.length : Int) - 1)).toNat * 3, none⟩))) rfl) (whk_ok 1 (Keep.refl _ _) rfl want_none (by kernel_rfl) (by kernel_rfl) (by kernel_rfl) (fun w hk => r_move (v := (.pointer (some ⟨b73, (((x20.length : Int) - 1)).toNat * 3, none⟩))) rfl) (whk_ok 2 (Keep.refl _ _) rfl want_none (by kernel_rfl) (by kernel_rfl) (by kernel_rfl) (fun w hk => r_nilCheck rfl) (whk_ok 3 (Keep.refl _ _) rfl want_none (by kernel_rfl) (by kernel_rfl) (by kernel_rfl) (fun w hk => r_fieldAddr Fld52x2 rfl) (whk_ok 5 (Keep.refl _ _) rfl want_none (by kernel_rfl) (by kernel_rfl) (by kernel_rfl) (fun w hk => r_move (v := u35) rfl) ?_)))))))))
       obtain ⟨xq84x6_1, eq84x6_2, hs⟩ := o_bind hs
       obtain ⟨bq84x6_4, qq84x6_5, iq84x6_3⟩ := h.ixO 9 rfl SliceOf43 rfl (o_idx eq84x6_2).1 (o_idx eq84x6_2).2
       refine whk_ok 6 (Keep.refl _ _) rfl want_none (by kernel_rfl) (by kernel_rfl) (by kernel_rfl) (fun w hk => iq84x6_3 _ _ _ _ _ _ _ _ _ rfl rfl) ?_
       obtain ⟨csq84x7_1, mq84x7_2, rq84x7_3⟩ := h.elO 9 rfl qq84x6_5 (o_idx eq84x6_2).2
       obtain rfl := rq84x7_3
       have nq84x7_4 : ¬ (ob u75 _ ∨ ob v18 _) := fun e => e.elim (h.apart 9 202 (by decide) _ qq84x6_5) (h.apart 9 7 (by decide) _ qq84x6_5)
       refine whk_ok 7 (Keep.refl _ _) rfl want_none (by kernel_rfl) (by kernel_rfl) (by kernel_rfl) (fun w hk => have h := h.loseC2 202 7 (by decide) rfl rfl hk; r_ldA (k := 0) (mq84x7_2.hold hk nq84x7_4) One3 rfl rfl) (whk_ok 8 (Keep.refl _ _) rfl want_none (by kernel_rfl) (by kernel_rfl) (by kernel_rfl) (fun w hk => r_move (v := u35) rfl) ?_)
       obtain ⟨xq84x9_1, eq84x9_2, hs⟩ := o_bind hs
       obtain ⟨bq84x9_4, qq84x9_5, iq84x9_3⟩ := h.ixO 9 rfl SliceOf43 rfl (o_idx eq84x9_2).1 (o_idx eq84x9_2).2
       refine whk_ok 9 (Keep.refl _ _) rfl want_none (by kernel_rfl) (by kernel_rfl) (by kernel_rfl) (fun w hk => iq84x9_3 _ _ _ _ _ _ _ _ _ rfl rfl) ?_
       obtain ⟨csq84x10_1, mq84x10_2, rq84x10_3⟩ := h.elO 9 rfl qq84x9_5 (o_idx eq84x9_2).2
       obtain rfl := rq84x10_3
       have nq84x10_4 : ¬ (ob u75 _ ∨ ob v18 _) := fun e => e.elim (h.apart 9 202 (by decide) _ qq84x9_5) (h.apart 9 7 (by decide) _ qq84x9_5)
       refine whk_ok 10 (Keep.refl _ _) rfl want_none (by kernel_rfl) (by kernel_rfl) (by kernel_rfl) (fun w hk => have h := h.loseC2 202 7 (by decide) rfl rfl hk; r_ldA (k := 0) (mq84x10_2.hold hk nq84x10_4) One3 rfl rfl) (whk_ok 11 (Keep.refl _ _) rfl want_none (by kernel_rfl) (by kernel_rfl) (by kernel_rfl) (fun w hk => r_move (v := u35) rfl) ?_)
       obtain ⟨xq84x12_1, eq84x12_2, hs⟩ := o_bind hs
       obtain ⟨bq84x12_4, qq84x12_5, iq84x12_3⟩ := h.ixO 9 rfl SliceOf43 rfl (o_idx eq84x12_2).1 (o_idx eq84x12_2).2
       refine whk_ok 12 (Keep.refl _ _) rfl want_none (by kernel_rfl) (by kernel_rfl) (by kernel_rfl) (fun w hk => iq84x12_3 _ _ _ _ _ _ _ _ _ rfl rfl) ?_
       obtain ⟨csq84x13_1, mq84x13_2, rq84x13_3⟩ := h.elO 9 rfl qq84x12_5 (o_idx eq84x12_2).2
       obtain rfl := rq84x13_3
       have nq84x13_4 : ¬ (ob u75 _ ∨ ob v18 _) := fun e => e.elim (h.apart 9 202 (by decide) _ qq84x12_5) (h.apart 9 7 (by decide) _ qq84x12_5)
       refine whk_ok 13 (Keep.refl _ _) rfl want_none (by kernel_rfl) (by kernel_rfl) (by kernel_rfl) (fun w hk => have h := h.loseC2 202 7 (by decide) rfl rfl hk; r_ldA (k := 0) (mq84x13_2.hold hk nq84x13_4) One3 rfl rfl) (whk_ok 14 (Keep.refl _ _) rfl want_none (by kernel_rfl) (by kernel_rfl) (by kernel_rfl) (fun w hk => r_move (v := u35) rfl) ?_)
       obtain ⟨xq84x15_1, eq84x15_2, hs⟩ := o_bind hs
       obtain ⟨bq84x15_4, qq84x15_5, iq84x15_3⟩ := h.ixO 9 rfl SliceOf43 rfl (o_idx eq84x15_2).1 (o_idx eq84x15_2).2
       refine whk_ok 15 (Keep.refl _ _) rfl want_none (by kernel_rfl) (by kernel_rfl) (by kernel_rfl) (fun w hk => iq84x15_3 _ _ _ _ _ _ _ _ _ rfl rfl) ?_
       obtain ⟨csq84x16_1, mq84x16_2, rq84x16_3⟩ := h.elO 9 rfl qq84x15_5 (o_idx eq84x15_2).2
       obtain rfl := rq84x16_3
       have nq84x16_4 : ¬ (ob u75 _ ∨ ob v18 _) := fun e => e.elim (h.apart 9 202 (by decide) _ qq84x15_5) (h.apart 9 7 (by decide) _ qq84x15_5)
       refine whk_ok 16 (Keep.refl _ _) rfl want_none (by kernel_rfl) (by kernel_rfl) (by kernel_rfl) (fun w hk => have h := h.loseC2 202 7 (by decide) rfl rfl hk; r_ldA (k := 0) (mq84x16_2.hold hk nq84x16_4) One3 rfl rfl) (whk_ok 17 (Keep.refl _ _) rfl want_none (by kernel_rfl) (by kernel_rfl) (by kernel_rfl) (fun w hk => r_move (v := u35) rfl) ?_)
       obtain ⟨xq84x18_1, eq84x18_2, hs⟩ := o_bind hs
       obtain ⟨eq84x18_5, eq84x18_5a, eq84x18_5b, eq84x18_5c⟩ := o_sub eq84x18_2
       replace h := h.freeze 9 rfl
       obtain ⟨uq84x18_3, h, iq84x18_4⟩ := h.slR 9 419 rfl SliceOf43 rfl eq84x18_5a eq84x18_5b eq84x18_5c
       rw [← eq84x18_5] at h
       refine whk_ok 18 (Keep.refl _ _) rfl want_none (by kernel_rfl) (by kernel_rfl) (by kernel_rfl) (fun w hk => iq84x18_4 _ _ _ _ _ _ _ _ _ _ rfl (.inr (congrArg some rfl)) (.inl ⟨rfl, rfl⟩)) (whk_ok 19 (Keep.refl _ _) rfl want_none (by kernel_rfl) (by kernel_rfl) (by kernel_rfl) (fun w hk => r_build (pv := [(0, (.int .i64 (xq84x6_1))), (1, (.int .i64 (xq84x9_1))), (2, (.int .i64 (xq84x12_1))), (3, (.int .i64 (xq84x15_1))), (4, uq84x18_3)]) (out := [(.int .i64 (xq84x6_1)), (.int .i64 (xq84x9_1)), (.int .i64 (xq84x12_1)), (.int .i64 (xq84x15_1)), uq84x18_3]) Struct54 rfl ⟨0, 1, [(.int .i64 (xq84x6_1))], rfl, rfl, rfl, Nat.le_of_ble_eq_true rfl, ⟨1, 1, [(.int .i64 (xq84x9_1))], rfl, rfl, rfl, Nat.le_of_ble_eq_true rfl, ⟨2, 1, [(.int .i64 (xq84x12_1))], rfl, rfl, rfl, Nat.le_of_ble_eq_true rfl, ⟨3, 1, [(.int .i64 (xq84x15_1))], rfl, rfl, rfl, Nat.le_of_ble_eq_true rfl, ⟨4, 1, [uq84x18_3], rfl, (toList_of_one (h.rdAt 419 rfl).one), rfl, Nat.le_of_ble_eq_true rfl, rfl⟩⟩⟩⟩⟩) ?_)
       obtain ⟨aq84x21_1, hs⟩ := o_grd hs
       obtain ⟨ws85, ws85e⟩ : ∃ x, x = w := ⟨_, rfl⟩
       have hg86 : Keep (fun b => ob u75 b ∨ ob v18 b) ws85 w := ws85e ▸ Keep.refl (fun b => ob u75 b ∨ ob v18 b) w
       refine whk_at ws85e.symm (whk_eff2 4 20 (by kernel_rfl) rfl want_none rfl want_none ?_ ?_)
       ·
        obtain ⟨csq84x4_1, mq84x4_2, rq84x4_3⟩ := h.elO 7 rfl q74 (zip_at (o_idx e71).2 e76)
        obtain ⟨rfl, -⟩ := rq84x4_3
        refine wl_ok (r_ldA (k := 2) mq84x4_2 One50 rfl rfl) (wl_nil (whk_back hg86 (whk_eff 20 (by kernel_rfl) rfl want_none (w_bsG (R := rIns) (vs := [(.agg #[(.int .i64 (xq84x6_1)), (.int .i64 (xq84x9_1)), (.int .i64 (xq84x12_1)), (.int .i64 (xq84x15_1)), uq84x18_3])]) (xs := [(⟨xq84x6_1, xq84x9_1, xq84x12_1, xq84x15_1, xq84x18_1⟩ : Ins)]) h 443 ElemOf50 rfl rfl rfl ⟨⟨_, rfl, (h.rdAt 419 rfl)⟩, trivial⟩ rfl fun w uq84x20_1 h uq84x20_1k uq84x20_1f => ?_))))
        have uq84x20_1q : ∀ b, ob uq84x20_1 b → ws85.heap.size ≤ b := fun b hb => Nat.le_trans hg86.size (uq84x20_1f b hb)
        replace hg86 := hg86.grow uq84x20_1k
        refine wl_nil (whk_back hg86 (whk_eff 21 (by kernel_rfl) rfl want_none ?_))
        have uq84x21_2z := hg86.size
        refine w_appGN (R := rIns) (m := [(⟨xq84x6_1, xq84x9_1, xq84x12_1, xq84x15_1, xq84x18_1⟩ : Ins)]) h 202 rfl (h.ownS 443 rfl) ElemOf50 rfl rfl rfl aq84x21_1.1 aq84x21_1.2 fun w uq84x21_2 h uq84x21_2k uq84x21_2n => ?_
        replace hg86 := Keep.step hg86 uq84x21_2k (fun _ hx _ => .inl hx)
        refine wl_nil (whk_back hg86 (whk_ok 22 hg86 rfl want_none (by kernel_rfl) (by kernel_rfl) (by kernel_rfl) (fun w hk => r_nilCheck rfl) (whk_ok 23 hg86 rfl want_none (by kernel_rfl) (by kernel_rfl) (by kernel_rfl) (fun w hk => r_fieldAddr Fld52x2 rfl) (whk_eff 24 (by kernel_rfl) rfl want_none ?_))))
        have oq84x24_2 : (Value.oneCell' uq84x21_2) = true := (h.ownAt 202 rfl).one
        refine w_stOG (a' := (x70, uq84x21_2)) h 7 rfl q74 rfl (zip_at (o_idx e71).2 e76) One50 rfl rfl oq84x24_2 rfl (by rintro _ ⟨rfl, _⟩; exact ⟨rfl, oq84x24_2⟩) fun w h kq84x24_1 => ?_
        replace hg86 := Keep.step hg86 kq84x24_1 (fun _ hx _ => .inr hx)
        rw [zip_setR (o_idx e71).2] at h
        replace h := h.famU 8 uq84x21_2 rfl
        have usq84x24_3e := us_set_at (u' := uq84x21_2) e76
        generalize List.set us19 (((x20.length : Int) - 1)).toNat uq84x21_2 = usq84x24_3 at h usq84x24_3e
        refine wl_nil (whk_back hg86 (whk_done (by kernel_rfl) (then_normal (wc_region (wl_ok (r_move (v := (.int .i64 (x21))) rfl) ?_)))))
        obtain ⟨a87, hs⟩ := o_grd hs
        refine wl_ok (r_sub rfl rfl a87) (wl_ok (r_assign (v := (.int .i64 ((x21 - 1)))) rfl) (wl_nil (inBlock_normal ?_)))
        replace h := h.dnClose 7 8 202 ({ x70 with code := (x70.code ++ [(⟨xq84x6_1, xq84x9_1, xq84x12_1, xq84x15_1, xq84x18_1⟩ : Ins)]) }) rfl rfl rfl (by decide) (by decide) (by decide) (o_idx e71).2 usq84x24_3e rfl
        refine then_loop ?_
        subst hnx26
        exact lend ⟨m251, y30.2.1, v18, usq84x24_3, (x20.set (((x20.length : Int) - 1)).toNat ({ x70 with code := (x70.code ++ [(⟨xq84x6_1, xq84x9_1, xq84x12_1, xq84x15_1, xq84x18_1⟩ : Ins)]) })), (x21 - 1)⟩ ⟨h.cn _, hs⟩
       ·
        refine w_bsG (R := rIns) (vs := [(.agg #[(.int .i64 (xq84x6_1)), (.int .i64 (xq84x9_1)), (.int .i64 (xq84x12_1)), (.int .i64 (xq84x15_1)), uq84x18_3])]) (xs := [(⟨xq84x6_1, xq84x9_1, xq84x12_1, xq84x15_1, xq84x18_1⟩ : Ins)]) h 443 ElemOf50 rfl rfl rfl ⟨⟨_, rfl, (h.rdAt 419 rfl)⟩, trivial⟩ rfl fun w uq84x20_1 h uq84x20_1k uq84x20_1f => ?_
        have uq84x20_1q : ∀ b, ob uq84x20_1 b → ws85.heap.size ≤ b := fun b hb => Nat.le_trans hg86.size (uq84x20_1f b hb)
        replace hg86 := hg86.grow uq84x20_1k
        refine wl_nil (whk_back hg86 (whk_eff 4 (by kernel_rfl) rfl want_none ?_))
        obtain ⟨csq84x4_1, mq84x4_2, rq84x4_3⟩ := h.elO 7 rfl q74 (zip_at (o_idx e71).2 e76)
        obtain ⟨rfl, -⟩ := rq84x4_3
        refine wl_ok (r_ldA (k := 2) mq84x4_2 One50 rfl rfl) (wl_nil (whk_back hg86 (whk_eff 21 (by kernel_rfl) rfl want_none ?_)))
        have uq84x21_2z := hg86.size
        refine w_appGN (R := rIns) (m := [(⟨xq84x6_1, xq84x9_1, xq84x12_1, xq84x15_1, xq84x18_1⟩ : Ins)]) h 202 rfl (h.ownS 443 rfl) ElemOf50 rfl rfl rfl aq84x21_1.1 aq84x21_1.2 fun w uq84x21_2 h uq84x21_2k uq84x21_2n => ?_
        replace hg86 := Keep.step hg86 uq84x21_2k (fun _ hx _ => .inl hx)
        refine wl_nil (whk_back hg86 (whk_ok 22 hg86 rfl want_none (by kernel_rfl) (by kernel_rfl) (by kernel_rfl) (fun w hk => r_nilCheck rfl) (whk_ok 23 hg86 rfl want_none (by kernel_rfl) (by kernel_rfl) (by kernel_rfl) (fun w hk => r_fieldAddr Fld52x2 rfl) (whk_eff 24 (by kernel_rfl) rfl want_none ?_))))
        have oq84x24_2 : (Value.oneCell' uq84x21_2) = true := (h.ownAt 202 rfl).one
        refine w_stOG (a' := (x70, uq84x21_2)) h 7 rfl q74 rfl (zip_at (o_idx e71).2 e76) One50 rfl rfl oq84x24_2 rfl (by rintro _ ⟨rfl, _⟩; exact ⟨rfl, oq84x24_2⟩) fun w h kq84x24_1 => ?_
        replace hg86 := Keep.step hg86 kq84x24_1 (fun _ hx _ => .inr hx)
        rw [zip_setR (o_idx e71).2] at h
        replace h := h.famU 8 uq84x21_2 rfl
        have usq84x24_3e := us_set_at (u' := uq84x21_2) e76
        generalize List.set us19 (((x20.length : Int) - 1)).toNat uq84x21_2 = usq84x24_3 at h usq84x24_3e
        refine wl_nil (whk_back hg86 (whk_done (by kernel_rfl) (then_normal (wc_region (wl_ok (r_move (v := (.int .i64 (x21))) rfl) ?_)))))
        obtain ⟨a88, hs⟩ := o_grd hs
        refine wl_ok (r_sub rfl rfl a88) (wl_ok (r_assign (v := (.int .i64 ((x21 - 1)))) rfl) (wl_nil (inBlock_normal ?_)))
        replace h := h.dnClose 7 8 202 ({ x70 with code := (x70.code ++ [(⟨xq84x6_1, xq84x9_1, xq84x12_1, xq84x15_1, xq84x18_1⟩ : Ins)]) }) rfl rfl rfl (by decide) (by decide) (by decide) (o_idx e71).2 usq84x24_3e rfl
        refine then_loop ?_
        subst hnx26
        exact lend ⟨m251, y30.2.1, v18, usq84x24_3, (x20.set (((x20.length : Int) - 1)).toNat ({ x70 with code := (x70.code ++ [(⟨xq84x6_1, xq84x9_1, xq84x12_1, xq84x15_1, xq84x18_1⟩ : Ins)]) })), (x21 - 1)⟩ ⟨h.cn _, hs⟩
   ·
    refine wc_exit (then_exit (then_exit (inBlock_eq (then_normal (wc_seq (wc_seq (wc_region (wl_ok (r_move (v := (.int .i64 (x21))) rfl) (wl_ok (r_gtr rfl rfl) (wl_nil (then_normal (wc_ifb hs rfl (fun c89 hs => ?_) (fun c89 hs => ?_)))))))))))))
    ·
     refine wc_seq (wc_region (wl_ok (r_assign (v := (.slice none 0 0)) rfl) (wl_ok (r_assign (v := (.int .i64 (1))) rfl) (wl_nil (then_normal (wc_ret (then_ret (fin2 (v1 := (.slice none 0 0)) (v2 := (.int .i64 (1))) Tryd.results7 rfl rfl ?_))))))))
     obtain rfl := Option.some.inj hs
     exact ⟨h.grown, _, rfl, Rd2.nil⟩
    ·
     refine wc_skip (then_normal (wc_seq (wc_seq (wc_region (wl_ok (r_move (v := v18) rfl) ?_)))))
     replace h := h.dnFreeze (N := nProc) (R' := rProc) 7 8 rfl rfl (by decide) rfl nProc_br
     obtain ⟨y90, e91, hs⟩ := o_bind hs
     refine w_call fnOk18 rfl rfl (code_Check_c _ _ h.lt v18 x20 (h.rdS 7 rfl) _ e91) ?_
     rintro _ w ⟨k92, rfl⟩
     refine ⟨_, rfl, ?_⟩
     replace h := h.grow k92
     refine wl_ok (r_assign (v := (.int .i64 (y90))) rfl) (wl_nil (then_normal (wc_seq (wc_region (wl_ok (r_move (v := (.int .i64 (y90))) rfl) (wl_ok (r_neq rfl rfl) (wl_nil (then_normal (wc_ifb hs rfl (fun c93 hs => ?_) (fun c93 hs => ?_))))))))))
     ·
      refine wc_seq (wc_region (wl_ok (r_move (v := (.int .i64 (y90))) rfl) (wl_ok (r_assign (v := (.slice none 0 0)) rfl) (wl_ok (r_assign (v := (.int .i64 (y90))) rfl) (wl_nil (then_normal (wc_ret (then_ret (fin2 (v1 := (.slice none 0 0)) (v2 := (.int .i64 (y90))) Tryd.results7 rfl rfl ?_)))))))))
      obtain rfl := Option.some.inj hs
      exact ⟨h.grown, _, rfl, Rd2.nil⟩
     ·
      refine wc_skip (then_normal (wc_seq (wc_region (wl_ok (r_move (v := v18) rfl) (wl_ok (r_assign (v := v18) rfl) (wl_ok (r_assign (v := (.int .i64 (0))) rfl) (wl_nil (then_normal (wc_ret (fin2 (v1 := v18) (v2 := (.int .i64 (0))) Tryd.results7 rfl rfl ?_))))))))))
      obtain rfl := Option.some.inj hs
      exact ⟨h.grown, _, rfl, h.outRd 7 rfl⟩
def wandererref_in (a : Int) (b : Int) (c : Int) : Bool :=
  (decide ((b : Int) ≤ a) && decide ((a : Int) ≤ c))
theorem wandererref_in_c (w0 : World) (M : BS) (hM : ∀ b, M b → b < w0.heap.size) (a : Int) (b : Int) (c : Int) (r : Bool) (hs : wandererref_in a b c = r) :
    Calls Tryd.prog 30 #[(.int .i64 (a)), (.int .i64 (b)), (.int .i64 (c))] w0 (fun e w' => Grow w0 w' ∧ e = .returned (.bool r)) := by
 refine calls_start (args := [(.int .i64 (a)), (.int .i64 (b)), (.int .i64 (c))]) Tryd.func30 rfl Tryd.ntmps30 (Nat.le_of_ble_eq_true rfl) ?_
 have h := SH.init hM
 refine wc_seq (wc_region (wl_ok (r_assign (v := (.bool (false))) rfl) (wl_nil (then_normal (wc_seq (wc_region (wl_ok (r_move (v := (.int .i64 (b))) rfl) (wl_ok (r_move (v := (.int .i64 (a))) rfl) (wl_ok (r_leq rfl rfl) (wl_ok (r_move (v := (.bool (decide ((b : Int) ≤ a)))) rfl) (wl_gd0 rfl rfl (fun q => r_move (v := (.int .i64 (a))) rfl) (wl_gd0 rfl rfl (fun q => r_move (v := (.int .i64 (c))) rfl) (wl_gd0 rfl rfl (fun q => r_leq (gvt q) (gvt q)) (wl_ok (r_pand rfl rfl evc) (wl_ok (r_assign (v := (.bool ((decide ((b : Int) ≤ a) && decide ((a : Int) ≤ c))))) rfl) (wl_nil (then_normal (wc_ret (fin1 (v := (.bool ((decide ((b : Int) ≤ a) && decide ((a : Int) ≤ c))))) Tryd.results30 rfl ?_)))))))))))))))))))
 obtain rfl := hs
 exact ⟨h.grown, rfl⟩
def wandererref_below (a : Int) (b : Int) : Bool :=
  (decide ((0 : Int) ≤ a) && decide ((a : Int) < b))
theorem wandererref_below_c (w0 : World) (M : BS) (hM : ∀ b, M b → b < w0.heap.size) (a : Int) (b : Int) (r : Bool) (hs : wandererref_below a b = r) :
    Calls Tryd.prog 53 #[(.int .i64 (a)), (.int .i64 (b))] w0 (fun e w' => Grow w0 w' ∧ e = .returned (.bool r)) := by
 refine calls_start (args := [(.int .i64 (a)), (.int .i64 (b))]) Tryd.func53 rfl Tryd.ntmps53 (Nat.le_of_ble_eq_true rfl) ?_
 have h := SH.init hM
 refine wc_seq (wc_region (wl_ok (r_assign (v := (.bool (false))) rfl) (wl_nil (then_normal (wc_seq (wc_region (wl_ok (r_move (v := (.int .i64 (a))) rfl) (wl_ok (r_geq rfl rfl) (wl_ok (r_move (v := (.bool (decide ((0 : Int) ≤ a)))) rfl) (wl_gd0 rfl rfl (fun q => r_move (v := (.int .i64 (a))) rfl) (wl_gd0 rfl rfl (fun q => r_move (v := (.int .i64 (b))) rfl) (wl_gd0 rfl rfl (fun q => r_lss (gvt q) (gvt q)) (wl_ok (r_pand rfl rfl evc) (wl_ok (r_assign (v := (.bool ((decide ((0 : Int) ≤ a) && decide ((a : Int) < b))))) rfl) (wl_nil (then_normal (wc_ret (fin1 (v := (.bool ((decide ((0 : Int) ≤ a) && decide ((a : Int) < b))))) Tryd.results53 rfl ?_))))))))))))))))))
 obtain rfl := hs
 exact ⟨h.grown, rfl⟩
def wandererref_fits (a : Int) : Bool :=
  (wandererref_in a (-1000000000) 1000000000)
theorem wandererref_fits_c (w0 : World) (M : BS) (hM : ∀ b, M b → b < w0.heap.size) (a : Int) (r : Bool) (hs : wandererref_fits a = r) :
    Calls Tryd.prog 54 #[(.int .i64 (a))] w0 (fun e w' => Grow w0 w' ∧ e = .returned (.bool r)) := by
 refine calls_start (args := [(.int .i64 (a))]) Tryd.func54 rfl Tryd.ntmps54 (Nat.le_of_ble_eq_true rfl) ?_
 have h := SH.init hM
 refine wc_seq (wc_region (wl_ok (r_assign (v := (.bool (false))) rfl) (wl_nil (then_normal (wc_seq (wc_region (wl_ok (r_move (v := (.int .i64 (a))) rfl) (w_call fnOk30 rfl rfl (wandererref_in_c _ _ h.lt a (-1000000000) 1000000000 _ rfl) ?_))))))))
 rintro _ w ⟨k1, rfl⟩
 refine ⟨_, rfl, ?_⟩
 replace h := h.grow k1
 refine wl_ok (r_assign (v := (.bool ((wandererref_in a (-1000000000) 1000000000)))) rfl) (wl_nil (then_normal (wc_ret (fin1 (v := (.bool ((wandererref_in a (-1000000000) 1000000000)))) Tryd.results54 rfl ?_))))
 obtain rfl := hs
 exact ⟨h.grown, rfl⟩
def wandererref_checkIns_b10 (a : Ins) (b : Proc) (x44 : Int) (s : Unit) (nx46 : Unit → Option Int) : Option Int :=
  bif (decide ((a.op : Int) = 7) && (!(wandererref_below x44 b.regs))) then some 3 else nx46 ()
def wandererref_checkIns_k11 (s : Unit) : Option Int :=
  some 0
def wandererref_checkIns_b12 (a : Ins) (i27 : Int) (x28 : Int) (s : Unit) (nx30 : Unit → Option Int) : Option Int :=
  (idx ((lk a.op ([(1, [114, 110, 45]), (2, [114, 114, 45]), (3, [114, 114, 114]), (4, [114, 114, 110]), (5, [114, 110, 45]), (6, [114, 114, 110]), (7, [114, 110, 45]), (8, [114, 45, 45]), (9, [114, 45, 45]), (10, [45, 45, 45]), (11, [114, 45, 45]), (12, [45, 110, 45]), (13, [114, 110, 45])] : List (Int × Str))).getD []) i27).bind fun x38 => bif (decide (((x38.toNat : Int) : Int) = 45) && decide ((x28 : Int) ≠ 0)) then some 4 else nx30 ()
def wandererref_checkIns_k13 (a : Ins) (x23 : Int) (b : Proc) (s : Unit) : Option Int :=
  bif decide (((a.args.length : Int) : Int) ≠ x23) then some 4 else each (wandererref_checkIns_b10 a b) wandererref_checkIns_k11 a.args ()
def wandererref_checkIns_j5 (a : Ins) (b : Proc) (c : List Proc) (x22 : Bool) (x23 : Int) : Option Int :=
  bif (!x22) then some 3 else eachI (wandererref_checkIns_b12 a) (wandererref_checkIns_k13 a x23 b) 0 [a.a, a.b, a.c] ()
def wandererref_checkIns_j15 (a : Ins) (b : Proc) (c : List Proc) (x85 : Bool) : Option Int :=
  bif x85 then wandererref_checkIns_j5 a b c (wandererref_below a.b (b.code.length : Int)) 0 else wandererref_checkIns_j5 a b c ((lk a.op ([(1, [114, 110, 45]), (2, [114, 114, 45]), (3, [114, 114, 114]), (4, [114, 114, 110]), (5, [114, 110, 45]), (6, [114, 114, 110]), (7, [114, 110, 45]), (8, [114, 45, 45]), (9, [114, 45, 45]), (10, [45, 45, 45]), (11, [114, 45, 45]), (12, [45, 110, 45]), (13, [114, 110, 45])] : List (Int × Str))).isSome) 0
def wandererref_checkIns_j14 (a : Ins) (b : Proc) (c : List Proc) (x72 : Bool) : Option Int :=
  bif x72 then wandererref_checkIns_j5 a b c (wandererref_in a.c 0 3) 0 else bif decide ((a.op : Int) = 3) then bif decide (((a.args.length : Int) : Int) = 1) then (idx a.args 0).bind fun x77 => wandererref_checkIns_j5 a b c (wandererref_in x77 1 5) 1 else wandererref_checkIns_j5 a b c false 1 else bif decide ((a.op : Int) = 12) then wandererref_checkIns_j15 a b c (decide ((a.op : Int) = 12)) else wandererref_checkIns_j15 a b c (decide ((a.op : Int) = 13))
def wandererref_checkIns_b16 (a : Ins) (b : Proc) (i7 : Int) (x8 : Int) (s : Unit) (nx10 : Unit → Option Int) : Option Int :=
  (idx ((lk a.op ([(1, [114, 110, 45]), (2, [114, 114, 45]), (3, [114, 114, 114]), (4, [114, 114, 110]), (5, [114, 110, 45]), (6, [114, 114, 110]), (7, [114, 110, 45]), (8, [114, 45, 45]), (9, [114, 45, 45]), (10, [45, 45, 45]), (11, [114, 45, 45]), (12, [45, 110, 45]), (13, [114, 110, 45])] : List (Int × Str))).getD []) i7).bind fun x18 => bif (decide (((x18.toNat : Int) : Int) = 114) && (!(wandererref_below x8 b.regs))) then some 3 else nx10 ()
def wandererref_checkIns_k17 (a : Ins) (b : Proc) (c : List Proc) (s : Unit) : Option Int :=
  bif decide ((a.op : Int) = 7) then bif (!(wandererref_below a.b (c.length : Int))) then some 5 else (idx c a.b).bind fun x59 => wandererref_checkIns_j5 a b c ((lk a.op ([(1, [114, 110, 45]), (2, [114, 114, 45]), (3, [114, 114, 114]), (4, [114, 114, 110]), (5, [114, 110, 45]), (6, [114, 114, 110]), (7, [114, 110, 45]), (8, [114, 45, 45]), (9, [114, 45, 45]), (10, [45, 45, 45]), (11, [114, 45, 45]), (12, [45, 110, 45]), (13, [114, 110, 45])] : List (Int × Str))).isSome) x59.params else bif decide ((a.op : Int) = 1) then wandererref_checkIns_j5 a b c (wandererref_fits a.b) 0 else bif decide ((a.op : Int) = 5) then wandererref_checkIns_j5 a b c (wandererref_in a.b 1 4) 0 else bif decide ((a.op : Int) = 4) then wandererref_checkIns_j14 a b c (decide ((a.op : Int) = 4)) else wandererref_checkIns_j14 a b c (decide ((a.op : Int) = 6))
def wandererref_checkIns (a : Ins) (b : Proc) (c : List Proc) : Option Int :=
  bif (!(lk a.op ([(1, [114, 110, 45]), (2, [114, 114, 45]), (3, [114, 114, 114]), (4, [114, 114, 110]), (5, [114, 110, 45]), (6, [114, 114, 110]), (7, [114, 110, 45]), (8, [114, 45, 45]), (9, [114, 45, 45]), (10, [45, 45, 45]), (11, [114, 45, 45]), (12, [45, 110, 45]), (13, [114, 110, 45])] : List (Int × Str))).isSome) then some 4 else eachI (wandererref_checkIns_b16 a b) (wandererref_checkIns_k17 a b c) 0 [a.a, a.b, a.c] ()
theorem wandererref_checkIns_c (w0 : World) (M : BS) (hM : ∀ b, M b → b < w0.heap.size) (a : Ins) (va4 : Value) (ha4 : Rd2 rInt w0 BE M va4 a.args) (b : Proc) (vb2 : Value) (hb2 : Rd2 rIns w0 BE M vb2 b.code) (vc : Value) (c : List Proc) (hc : Rd2 rProc w0 BE M vc c) (r : Int) (hs : wandererref_checkIns a b c = some r) :
    Calls Tryd.prog 31 #[(.agg #[(.int .i64 (a.op)), (.int .i64 (a.a)), (.int .i64 (a.b)), (.int .i64 (a.c)), va4]), (.agg #[(.int .i64 (b.params)), (.int .i64 (b.regs)), vb2]), vc] w0 (fun e w' => Grow w0 w' ∧ e = .returned (.int .i64 r)) := by
 refine calls_start (args := [(.agg #[(.int .i64 (a.op)), (.int .i64 (a.a)), (.int .i64 (a.b)), (.int .i64 (a.c)), va4]), (.agg #[(.int .i64 (b.params)), (.int .i64 (b.regs)), vb2]), vc]) Tryd.func31 rfl Tryd.ntmps31 (Nat.le_of_ble_eq_true rfl) ?_
 have h := SH.init hM
 replace h := h.argSr 1 ha4 none_own
 replace h := h.argSr 2 hb2 (hupd_own_sr none_own)
 replace h := h.argSr 3 hc (hupd_own_sr (hupd_own_sr none_own))
 have hl_c := hc.len_le
 refine wc_seq (wc_region (w_box (cs := [(.int .i64 (a.op)), (.int .i64 (a.a)), (.int .i64 (a.b)), (.int .i64 (a.c)), va4]) h 4 rfl rfl fun w b1 h => w_box (cs := [(.int .i64 (b.params)), (.int .i64 (b.regs)), vb2]) h 5 rfl rfl fun w b2 h => wl_ok (r_assign (v := (.int .i64 (0))) rfl) (wl_nil (then_normal (wc_seq (wc_region (w_makeMap h 6 fun w b3 h => w_insert (ents' := [(1, (strV [114, 110, 45]))]) h 6 rfl MapOf92 rfl rfl rfl rfl fun w h => w_insert (ents' := [(1, (strV [114, 110, 45])), (2, (strV [114, 114, 45]))]) h 6 rfl MapOf92 rfl rfl rfl rfl fun w h => w_insert (ents' := [(1, (strV [114, 110, 45])), (2, (strV [114, 114, 45])), (3, (strV [114, 114, 114]))]) h 6 rfl MapOf92 rfl rfl rfl rfl fun w h => w_insert (ents' := [(1, (strV [114, 110, 45])), (2, (strV [114, 114, 45])), (3, (strV [114, 114, 114])), (4, (strV [114, 114, 110]))]) h 6 rfl MapOf92 rfl rfl rfl rfl fun w h => w_insert (ents' := [(1, (strV [114, 110, 45])), (2, (strV [114, 114, 45])), (3, (strV [114, 114, 114])), (4, (strV [114, 114, 110])), (5, (strV [114, 110, 45]))]) h 6 rfl MapOf92 rfl rfl rfl rfl fun w h => w_insert (ents' := [(1, (strV [114, 110, 45])), (2, (strV [114, 114, 45])), (3, (strV [114, 114, 114])), (4, (strV [114, 114, 110])), (5, (strV [114, 110, 45])), (6, (strV [114, 114, 110]))]) h 6 rfl MapOf92 rfl rfl rfl rfl fun w h => w_insert (ents' := [(1, (strV [114, 110, 45])), (2, (strV [114, 114, 45])), (3, (strV [114, 114, 114])), (4, (strV [114, 114, 110])), (5, (strV [114, 110, 45])), (6, (strV [114, 114, 110])), (7, (strV [114, 110, 45]))]) h 6 rfl MapOf92 rfl rfl rfl rfl fun w h => w_insert (ents' := [(1, (strV [114, 110, 45])), (2, (strV [114, 114, 45])), (3, (strV [114, 114, 114])), (4, (strV [114, 114, 110])), (5, (strV [114, 110, 45])), (6, (strV [114, 114, 110])), (7, (strV [114, 110, 45])), (8, (strV [114, 45, 45]))]) h 6 rfl MapOf92 rfl rfl rfl rfl fun w h => w_insert (ents' := [(1, (strV [114, 110, 45])), (2, (strV [114, 114, 45])), (3, (strV [114, 114, 114])), (4, (strV [114, 114, 110])), (5, (strV [114, 110, 45])), (6, (strV [114, 114, 110])), (7, (strV [114, 110, 45])), (8, (strV [114, 45, 45])), (9, (strV [114, 45, 45]))]) h 6 rfl MapOf92 rfl rfl rfl rfl fun w h => w_insert (ents' := [(1, (strV [114, 110, 45])), (2, (strV [114, 114, 45])), (3, (strV [114, 114, 114])), (4, (strV [114, 114, 110])), (5, (strV [114, 110, 45])), (6, (strV [114, 114, 110])), (7, (strV [114, 110, 45])), (8, (strV [114, 45, 45])), (9, (strV [114, 45, 45])), (10, (strV [45, 45, 45]))]) h 6 rfl MapOf92 rfl rfl rfl rfl fun w h => w_insert (ents' := [(1, (strV [114, 110, 45])), (2, (strV [114, 114, 45])), (3, (strV [114, 114, 114])), (4, (strV [114, 114, 110])), (5, (strV [114, 110, 45])), (6, (strV [114, 114, 110])), (7, (strV [114, 110, 45])), (8, (strV [114, 45, 45])), (9, (strV [114, 45, 45])), (10, (strV [45, 45, 45])), (11, (strV [114, 45, 45]))]) h 6 rfl MapOf92 rfl rfl rfl rfl fun w h => w_insert (ents' := [(1, (strV [114, 110, 45])), (2, (strV [114, 114, 45])), (3, (strV [114, 114, 114])), (4, (strV [114, 114, 110])), (5, (strV [114, 110, 45])), (6, (strV [114, 114, 110])), (7, (strV [114, 110, 45])), (8, (strV [114, 45, 45])), (9, (strV [114, 45, 45])), (10, (strV [45, 45, 45])), (11, (strV [114, 45, 45])), (12, (strV [45, 110, 45]))]) h 6 rfl MapOf92 rfl rfl rfl rfl fun w h => w_insert (ents' := [(1, (strV [114, 110, 45])), (2, (strV [114, 114, 45])), (3, (strV [114, 114, 114])), (4, (strV [114, 114, 110])), (5, (strV [114, 110, 45])), (6, (strV [114, 114, 110])), (7, (strV [114, 110, 45])), (8, (strV [114, 45, 45])), (9, (strV [114, 45, 45])), (10, (strV [45, 45, 45])), (11, (strV [114, 45, 45])), (12, (strV [45, 110, 45])), (13, (strV [114, 110, 45]))]) h 6 rfl MapOf92 rfl rfl rfl rfl fun w h => wl_ok (r_move (v := (.map (some b3))) rfl) ?_)))))))
 refine wl_ok (r_fieldAddr Fld54x0 rfl) (wl_ok (r_ldB h 4 rfl One3 rfl rfl) (wl_ok (r_lk2 (f := strV) (zz := []) ([(1, [114, 110, 45]), (2, [114, 114, 45]), (3, [114, 114, 114]), (4, [114, 114, 110]), (5, [114, 110, 45]), (6, [114, 114, 110]), (7, [114, 110, 45]), (8, [114, 45, 45]), (9, [114, 45, 45]), (10, [45, 45, 45]), (11, [114, 45, 45]), (12, [45, 110, 45]), (13, [114, 110, 45])] : List (Int × Str)) h 6 rfl MapOf92 rfl rfl rfl rfl) (wl_ok (r_move (v := (.tuple #[(strV ((lk a.op ([(1, [114, 110, 45]), (2, [114, 114, 45]), (3, [114, 114, 114]), (4, [114, 114, 110]), (5, [114, 110, 45]), (6, [114, 114, 110]), (7, [114, 110, 45]), (8, [114, 45, 45]), (9, [114, 45, 45]), (10, [45, 45, 45]), (11, [114, 45, 45]), (12, [45, 110, 45]), (13, [114, 110, 45])] : List (Int × Str))).getD [])), (.bool ((lk a.op ([(1, [114, 110, 45]), (2, [114, 114, 45]), (3, [114, 114, 114]), (4, [114, 114, 110]), (5, [114, 110, 45]), (6, [114, 114, 110]), (7, [114, 110, 45]), (8, [114, 45, 45]), (9, [114, 45, 45]), (10, [45, 45, 45]), (11, [114, 45, 45]), (12, [45, 110, 45]), (13, [114, 110, 45])] : List (Int × Str))).isSome))])) rfl) (wl_ok (r_extract rfl rfl) (wl_ok (r_extract rfl rfl) (wl_ok (r_assign (v := (strV ((lk a.op ([(1, [114, 110, 45]), (2, [114, 114, 45]), (3, [114, 114, 114]), (4, [114, 114, 110]), (5, [114, 110, 45]), (6, [114, 114, 110]), (7, [114, 110, 45]), (8, [114, 45, 45]), (9, [114, 45, 45]), (10, [45, 45, 45]), (11, [114, 45, 45]), (12, [45, 110, 45]), (13, [114, 110, 45])] : List (Int × Str))).getD []))) rfl) (wl_ok (r_assign (v := (.bool ((lk a.op ([(1, [114, 110, 45]), (2, [114, 114, 45]), (3, [114, 114, 114]), (4, [114, 114, 110]), (5, [114, 110, 45]), (6, [114, 114, 110]), (7, [114, 110, 45]), (8, [114, 45, 45]), (9, [114, 45, 45]), (10, [45, 45, 45]), (11, [114, 45, 45]), (12, [45, 110, 45]), (13, [114, 110, 45])] : List (Int × Str))).isSome))) rfl) (wl_nil (then_normal (wc_seq (wc_seq (wc_region (wl_ok (r_move (v := (.bool ((lk a.op ([(1, [114, 110, 45]), (2, [114, 114, 45]), (3, [114, 114, 114]), (4, [114, 114, 110]), (5, [114, 110, 45]), (6, [114, 114, 110]), (7, [114, 110, 45]), (8, [114, 45, 45]), (9, [114, 45, 45]), (10, [45, 45, 45]), (11, [114, 45, 45]), (12, [45, 110, 45]), (13, [114, 110, 45])] : List (Int × Str))).isSome))) rfl) (wl_ok (r_notb rfl) (wl_nil (then_normal (wc_ifb hs rfl (fun c4 hs => ?_) (fun c4 hs => ?_))))))))))))))))))
 ·
  refine wc_seq (wc_region (wl_ok (r_assign (v := (.int .i64 (4))) rfl) (wl_nil (then_normal (wc_ret (then_ret (fin1 (v := (.int .i64 (4))) Tryd.results31 rfl ?_)))))))
  obtain rfl := Option.some.inj hs
  exact ⟨h.grown, rfl⟩
 ·
  refine wc_skip (then_normal (wc_seq (wc_seq (wc_region (wl_ok (r_fieldAddr Fld54x1 rfl) (wl_ok (r_ldB h 4 rfl One3 rfl rfl) (wl_ok (r_fieldAddr Fld54x2 rfl) (wl_ok (r_ldB h 4 rfl One3 rfl rfl) (wl_ok (r_fieldAddr Fld54x3 rfl) (wl_ok (r_ldB h 4 rfl One3 rfl rfl) (w_bs (R := rInt) (vs := [(.int .i64 (a.a)), (.int .i64 (a.b)), (.int .i64 (a.c))]) (xs := [a.a, a.b, a.c]) h 7 ElemOf43 rfl rfl rfl ⟨rfl, ⟨rfl, ⟨rfl, trivial⟩⟩⟩ rfl fun w u5 h => wl_ok (r_len SliceOf43 rfl (h.ownS 7 rfl)) (wl_ok (r_move (v := (.int .i64 (0))) rfl) (wl_nil (then_normal (wc_block ?_)))))))))))))))
  replace h := h.freeze 7 rfl
  refine wc_lp (σ := Nat × Int) (inl [6, 9, 10, 34, 35, 36, 37, 38, 39, 40, 41, 42, 43, 44, 45, 46, 47, 48, 49, 50]) (fun ⟨k6, i7⟩ => [(34, (.int .i64 (i7)))]) (fun ⟨k6, i7⟩ w => SH w0 M BE w (hset [(1, .sr rInt va4 a.args), (2, .sr rIns vb2 b.code), (3, .sr rProc vc c), (4, .blk b1 [(.int .i64 (a.op)), (.int .i64 (a.a)), (.int .i64 (a.b)), (.int .i64 (a.c)), va4]), (5, .blk b2 [(.int .i64 (b.params)), (.int .i64 (b.regs)), vb2]), (7, .rd rInt u5 [a.a, a.b, a.c])]) ∧ i7 = (k6 : Int) ∧ eachI (wandererref_checkIns_b16 a b) (wandererref_checkIns_k17 a b c) i7 ([a.a, a.b, a.c].drop k6) () = some r) (fun ⟨k6, i7⟩ => [a.a, a.b, a.c].length - k6) ⟨0, 0⟩ ⟨rfl, trivial⟩ ?_ ?_
  ·
   exact ⟨h.cn _, rfl, hs⟩
  ·
   rintro ⟨k6, i7⟩ w junk ⟨h, hik, hs⟩
   refine wc_seq (wc_region ?_)
   refine wl_ok (r_lss rfl rfl) (wl_nil (then_normal ?_))
   refine wc_seq (wc_if rfl (fun e11 => ?_) (fun e11 => ?_))
   ·
    refine wc_skip (then_normal ?_)
    obtain ⟨x8, e12a, e12b⟩ := drop_lt (hik ▸ e11)
    rw [e12b, eachI_cons] at hs
    generalize hnx10 : eachI (wandererref_checkIns_b16 a b) (wandererref_checkIns_k17 a b c) (i7 + 1) ([a.a, a.b, a.c].drop (k6 + 1)) = nx10 at hs
    have e12r := nat_rng ((h.rdS 7 rfl)).len_le hik e11
    refine wc_seq (wc_block (wc_seq (wc_region (wl_ok (r_move (v := (.int .i64 (i7))) rfl) ?_))))
    obtain ⟨b14, o15, cs16, h, r17, i13⟩ := h.ixR 7 8 rfl SliceOf43 rfl (nat_nn hik) (get_nat hik e12a)
    obtain rfl := r17
    refine wl_ok (i13 _ _ _ _ _ _ _ _ _ rfl rfl) (wl_ok (r_ldP (k := 0) h 8 rfl One3 rfl rfl) (wl_ok (r_assign (v := (.int .i64 (i7))) rfl) (wl_ok (r_assign (v := (.int .i64 (x8))) rfl) (wl_nil (then_normal (wc_seq (wc_region (wl_ok (r_move (v := (strV ((lk a.op ([(1, [114, 110, 45]), (2, [114, 114, 45]), (3, [114, 114, 114]), (4, [114, 114, 110]), (5, [114, 110, 45]), (6, [114, 114, 110]), (7, [114, 110, 45]), (8, [114, 45, 45]), (9, [114, 45, 45]), (10, [45, 45, 45]), (11, [114, 45, 45]), (12, [45, 110, 45]), (13, [114, 110, 45])] : List (Int × Str))).getD []))) rfl) (wl_ok (r_move (v := (.int .i64 (i7))) rfl) ?_)))))))))
    obtain ⟨x18, e19, hs⟩ := o_bind hs
    refine wl_ok (r_indexS Tryd.underlying9 rfl rfl (o_idx e19).1 (o_idx e19).2) (wl_ok (r_eql rfl rfl) (wl_ok (r_move (v := (.bool (decide (((x18.toNat : Int) : Int) = 114)))) rfl) (wl_gd0 rfl rfl (fun q => r_move (v := (.int .i64 (x8))) rfl) (wl_gd0 rfl rfl (fun q => r_fieldAddr Fld52x1 rfl) (wl_gd0 rfl rfl (fun q => r_ldB h 5 rfl One3 (gvt q) rfl) (w_callG0 rfl rfl fnOk53 rfl (fun q => la_cons (gvt q) (la_cons (gvt q) rfl)) (wandererref_below_c _ _ h.lt x8 b.regs _ rfl) fun w k20 => ?_))))))
    replace h := h.grow k20
    refine wl_gd0 rfl rfl (fun q => r_notb (gvt q)) (wl_ok (r_pand rfl rfl evc) (wl_nil (then_normal (wc_ifb hs rfl (fun c21 hs => ?_) (fun c21 hs => ?_)))))
    ·
     refine wc_seq (wc_region (wl_ok (r_assign (v := (.int .i64 (3))) rfl) (wl_nil (then_normal (wc_ret (inBlock_ret (then_ret (then_ret (inBlock_ret (then_ret (fin1 (v := (.int .i64 (3))) Tryd.results31 rfl ?_)))))))))))
     obtain rfl := Option.some.inj hs
     exact ⟨h.grown, rfl⟩
    ·
     refine wc_skip (inBlock_normal (then_normal (wc_region (wl_ok (r_add rfl rfl e12r) (wl_ok (r_move (v := (.int .i64 ((i7 + 1)))) rfl) (wl_nil (then_loop ?_)))))))
     subst hnx10
     exact lend ⟨k6 + 1, i7 + 1⟩ ⟨h.cn _, by omega, hs⟩ (by have := of_decide_eq_true e11; dsimp only; omega)
   ·
    rw [drop_ge (hik ▸ e11), eachI_nil] at hs
    refine wc_exit (then_exit (then_exit (inBlock_eq (then_normal (wc_seq (wc_region (wl_ok (r_assign (v := (.int .i64 (0))) rfl) (wl_nil (then_normal (wc_join (σ := Bool × Int) (inl [6, 8, 11, 51, 52, 53, 54, 55, 56, 57, 58, 59, 60, 61, 62, 63, 64, 65, 66, 67, 68, 69, 70, 71, 72, 73, 74, 75, 76, 77, 78, 79, 80, 81, 82, 83, 84, 85, 86, 87, 88, 89, 90, 91, 92, 93, 94, 95, 96, 97, 98, 99, 100, 101, 102, 103, 104]) (fun ⟨x22, x23⟩ => [(8, (.bool (x22))), (11, (.int .i64 (x23)))]) (fun ⟨x22, x23⟩ w => SH w0 M BE w (hset [(1, .sr rInt va4 a.args), (2, .sr rIns vb2 b.code), (4, .blk b1 [(.int .i64 (a.op)), (.int .i64 (a.a)), (.int .i64 (a.b)), (.int .i64 (a.c)), va4]), (5, .blk b2 [(.int .i64 (b.params)), (.int .i64 (b.regs)), vb2])]) ∧ wandererref_checkIns_j5 a b c x22 x23 = some r) ?_ ?_))))))))))
    ·
     rintro ⟨x22, x23⟩ w junk ⟨h, hs⟩
     refine wc_seq (wc_seq (wc_region (wl_ok (r_move (v := (.bool (x22))) rfl) (wl_ok (r_notb rfl) (wl_nil (then_normal (wc_ifb hs rfl (fun c24 hs => ?_) (fun c24 hs => ?_))))))))
     ·
      refine wc_seq (wc_region (wl_ok (r_assign (v := (.int .i64 (3))) rfl) (wl_nil (then_normal (wc_ret (then_ret (fin1 (v := (.int .i64 (3))) Tryd.results31 rfl ?_)))))))
      obtain rfl := Option.some.inj hs
      exact ⟨h.grown, rfl⟩
     ·
      refine wc_skip (then_normal (wc_seq (wc_seq (wc_region (wl_ok (r_fieldAddr Fld54x1 rfl) (wl_ok (r_ldB h 4 rfl One3 rfl rfl) (wl_ok (r_fieldAddr Fld54x2 rfl) (wl_ok (r_ldB h 4 rfl One3 rfl rfl) (wl_ok (r_fieldAddr Fld54x3 rfl) (wl_ok (r_ldB h 4 rfl One3 rfl rfl) (w_bs (R := rInt) (vs := [(.int .i64 (a.a)), (.int .i64 (a.b)), (.int .i64 (a.c))]) (xs := [a.a, a.b, a.c]) h 9 ElemOf43 rfl rfl rfl ⟨rfl, ⟨rfl, ⟨rfl, trivial⟩⟩⟩ rfl fun w u25 h => wl_ok (r_len SliceOf43 rfl (h.ownS 9 rfl)) (wl_ok (r_move (v := (.int .i64 (0))) rfl) (wl_nil (then_normal (wc_block ?_)))))))))))))))
      replace h := h.freeze 9 rfl
      refine wc_lp (σ := Nat × Int) (inl [6, 12, 13, 115, 116, 117, 118, 119, 120, 121, 122, 123, 124, 125, 126, 127, 128]) (fun ⟨k26, i27⟩ => [(115, (.int .i64 (i27)))]) (fun ⟨k26, i27⟩ w => SH w0 M BE w (hset [(1, .sr rInt va4 a.args), (2, .sr rIns vb2 b.code), (4, .blk b1 [(.int .i64 (a.op)), (.int .i64 (a.a)), (.int .i64 (a.b)), (.int .i64 (a.c)), va4]), (5, .blk b2 [(.int .i64 (b.params)), (.int .i64 (b.regs)), vb2]), (9, .rd rInt u25 [a.a, a.b, a.c])]) ∧ i27 = (k26 : Int) ∧ eachI (wandererref_checkIns_b12 a) (wandererref_checkIns_k13 a x23 b) i27 ([a.a, a.b, a.c].drop k26) () = some r) (fun ⟨k26, i27⟩ => [a.a, a.b, a.c].length - k26) ⟨0, 0⟩ ⟨rfl, trivial⟩ ?_ ?_
      ·
       exact ⟨h.cn _, rfl, hs⟩
      ·
       rintro ⟨k26, i27⟩ w junk ⟨h, hik, hs⟩
       refine wc_seq (wc_region ?_)
       refine wl_ok (r_lss rfl rfl) (wl_nil (then_normal ?_))
       refine wc_seq (wc_if rfl (fun e31 => ?_) (fun e31 => ?_))
       ·
        refine wc_skip (then_normal ?_)
        obtain ⟨x28, e32a, e32b⟩ := drop_lt (hik ▸ e31)
        rw [e32b, eachI_cons] at hs
        generalize hnx30 : eachI (wandererref_checkIns_b12 a) (wandererref_checkIns_k13 a x23 b) (i27 + 1) ([a.a, a.b, a.c].drop (k26 + 1)) = nx30 at hs
        have e32r := nat_rng ((h.rdS 9 rfl)).len_le hik e31
        refine wc_seq (wc_block (wc_seq (wc_region (wl_ok (r_move (v := (.int .i64 (i27))) rfl) ?_))))
        obtain ⟨b34, o35, cs36, h, r37, i33⟩ := h.ixR 9 10 rfl SliceOf43 rfl (nat_nn hik) (get_nat hik e32a)
        obtain rfl := r37
        refine wl_ok (i33 _ _ _ _ _ _ _ _ _ rfl rfl) (wl_ok (r_ldP (k := 0) h 10 rfl One3 rfl rfl) (wl_ok (r_assign (v := (.int .i64 (i27))) rfl) (wl_ok (r_assign (v := (.int .i64 (x28))) rfl) (wl_nil (then_normal (wc_seq (wc_region (wl_ok (r_move (v := (strV ((lk a.op ([(1, [114, 110, 45]), (2, [114, 114, 45]), (3, [114, 114, 114]), (4, [114, 114, 110]), (5, [114, 110, 45]), (6, [114, 114, 110]), (7, [114, 110, 45]), (8, [114, 45, 45]), (9, [114, 45, 45]), (10, [45, 45, 45]), (11, [114, 45, 45]), (12, [45, 110, 45]), (13, [114, 110, 45])] : List (Int × Str))).getD []))) rfl) (wl_ok (r_move (v := (.int .i64 (i27))) rfl) ?_)))))))))
        obtain ⟨x38, e39, hs⟩ := o_bind hs
        refine wl_ok (r_indexS Tryd.underlying9 rfl rfl (o_idx e39).1 (o_idx e39).2) (wl_ok (r_eql rfl rfl) (wl_ok (r_move (v := (.bool (decide (((x38.toNat : Int) : Int) = 45)))) rfl) (wl_gd0 rfl rfl (fun q => r_move (v := (.int .i64 (x28))) rfl) (wl_gd0 rfl rfl (fun q => r_neq (gvt q) rfl) (wl_ok (r_pand rfl rfl evc) (wl_nil (then_normal (wc_ifb hs rfl (fun c40 hs => ?_) (fun c40 hs => ?_)))))))))
        ·
         refine wc_seq (wc_region (wl_ok (r_assign (v := (.int .i64 (4))) rfl) (wl_nil (then_normal (wc_ret (inBlock_ret (then_ret (then_ret (inBlock_ret (then_ret (fin1 (v := (.int .i64 (4))) Tryd.results31 rfl ?_)))))))))))
         obtain rfl := Option.some.inj hs
         exact ⟨h.grown, rfl⟩
        ·
         refine wc_skip (inBlock_normal (then_normal (wc_region (wl_ok (r_add rfl rfl e32r) (wl_ok (r_move (v := (.int .i64 ((i27 + 1)))) rfl) (wl_nil (then_loop ?_)))))))
         subst hnx30
         exact lend ⟨k26 + 1, i27 + 1⟩ ⟨h.cn _, by omega, hs⟩ (by have := of_decide_eq_true e31; dsimp only; omega)
       ·
        rw [drop_ge (hik ▸ e31), eachI_nil] at hs
        refine wc_exit (then_exit (then_exit (inBlock_eq (then_normal (wc_seq (wc_seq (wc_region (wl_ok (r_fieldAddr Fld54x4 rfl) (wl_ok (r_ldB h 4 rfl One43 rfl rfl) (wl_ok (r_len SliceOf43 rfl (h.srS 1 rfl)) (wl_ok (r_move (v := (.int .i64 (x23))) rfl) (wl_ok (r_neq rfl rfl) (wl_nil (then_normal (wc_ifb hs rfl (fun c41 hs => ?_) (fun c41 hs => ?_))))))))))))))))
        ·
         refine wc_seq (wc_region (wl_ok (r_assign (v := (.int .i64 (4))) rfl) (wl_nil (then_normal (wc_ret (then_ret (fin1 (v := (.int .i64 (4))) Tryd.results31 rfl ?_)))))))
         obtain rfl := Option.some.inj hs
         exact ⟨h.grown, rfl⟩
        ·
         refine wc_skip (then_normal (wc_seq (wc_seq (wc_region (wl_ok (r_fieldAddr Fld54x4 rfl) (wl_ok (r_ldB h 4 rfl One43 rfl rfl) (wl_ok (r_len SliceOf43 rfl (h.srS 1 rfl)) (wl_ok (r_move (v := (.int .i64 (0))) rfl) (wl_nil (then_normal (wc_block (wc_lp (σ := Nat × Int) (inl [6, 15, 137, 138, 139, 140, 141, 142, 143, 144, 145, 146, 147, 148, 149, 150, 151]) (fun ⟨k42, i43⟩ => [(137, (.int .i64 (i43)))]) (fun ⟨k42, i43⟩ w => SH w0 M BE w (hset [(1, .sr rInt va4 a.args), (2, .sr rIns vb2 b.code), (4, .blk b1 [(.int .i64 (a.op)), (.int .i64 (a.a)), (.int .i64 (a.b)), (.int .i64 (a.c)), va4]), (5, .blk b2 [(.int .i64 (b.params)), (.int .i64 (b.regs)), vb2])]) ∧ i43 = (k42 : Int) ∧ each (wandererref_checkIns_b10 a b) wandererref_checkIns_k11 (a.args.drop k42) () = some r) (fun ⟨k42, i43⟩ => a.args.length - k42) ⟨0, 0⟩ ⟨rfl, trivial⟩ ?_ ?_))))))))))))
         ·
          exact ⟨h.cn _, rfl, hs⟩
         ·
          rintro ⟨k42, i43⟩ w junk ⟨h, hik, hs⟩
          refine wc_seq (wc_region ?_)
          refine wl_ok (r_lss rfl rfl) (wl_nil (then_normal ?_))
          refine wc_seq (wc_if rfl (fun e47 => ?_) (fun e47 => ?_))
          ·
           refine wc_skip (then_normal ?_)
           obtain ⟨x44, e48a, e48b⟩ := drop_lt (hik ▸ e47)
           rw [e48b, each_cons] at hs
           generalize hnx46 : each (wandererref_checkIns_b10 a b) wandererref_checkIns_k11 (a.args.drop (k42 + 1)) = nx46 at hs
           have e48r := nat_rng ((h.srS 1 rfl)).len_le hik e47
           refine wc_seq (wc_block (wc_seq (wc_region ?_)))
           obtain ⟨b50, o51, cs52, h, r53, i49⟩ := h.ixS 1 11 rfl SliceOf43 rfl (nat_nn hik) (get_nat hik e48a)
           obtain rfl := r53
           refine wl_ok (i49 _ _ _ _ _ _ _ _ _ rfl rfl) (wl_ok (r_ldP (k := 0) h 11 rfl One3 rfl rfl) (wl_ok (r_assign (v := (.int .i64 (x44))) rfl) (wl_nil (then_normal (wc_seq (wc_region (wl_ok (r_fieldAddr Fld54x0 rfl) (wl_ok (r_ldB h 4 rfl One3 rfl rfl) (wl_ok (r_eql rfl rfl) (wl_ok (r_move (v := (.bool (decide ((a.op : Int) = 7)))) rfl) (wl_gd0 rfl rfl (fun q => r_move (v := (.int .i64 (x44))) rfl) (wl_gd0 rfl rfl (fun q => r_fieldAddr Fld52x1 rfl) (wl_gd0 rfl rfl (fun q => r_ldB h 5 rfl One3 (gvt q) rfl) (w_callG0 rfl rfl fnOk53 rfl (fun q => la_cons (gvt q) (la_cons (gvt q) rfl)) (wandererref_below_c _ _ h.lt x44 b.regs _ rfl) fun w k54 => ?_))))))))))))))
           replace h := h.grow k54
           refine wl_gd0 rfl rfl (fun q => r_notb (gvt q)) (wl_ok (r_pand rfl rfl evc) (wl_nil (then_normal (wc_ifb hs rfl (fun c55 hs => ?_) (fun c55 hs => ?_)))))
           ·
            refine wc_seq (wc_region (wl_ok (r_assign (v := (.int .i64 (3))) rfl) (wl_nil (then_normal (wc_ret (inBlock_ret (then_ret (then_ret (inBlock_ret (then_ret (fin1 (v := (.int .i64 (3))) Tryd.results31 rfl ?_)))))))))))
            obtain rfl := Option.some.inj hs
            exact ⟨h.grown, rfl⟩
           ·
            refine wc_skip (inBlock_normal (then_normal (wc_region (wl_ok (r_add rfl rfl e48r) (wl_ok (r_move (v := (.int .i64 ((i43 + 1)))) rfl) (wl_nil (then_loop ?_)))))))
            subst hnx46
            exact lend ⟨k42 + 1, i43 + 1⟩ ⟨h.cn _, by omega, hs⟩ (by have := of_decide_eq_true e47; dsimp only; omega)
          ·
           rw [drop_ge (hik ▸ e47), each_nil] at hs
           refine wc_exit (then_exit (then_exit (inBlock_eq (then_normal (wc_seq (wc_region (wl_ok (r_assign (v := (.int .i64 (0))) rfl) (wl_nil (then_normal (wc_ret (fin1 (v := (.int .i64 (0))) Tryd.results31 rfl ?_)))))))))))
           obtain rfl := Option.some.inj hs
           exact ⟨h.grown, rfl⟩
    ·
     refine wc_seq (wc_region (wl_ok (r_fieldAddr Fld54x0 rfl) (wl_ok (r_ldB h 4 rfl One3 rfl rfl) (wl_nil (then_normal (wc_block (wc_seq (wc_region (wl_ok (r_eql rfl rfl) (wl_ok (r_assign (v := (.bool (decide ((a.op : Int) = 7)))) rfl) (wl_nil (then_normal (wc_ifb hs rfl (fun c56 hs => ?_) (fun c56 hs => ?_))))))))))))))
     ·
      refine wc_seq (wc_seq (wc_region (wl_ok (r_fieldAddr Fld54x2 rfl) (wl_ok (r_ldB h 4 rfl One3 rfl rfl) (wl_ok (r_move (v := vc) rfl) (wl_ok (r_len SliceOf22 rfl (h.srS 3 rfl)) (w_call fnOk53 rfl rfl (wandererref_below_c _ _ h.lt a.b (c.length : Int) _ rfl) ?_)))))))
      rintro _ w ⟨k57, rfl⟩
      refine ⟨_, rfl, ?_⟩
      replace h := h.grow k57
      refine wl_ok (r_notb rfl) (wl_nil (then_normal (wc_ifb hs rfl (fun c58 hs => ?_) (fun c58 hs => ?_))))
      ·
       refine wc_seq (wc_region (wl_ok (r_assign (v := (.int .i64 (5))) rfl) (wl_nil (then_normal (wc_ret (then_ret (inBlock_ret (then_ret (fin1 (v := (.int .i64 (5))) Tryd.results31 rfl ?_)))))))))
       obtain rfl := Option.some.inj hs
       exact ⟨h.grown, rfl⟩
      ·
       refine wc_skip (then_normal (wc_region (wl_ok (r_move (v := vc) rfl) (wl_ok (r_fieldAddr Fld54x2 rfl) (wl_ok (r_ldB h 4 rfl One3 rfl rfl) ?_)))))
       obtain ⟨x59, e60, hs⟩ := o_bind hs
       obtain ⟨b62, o63, cs64, h, r65, i61⟩ := h.ixS 3 12 rfl SliceOf22 rfl (o_idx e60).1 (o_idx e60).2
       obtain ⟨u66, rfl, g67⟩ := rProc_open r65
       replace h := h.knowRd 13 g67.up
       refine wl_ok (i61 _ _ _ _ _ _ _ _ _ rfl rfl) (wl_ok (r_fieldAddr Fld52x0 rfl) (wl_ok (r_ldP (k := 0) h 12 rfl One3 rfl rfl) (wl_ok (r_assign (v := (.int .i64 (x59.params))) rfl) (wl_nil (inBlock_normal (then_loop ?_))))))
       exact jend ((lk a.op ([(1, [114, 110, 45]), (2, [114, 114, 45]), (3, [114, 114, 114]), (4, [114, 114, 110]), (5, [114, 110, 45]), (6, [114, 114, 110]), (7, [114, 110, 45]), (8, [114, 45, 45]), (9, [114, 45, 45]), (10, [45, 45, 45]), (11, [114, 45, 45]), (12, [45, 110, 45]), (13, [114, 110, 45])] : List (Int × Str))).isSome, x59.params) ⟨h.cn _, hs⟩
     ·
      refine wc_seq (wc_region (wl_ok (r_eql rfl rfl) (wl_ok (r_assign (v := (.bool (decide ((a.op : Int) = 1)))) rfl) (wl_nil (then_normal (wc_ifb hs rfl (fun c68 hs => ?_) (fun c68 hs => ?_)))))))
      ·
       refine wc_region (wl_ok (r_fieldAddr Fld54x2 rfl) (wl_ok (r_ldB h 4 rfl One3 rfl rfl) (w_call fnOk54 rfl rfl (wandererref_fits_c _ _ h.lt a.b _ rfl) ?_)))
       rintro _ w ⟨k69, rfl⟩
       refine ⟨_, rfl, ?_⟩
       replace h := h.grow k69
       refine wl_ok (r_assign (v := (.bool ((wandererref_fits a.b)))) rfl) (wl_nil (inBlock_normal (then_loop ?_)))
       exact jend ((wandererref_fits a.b), 0) ⟨h.cn _, hs⟩
      ·
       refine wc_seq (wc_region (wl_ok (r_eql rfl rfl) (wl_ok (r_assign (v := (.bool (decide ((a.op : Int) = 5)))) rfl) (wl_nil (then_normal (wc_ifb hs rfl (fun c70 hs => ?_) (fun c70 hs => ?_)))))))
       ·
        refine wc_region (wl_ok (r_fieldAddr Fld54x2 rfl) (wl_ok (r_ldB h 4 rfl One3 rfl rfl) (w_call fnOk30 rfl rfl (wandererref_in_c _ _ h.lt a.b 1 4 _ rfl) ?_)))
        rintro _ w ⟨k71, rfl⟩
        refine ⟨_, rfl, ?_⟩
        replace h := h.grow k71
        refine wl_ok (r_assign (v := (.bool ((wandererref_in a.b 1 4)))) rfl) (wl_nil (inBlock_normal (then_loop ?_)))
        exact jend ((wandererref_in a.b 1 4), 0) ⟨h.cn _, hs⟩
       ·
        refine wc_join (σ := Bool) (inl [77, 78, 79]) (fun x72 => [(77, (.bool (x72)))]) (fun x72 w => SH w0 M BE w (hset [(1, .sr rInt va4 a.args), (2, .sr rIns vb2 b.code), (4, .blk b1 [(.int .i64 (a.op)), (.int .i64 (a.a)), (.int .i64 (a.b)), (.int .i64 (a.c)), va4]), (5, .blk b2 [(.int .i64 (b.params)), (.int .i64 (b.regs)), vb2])]) ∧ wandererref_checkIns_j14 a b c x72 = some r) ?_ ?_
        ·
         rintro x72 w junk ⟨h, hs⟩
         refine wc_ifb hs rfl (fun c73 hs => ?_) (fun c73 hs => ?_)
         ·
          refine wc_region (wl_ok (r_fieldAddr Fld54x3 rfl) (wl_ok (r_ldB h 4 rfl One3 rfl rfl) (w_call fnOk30 rfl rfl (wandererref_in_c _ _ h.lt a.c 0 3 _ rfl) ?_)))
          rintro _ w ⟨k74, rfl⟩
          refine ⟨_, rfl, ?_⟩
          replace h := h.grow k74
          refine wl_ok (r_assign (v := (.bool ((wandererref_in a.c 0 3)))) rfl) (wl_nil (inBlock_normal (then_loop ?_)))
          exact jend ((wandererref_in a.c 0 3), 0) ⟨h.cn _, hs⟩
         ·
          refine wc_seq (wc_region (wl_ok (r_eql rfl rfl) (wl_ok (r_assign (v := (.bool (decide ((a.op : Int) = 3)))) rfl) (wl_nil (then_normal (wc_ifb hs rfl (fun c75 hs => ?_) (fun c75 hs => ?_)))))))
          ·
           refine wc_seq (wc_region (wl_ok (r_assign (v := (.int .i64 (1))) rfl) (wl_nil (then_normal (wc_region (wl_ok (r_fieldAddr Fld54x4 rfl) (wl_ok (r_ldB h 4 rfl One43 rfl rfl) (wl_ok (r_len SliceOf43 rfl (h.srS 1 rfl)) (wl_ok (r_eql rfl rfl) (wl_ok (r_move (v := (.bool (decide (((a.args.length : Int) : Int) = 1)))) rfl) (c_split (b := decide (((a.args.length : Int) : Int) = 1)) hs (fun c76 hs => ?_) (fun c76 hs => ?_))))))))))))
           ·
            refine wl_on rfl (congrArg Value.bool c76) (wl_ok (r_fieldAddr Fld54x4 rfl) (wl_on rfl (congrArg Value.bool c76) (wl_ok (r_ldB h 4 rfl One43 rfl rfl) (wl_on rfl (congrArg Value.bool c76) ?_))))
            obtain ⟨x77, e78, hs⟩ := o_bind hs
            obtain ⟨b80, o81, cs82, h, r83, i79⟩ := h.ixS 1 14 rfl SliceOf43 rfl (o_idx e78).1 (o_idx e78).2
            obtain rfl := r83
            refine wl_ok (i79 _ _ _ _ _ _ _ _ _ rfl rfl) (wl_on rfl (congrArg Value.bool c76) (wl_ok (r_ldP (k := 0) h 14 rfl One3 rfl rfl) (wl_on rfl (congrArg Value.bool c76) (w_call fnOk30 rfl rfl (wandererref_in_c _ _ h.lt x77 1 5 _ rfl) ?_))))
            rintro _ w ⟨k84, rfl⟩
            refine ⟨_, rfl, ?_⟩
            replace h := h.grow k84
            refine wl_ok (r_pick (b := true) (v := (.bool ((wandererref_in x77 1 5)))) (congrArg Value.bool c76) rfl) (wl_ok (r_assign (v := (.bool ((wandererref_in x77 1 5)))) rfl) (wl_nil (inBlock_normal (then_loop ?_))))
            exact jend ((wandererref_in x77 1 5), 1) ⟨h.cn _, hs⟩
           ·
            refine wl_off (b' := false) rfl (congrArg Value.bool c76) rfl (wl_off (b' := false) rfl (congrArg Value.bool c76) rfl (wl_off (b' := false) rfl (congrArg Value.bool c76) rfl (wl_off (b' := false) rfl (congrArg Value.bool c76) rfl (wl_off (b' := false) rfl (congrArg Value.bool c76) rfl (wl_ok (r_pick (b := false) (v := (.bool (false))) (congrArg Value.bool c76) rfl) (wl_ok (r_assign (v := (.bool (false))) rfl) (wl_nil (inBlock_normal (then_loop ?_)))))))))
            exact jend (false, 1) ⟨h.cn _, hs⟩
          ·
           refine wc_join (σ := Bool) (inl [96, 97, 98]) (fun x85 => [(96, (.bool (x85)))]) (fun x85 w => SH w0 M BE w (hset [(1, .sr rInt va4 a.args), (2, .sr rIns vb2 b.code), (4, .blk b1 [(.int .i64 (a.op)), (.int .i64 (a.a)), (.int .i64 (a.b)), (.int .i64 (a.c)), va4]), (5, .blk b2 [(.int .i64 (b.params)), (.int .i64 (b.regs)), vb2])]) ∧ wandererref_checkIns_j15 a b c x85 = some r) ?_ ?_
           ·
            rintro x85 w junk ⟨h, hs⟩
            refine wc_ifb hs rfl (fun c86 hs => ?_) (fun c86 hs => ?_)
            ·
             refine wc_region (wl_ok (r_fieldAddr Fld54x2 rfl) (wl_ok (r_ldB h 4 rfl One3 rfl rfl) (wl_ok (r_fieldAddr Fld52x2 rfl) (wl_ok (r_ldB h 5 rfl One50 rfl rfl) (wl_ok (r_len SliceOf50 rfl (h.srS 2 rfl)) (w_call fnOk53 rfl rfl (wandererref_below_c _ _ h.lt a.b (b.code.length : Int) _ rfl) ?_))))))
             rintro _ w ⟨k87, rfl⟩
             refine ⟨_, rfl, ?_⟩
             replace h := h.grow k87
             refine wl_ok (r_assign (v := (.bool ((wandererref_below a.b (b.code.length : Int))))) rfl) (wl_nil (inBlock_normal (then_loop ?_)))
             exact jend ((wandererref_below a.b (b.code.length : Int)), 0) ⟨h.cn _, hs⟩
            ·
             refine wc_skip (inBlock_normal (then_loop ?_))
             exact jend ((lk a.op ([(1, [114, 110, 45]), (2, [114, 114, 45]), (3, [114, 114, 114]), (4, [114, 114, 110]), (5, [114, 110, 45]), (6, [114, 114, 110]), (7, [114, 110, 45]), (8, [114, 45, 45]), (9, [114, 45, 45]), (10, [45, 45, 45]), (11, [114, 45, 45]), (12, [45, 110, 45]), (13, [114, 110, 45])] : List (Int × Str))).isSome, 0) ⟨h.cn _, hs⟩
           ·
            refine wc_seq (wc_region (wl_ok (r_eql rfl rfl) (wl_ok (r_assign (v := (.bool (decide ((a.op : Int) = 12)))) rfl) (wl_nil (then_normal (wc_ifb hs rfl (fun c88 hs => ?_) (fun c88 hs => ?_)))))))
            ·
             refine wc_skip (then_loop ?_)
             exact jend (decide ((a.op : Int) = 12)) ⟨h.cn _, hs⟩
            ·
             refine wc_region (wl_ok (r_eql rfl rfl) (wl_ok (r_assign (v := (.bool (decide ((a.op : Int) = 13)))) rfl) (wl_nil (then_loop ?_))))
             exact jend (decide ((a.op : Int) = 13)) ⟨h.cn _, hs⟩
        ·
         refine wc_seq (wc_region (wl_ok (r_eql rfl rfl) (wl_ok (r_assign (v := (.bool (decide ((a.op : Int) = 4)))) rfl) (wl_nil (then_normal (wc_ifb hs rfl (fun c89 hs => ?_) (fun c89 hs => ?_)))))))
         ·
          refine wc_skip (then_loop ?_)
          exact jend (decide ((a.op : Int) = 4)) ⟨h.cn _, hs⟩
         ·
          refine wc_region (wl_ok (r_eql rfl rfl) (wl_ok (r_assign (v := (.bool (decide ((a.op : Int) = 6)))) rfl) (wl_nil (then_loop ?_))))
          exact jend (decide ((a.op : Int) = 6)) ⟨h.cn _, hs⟩
def wandererref_CheckCode_b35 (x25 : Proc) (a : List Proc) (x40 : Ins) (s : Unit) (nx42 : Unit → Option Int) : Option Int :=
  (wandererref_checkIns x40 x25 a).bind fun y53 => bif decide ((y53 : Int) ≠ 0) then some y53 else nx42 ()
def wandererref_CheckCode_k36 (x25 : Proc) (nx27 : Unit → Option Int) (s : Unit) : Option Int :=
  grd (I64 ((x25.code.length : Int) - 1)) ((idx x25.code ((x25.code.length : Int) - 1)).bind fun x58 => bif (decide ((x58.op : Int) ≠ 8) && decide ((x58.op : Int) ≠ 12)) then some 4 else nx27 ())
def wandererref_CheckCode_b37 (a : List Proc) (x25 : Proc) (s : Unit) (nx27 : Unit → Option Int) : Option Int :=
  each (wandererref_CheckCode_b35 x25 a) (wandererref_CheckCode_k36 x25 nx27) x25.code ()
def wandererref_CheckCode_k38 (s : Unit) : Option Int :=
  some 0
def wandererref_CheckCode_b39 (i4 : Int) (x5 : Proc) (s : Unit) (nx7 : Unit → Option Int) : Option Int :=
  bif (((!(wandererref_in x5.params 0 3)) || (!(wandererref_in x5.regs (max 1 x5.params) 40))) || (decide ((i4 : Int) = 0) && decide ((x5.params : Int) ≠ 0))) then some 3 else bif (!(wandererref_in (x5.code.length : Int) 1 2000)) then some 2 else nx7 ()
def wandererref_CheckCode_k40 (a : List Proc) (s : Unit) : Option Int :=
  each (wandererref_CheckCode_b37 a) wandererref_CheckCode_k38 a ()
def wandererref_CheckCode (a : List Proc) : Option Int :=
  bif (!(wandererref_in (a.length : Int) 1 4)) then some 2 else eachI wandererref_CheckCode_b39 (wandererref_CheckCode_k40 a) 0 a ()
theorem wandererref_CheckCode_c (w0 : World) (M : BS) (hM : ∀ b, M b → b < w0.heap.size) (va : Value) (a : List Proc) (ha : Rd2 rProc w0 BE M va a) (r : Int) (hs : wandererref_CheckCode a = some r) :
    Calls Tryd.prog 10 #[va] w0 (fun e w' => Grow w0 w' ∧ e = .returned (.int .i64 r)) := by
 refine calls_start (args := [va]) Tryd.func10 rfl Tryd.ntmps10 (Nat.le_of_ble_eq_true rfl) ?_
 have h := SH.init hM
 replace h := h.argSr 1 ha none_own
 have hl_a := ha.len_le
 refine wc_seq (wc_region (wl_ok (r_assign (v := (.int .i64 (0))) rfl) (wl_nil (then_normal (wc_seq (wc_seq (wc_region (wl_ok (r_move (v := va) rfl) (wl_ok (r_len SliceOf22 rfl (h.srS 1 rfl)) (w_call fnOk30 rfl rfl (wandererref_in_c _ _ h.lt (a.length : Int) 1 4 _ rfl) ?_))))))))))
 rintro _ w ⟨k1, rfl⟩
 refine ⟨_, rfl, ?_⟩
 replace h := h.grow k1
 refine wl_ok (r_notb rfl) (wl_nil (then_normal (wc_ifb hs rfl (fun c2 hs => ?_) (fun c2 hs => ?_))))
 ·
  refine wc_seq (wc_region (wl_ok (r_assign (v := (.int .i64 (2))) rfl) (wl_nil (then_normal (wc_ret (then_ret (fin1 (v := (.int .i64 (2))) Tryd.results10 rfl ?_)))))))
  obtain rfl := Option.some.inj hs
  exact ⟨h.grown, rfl⟩
 ·
  refine wc_skip (then_normal (wc_seq (wc_seq (wc_region (wl_ok (r_move (v := va) rfl) (wl_ok (r_len SliceOf22 rfl (h.srS 1 rfl)) (wl_ok (r_move (v := (.int .i64 (0))) rfl) (wl_nil (then_normal (wc_block (wc_lp (σ := Nat × Int) (inl [2, 3, 4, 17, 18, 19, 20, 21, 22, 23, 24, 25, 26, 27, 28, 29, 30, 31, 32, 33, 34, 35, 36, 37, 38, 39, 40, 41, 42, 43, 44, 45, 46, 47, 48, 49]) (fun ⟨k3, i4⟩ => [(17, (.int .i64 (i4)))]) (fun ⟨k3, i4⟩ w => SH w0 M BE w (hset [(1, .sr rProc va a)]) ∧ i4 = (k3 : Int) ∧ eachI wandererref_CheckCode_b39 (wandererref_CheckCode_k40 a) i4 (a.drop k3) () = some r) (fun ⟨k3, i4⟩ => a.length - k3) ⟨0, 0⟩ ⟨rfl, trivial⟩ ?_ ?_)))))))))))
  ·
   exact ⟨h.cn _, rfl, hs⟩
  ·
   rintro ⟨k3, i4⟩ w junk ⟨h, hik, hs⟩
   refine wc_seq (wc_region ?_)
   refine wl_ok (r_lss rfl rfl) (wl_nil (then_normal ?_))
   refine wc_seq (wc_if rfl (fun e8 => ?_) (fun e8 => ?_))
   ·
    refine wc_skip (then_normal ?_)
    obtain ⟨x5, e9a, e9b⟩ := drop_lt (hik ▸ e8)
    rw [e9b, eachI_cons] at hs
    generalize hnx7 : eachI wandererref_CheckCode_b39 (wandererref_CheckCode_k40 a) (i4 + 1) (a.drop (k3 + 1)) = nx7 at hs
    have e9r := nat_rng ((h.srS 1 rfl)).len_le hik e8
    refine wc_seq (wc_block (wc_seq (wc_region (wl_ok (r_move (v := (.int .i64 (i4))) rfl) ?_))))
    obtain ⟨b11, o12, cs13, h, r14, i10⟩ := h.ixS 1 2 rfl SliceOf22 rfl (nat_nn hik) (get_nat hik e9a)
    obtain ⟨u15, rfl, g16⟩ := rProc_open r14
    replace h := h.knowRd 3 g16.up
    refine wl_ok (i10 _ _ _ _ _ _ _ _ _ rfl rfl) (wl_ok (r_ldPN (k := 0) (vs := [(.int .i64 (x5.params)), (.int .i64 (x5.regs)), u15]) h 2 rfl Many52 rfl rfl rfl (Nat.le_of_ble_eq_true rfl)) (w_allocN h 4 Many52 fun w b17 h => wl_ok (r_assign (v := (.int .i64 (i4))) rfl) (w_stN (vs := [(.int .i64 (x5.params)), (.int .i64 (x5.regs)), u15]) h 4 [(.int .i64 (x5.params)), (.int .i64 (x5.regs)), u15] rfl Many52 rfl rfl rfl rfl rfl (ones_cons rfl (ones_cons rfl (ones_cons (h.rdAt 3 rfl).one ones_nil))) fun w h => wl_nil (then_normal (wc_seq (wc_seq (wc_region (wl_ok (r_fieldAddr Fld52x0 rfl) (wl_ok (r_ldB h 4 rfl One3 rfl rfl) (w_call fnOk30 rfl rfl (wandererref_in_c _ _ h.lt x5.params 0 3 _ rfl) ?_))))))))))
    rintro _ w ⟨k18, rfl⟩
    refine ⟨_, rfl, ?_⟩
    replace h := h.grow k18
    refine wl_ok (r_notb rfl) (wl_ok (r_move (v := (.bool ((!(wandererref_in x5.params 0 3))))) rfl) (wl_gd0 rfl rfl (fun q => r_fieldAddr Fld52x1 rfl) (wl_gd0 rfl rfl (fun q => r_ldB h 4 rfl One3 (gvt q) rfl) (wl_gd0 rfl rfl (fun q => r_fieldAddr Fld52x0 rfl) (wl_gd0 rfl rfl (fun q => r_ldB h 4 rfl One3 (gvt q) rfl) (wl_gd0 rfl rfl (fun q => r_max rfl (gvt q)) (w_callG0 rfl rfl fnOk30 rfl (fun q => la_cons (gvt q) (la_cons (gvt q) (la_cons rfl rfl))) (wandererref_in_c _ _ h.lt x5.regs (max 1 x5.params) 40 _ rfl) fun w k19 => ?_)))))))
    replace h := h.grow k19
    refine wl_gd0 rfl rfl (fun q => r_notb (gvt q)) (wl_ok (r_por rfl rfl evc) (wl_ok (r_move (v := (.bool (((!(wandererref_in x5.params 0 3)) || (!(wandererref_in x5.regs (max 1 x5.params) 40)))))) rfl) (wl_gd0 rfl rfl (fun q => r_move (v := (.int .i64 (i4))) rfl) (wl_gd0 rfl rfl (fun q => r_eql (gvt q) rfl) (wl_gd0 rfl rfl (fun q => r_move (v := (.bool (decide ((i4 : Int) = 0)))) (gvt q)) (wl_gd (((!(wandererref_in x5.params 0 3)) || (!(wandererref_in x5.regs (max 1 x5.params) 40))) == false) rfl rfl (fun q => r_fieldAddr Fld52x0 rfl) (wl_gd (((!(wandererref_in x5.params 0 3)) || (!(wandererref_in x5.regs (max 1 x5.params) 40))) == false) rfl rfl (fun q => r_ldB h 4 rfl One3 (gvt q) rfl) (wl_gd (((!(wandererref_in x5.params 0 3)) || (!(wandererref_in x5.regs (max 1 x5.params) 40))) == false) rfl rfl (fun q => r_neq (gvt q) rfl) (wl_gd0 rfl rfl (fun q => r_pand (gvt q) (gvn q) evc) (wl_ok (r_por rfl rfl evc) (wl_nil (then_normal (wc_ifb hs rfl (fun c20 hs => ?_) (fun c20 hs => ?_))))))))))))))
    ·
     refine wc_seq (wc_region (wl_ok (r_assign (v := (.int .i64 (3))) rfl) (wl_nil (then_normal (wc_ret (then_ret (inBlock_ret (then_ret (then_ret (inBlock_ret (then_ret (fin1 (v := (.int .i64 (3))) Tryd.results10 rfl ?_))))))))))))
     obtain rfl := Option.some.inj hs
     exact ⟨h.grown, rfl⟩
    ·
     refine wc_skip (then_normal (wc_seq (wc_region (wl_ok (r_fieldAddr Fld52x2 rfl) (wl_ok (r_ldB h 4 rfl One50 rfl rfl) (wl_ok (r_len SliceOf50 rfl (h.rdS 3 rfl)) (w_call fnOk30 rfl rfl (wandererref_in_c _ _ h.lt (x5.code.length : Int) 1 2000 _ rfl) ?_)))))))
     rintro _ w ⟨k21, rfl⟩
     refine ⟨_, rfl, ?_⟩
     replace h := h.grow k21
     refine wl_ok (r_notb rfl) (wl_nil (then_normal (wc_ifb hs rfl (fun c22 hs => ?_) (fun c22 hs => ?_))))
     ·
      refine wc_seq (wc_region (wl_ok (r_assign (v := (.int .i64 (2))) rfl) (wl_nil (then_normal (wc_ret (inBlock_ret (then_ret (then_ret (inBlock_ret (then_ret (fin1 (v := (.int .i64 (2))) Tryd.results10 rfl ?_)))))))))))
      obtain rfl := Option.some.inj hs
      exact ⟨h.grown, rfl⟩
     ·
      refine wc_skip (inBlock_normal (then_normal (wc_region (wl_ok (r_add rfl rfl e9r) (wl_ok (r_move (v := (.int .i64 ((i4 + 1)))) rfl) (wl_nil (then_loop ?_)))))))
      subst hnx7
      exact lend ⟨k3 + 1, i4 + 1⟩ ⟨h.cn _, by omega, hs⟩ (by have := of_decide_eq_true e8; dsimp only; omega)
   ·
    rw [drop_ge (hik ▸ e8), eachI_nil] at hs
    refine wc_exit (then_exit (then_exit (inBlock_eq (then_normal (wc_seq (wc_seq (wc_region (wl_ok (r_move (v := va) rfl) (wl_ok (r_len SliceOf22 rfl (h.srS 1 rfl)) (wl_ok (r_move (v := (.int .i64 (0))) rfl) (wl_nil (then_normal (wc_block (wc_lp (σ := Nat × Int) (inl [2, 6, 8, 9, 10, 52, 53, 54, 55, 56, 57, 58, 59, 60, 61, 62, 63, 64, 65, 66, 67, 68, 69, 70, 71, 72, 73, 74, 75, 76, 77, 78, 79, 80, 81, 82, 83, 84, 85, 86]) (fun ⟨k23, i24⟩ => [(52, (.int .i64 (i24)))]) (fun ⟨k23, i24⟩ w => SH w0 M BE w (hset [(1, .sr rProc va a)]) ∧ i24 = (k23 : Int) ∧ each (wandererref_CheckCode_b37 a) wandererref_CheckCode_k38 (a.drop k23) () = some r) (fun ⟨k23, i24⟩ => a.length - k23) ⟨0, 0⟩ ⟨rfl, trivial⟩ ?_ ?_))))))))))))))
    ·
     exact ⟨h.cn _, rfl, hs⟩
    ·
     rintro ⟨k23, i24⟩ w junk ⟨h, hik, hs⟩
     refine wc_seq (wc_region ?_)
     refine wl_ok (r_lss rfl rfl) (wl_nil (then_normal ?_))
     refine wc_seq (wc_if rfl (fun e28 => ?_) (fun e28 => ?_))
     ·
      refine wc_skip (then_normal ?_)
      obtain ⟨x25, e29a, e29b⟩ := drop_lt (hik ▸ e28)
      rw [e29b, each_cons] at hs
      generalize hnx27 : each (wandererref_CheckCode_b37 a) wandererref_CheckCode_k38 (a.drop (k23 + 1)) = nx27 at hs
      have e29r := nat_rng ((h.srS 1 rfl)).len_le hik e28
      refine wc_seq (wc_block (wc_seq (wc_region ?_)))
      obtain ⟨b31, o32, cs33, h, r34, i30⟩ := h.ixS 1 5 rfl SliceOf22 rfl (nat_nn hik) (get_nat hik e29a)
      obtain ⟨u35, rfl, g36⟩ := rProc_open r34
      replace h := h.knowRd 6 g36.up
      refine wl_ok (i30 _ _ _ _ _ _ _ _ _ rfl rfl) (wl_ok (r_ldPN (k := 0) (vs := [(.int .i64 (x25.params)), (.int .i64 (x25.regs)), u35]) h 5 rfl Many52 rfl rfl rfl (Nat.le_of_ble_eq_true rfl)) (w_allocN h 7 Many52 fun w b37 h => w_stN (vs := [(.int .i64 (x25.params)), (.int .i64 (x25.regs)), u35]) h 7 [(.int .i64 (x25.params)), (.int .i64 (x25.regs)), u35] rfl Many52 rfl rfl rfl rfl rfl (ones_cons rfl (ones_cons rfl (ones_cons (h.rdAt 6 rfl).one ones_nil))) fun w h => wl_nil (then_normal (wc_seq (wc_seq (wc_region (wl_ok (r_fieldAddr Fld52x2 rfl) (wl_ok (r_ldB h 7 rfl One50 rfl rfl) (wl_ok (r_len SliceOf50 rfl (h.rdS 6 rfl)) (wl_ok (r_move (v := (.int .i64 (0))) rfl) (wl_nil (then_normal (wc_block (wc_lp (σ := Nat × Int) (inl [2, 8, 9, 59, 60, 61, 62, 63, 64, 65, 66, 67, 68, 69, 70]) (fun ⟨k38, i39⟩ => [(59, (.int .i64 (i39)))]) (fun ⟨k38, i39⟩ w => SH w0 M BE w (hset [(1, .sr rProc va a), (6, .rd rIns u35 x25.code), (7, .blk b37 [(.int .i64 (x25.params)), (.int .i64 (x25.regs)), u35])]) ∧ i39 = (k38 : Int) ∧ each (wandererref_CheckCode_b35 x25 a) (wandererref_CheckCode_k36 x25 nx27) (x25.code.drop k38) () = some r) (fun ⟨k38, i39⟩ => x25.code.length - k38) ⟨0, 0⟩ ⟨rfl, trivial⟩ ?_ ?_))))))))))))))
      ·
       exact ⟨h.cn _, rfl, hs⟩
      ·
       rintro ⟨k38, i39⟩ w junk ⟨h, hik, hs⟩
       refine wc_seq (wc_region ?_)
       refine wl_ok (r_lss rfl rfl) (wl_nil (then_normal ?_))
       refine wc_seq (wc_if rfl (fun e43 => ?_) (fun e43 => ?_))
       ·
        refine wc_skip (then_normal ?_)
        obtain ⟨x40, e44a, e44b⟩ := drop_lt (hik ▸ e43)
        rw [e44b, each_cons] at hs
        generalize hnx42 : each (wandererref_CheckCode_b35 x25 a) (wandererref_CheckCode_k36 x25 nx27) (x25.code.drop (k38 + 1)) = nx42 at hs
        have e44r := nat_rng ((h.rdS 6 rfl)).len_le hik e43
        refine wc_seq (wc_block (wc_seq (wc_region ?_)))
        obtain ⟨b46, o47, cs48, h, r49, i45⟩ := h.ixR 6 8 rfl SliceOf50 rfl (nat_nn hik) (get_nat hik e44a)
        obtain ⟨u50, rfl, g51⟩ := rIns_open r49
        replace h := h.knowRd 9 g51.up
        refine wl_ok (i45 _ _ _ _ _ _ _ _ _ rfl rfl) (wl_ok (r_ldPN (k := 0) (vs := [(.int .i64 (x40.op)), (.int .i64 (x40.a)), (.int .i64 (x40.b)), (.int .i64 (x40.c)), u50]) h 8 rfl Many54 rfl rfl rfl (Nat.le_of_ble_eq_true rfl)) (w_allocN h 10 Many54 fun w b52 h => w_stN (vs := [(.int .i64 (x40.op)), (.int .i64 (x40.a)), (.int .i64 (x40.b)), (.int .i64 (x40.c)), u50]) h 10 [(.int .i64 (x40.op)), (.int .i64 (x40.a)), (.int .i64 (x40.b)), (.int .i64 (x40.c)), u50] rfl Many54 rfl rfl rfl rfl rfl (ones_cons rfl (ones_cons rfl (ones_cons rfl (ones_cons rfl (ones_cons (h.rdAt 9 rfl).one ones_nil))))) fun w h => wl_nil (then_normal (wc_seq (wc_region (wl_ok (r_ldBN (vs := [(.int .i64 (x40.op)), (.int .i64 (x40.a)), (.int .i64 (x40.b)), (.int .i64 (x40.c)), u50]) h 10 rfl Many54 rfl rfl rfl) (wl_ok (r_ldBN (vs := [(.int .i64 (x25.params)), (.int .i64 (x25.regs)), u35]) h 7 rfl Many52 rfl rfl rfl) (wl_ok (r_move (v := va) rfl) ?_))))))))
        obtain ⟨y53, e54, hs⟩ := o_bind hs
        refine w_call fnOk31 rfl rfl (wandererref_checkIns_c _ _ h.lt x40 u50 (h.rdS 9 rfl) x25 u35 (h.rdS 6 rfl) va a (h.srS 1 rfl) _ e54) ?_
        rintro _ w ⟨k55, rfl⟩
        refine ⟨_, rfl, ?_⟩
        replace h := h.grow k55
        refine wl_ok (r_assign (v := (.int .i64 (y53))) rfl) (wl_nil (then_normal (wc_seq (wc_region (wl_ok (r_move (v := (.int .i64 (y53))) rfl) (wl_ok (r_neq rfl rfl) (wl_nil (then_normal (wc_ifb hs rfl (fun c56 hs => ?_) (fun c56 hs => ?_))))))))))
        ·
         refine wc_seq (wc_region (wl_ok (r_move (v := (.int .i64 (y53))) rfl) (wl_ok (r_assign (v := (.int .i64 (y53))) rfl) (wl_nil (then_normal (wc_ret (inBlock_ret (then_ret (then_ret (inBlock_ret (then_ret (inBlock_ret (then_ret (then_ret (inBlock_ret (then_ret (fin1 (v := (.int .i64 (y53))) Tryd.results10 rfl ?_)))))))))))))))))
         obtain rfl := Option.some.inj hs
         exact ⟨h.grown, rfl⟩
        ·
         refine wc_skip (inBlock_normal (then_normal (wc_region (wl_ok (r_add rfl rfl e44r) (wl_ok (r_move (v := (.int .i64 ((i39 + 1)))) rfl) (wl_nil (then_loop ?_)))))))
         subst hnx42
         exact lend ⟨k38 + 1, i39 + 1⟩ ⟨h.cn _, by omega, hs⟩ (by have := of_decide_eq_true e43; dsimp only; omega)
       ·
        rw [drop_ge (hik ▸ e43), each_nil] at hs
        refine wc_exit (then_exit (then_exit (inBlock_eq (then_normal (wc_seq (wc_region (wl_ok (r_fieldAddr Fld52x2 rfl) (wl_ok (r_ldB h 7 rfl One50 rfl rfl) (wl_ok (r_fieldAddr Fld52x2 rfl) (wl_ok (r_ldB h 7 rfl One50 rfl rfl) (wl_ok (r_len SliceOf50 rfl (h.rdS 6 rfl)) ?_)))))))))))
        obtain ⟨a57, hs⟩ := o_grd hs
        refine wl_ok (r_sub rfl rfl a57) ?_
        obtain ⟨x58, e59, hs⟩ := o_bind hs
        obtain ⟨b61, o62, cs63, h, r64, i60⟩ := h.ixR 6 11 rfl SliceOf50 rfl (o_idx e59).1 (o_idx e59).2
        obtain ⟨u65, rfl, g66⟩ := rIns_open r64
        replace h := h.knowRd 12 g66.up
        refine wl_ok (i60 _ _ _ _ _ _ _ _ _ rfl rfl) (wl_ok (r_fieldAddr Fld54x0 rfl) (wl_ok (r_ldP (k := 0) h 11 rfl One3 rfl rfl) (wl_ok (r_assign (v := (.int .i64 (x58.op))) rfl) (wl_nil (then_normal (wc_seq (wc_region (wl_ok (r_move (v := (.int .i64 (x58.op))) rfl) (wl_ok (r_neq rfl rfl) (wl_ok (r_move (v := (.bool (decide ((x58.op : Int) ≠ 8)))) rfl) (wl_gd0 rfl rfl (fun q => r_move (v := (.int .i64 (x58.op))) rfl) (wl_gd0 rfl rfl (fun q => r_neq (gvt q) rfl) (wl_ok (r_pand rfl rfl evc) (wl_nil (then_normal (wc_ifb hs rfl (fun c67 hs => ?_) (fun c67 hs => ?_)))))))))))))))))
        ·
         refine wc_seq (wc_region (wl_ok (r_assign (v := (.int .i64 (4))) rfl) (wl_nil (then_normal (wc_ret (inBlock_ret (then_ret (then_ret (inBlock_ret (then_ret (fin1 (v := (.int .i64 (4))) Tryd.results10 rfl ?_)))))))))))
         obtain rfl := Option.some.inj hs
         exact ⟨h.grown, rfl⟩
        ·
         refine wc_skip (inBlock_normal (then_normal (wc_region (wl_ok (r_add rfl rfl e29r) (wl_ok (r_move (v := (.int .i64 ((i24 + 1)))) rfl) (wl_nil (then_loop ?_)))))))
         subst hnx27
         exact lend ⟨k23 + 1, i24 + 1⟩ ⟨h.cn _, by omega, hs⟩ (by have := of_decide_eq_true e28; dsimp only; omega)
     ·
      rw [drop_ge (hik ▸ e28), each_nil] at hs
      refine wc_exit (then_exit (then_exit (inBlock_eq (then_normal (wc_seq (wc_region (wl_ok (r_assign (v := (.int .i64 (0))) rfl) (wl_nil (then_normal (wc_ret (fin1 (v := (.int .i64 (0))) Tryd.results10 rfl ?_)))))))))))
      obtain rfl := Option.some.inj hs
      exact ⟨h.grown, rfl⟩
theorem strings_Join_c (w0 : World) (M : BS) (hM : ∀ b, M b → b < w0.heap.size) (va : Value) (a : List Str) (ha : Rd2 rStr w0 BE M va a) (b : Str) (r : Str) (hs : joinS a b = some r) :
    Calls Tryd.prog 33 #[va, strV b] w0 (fun e w' => Grow w0 w' ∧ e = .returned (strV r)) :=
  join_w Tryd.strings_Join_none Tryd.strings_Join ha hs
theorem slices_Grow_int_c (w0 : World) (M : BS) (hM : ∀ b, M b → b < w0.heap.size) (a : Int) (r : List Int) (hs : growN 8 a = some r) :
    Calls Tryd.prog 56 #[.slice none 0 0, .int .i64 a] w0 (fun e w' => Grow w0 w' ∧ ∃ u, e = .returned u ∧ OwnSl rInt 3 w' M u r ∧ (∀ b, ob u b → w0.heap.size ≤ b)) := by
  obtain ⟨hr, hs⟩ := o_grd hs
  cases hs
  obtain ⟨k, rfl⟩ := Int.eq_ofNat_of_zero_le hr.1
  have hkb : k * 8 ≤ 140737488355328 := by omega
  refine calls_start (args := [.slice none 0 0, .int .i64 (k : Int)]) Tryd.func56 rfl Tryd.ntmps56 (Nat.le_of_ble_eq_true rfl) ?_
  refine wc_seq (wc_region (wl_ok (r_assign (v := .slice none 0 0) rfl) (wl_nil (then_normal ?_))))
  refine wc_seq (wc_seq (wc_region (wl_ok (r_move (v := .int .i64 (k : Int)) rfl) (wl_ok (r_lss (p := (k : Int)) (q := 0) rfl rfl) (wl_nil (then_normal ?_))))))
  refine wc_if rfl (fun c => absurd (of_decide_eq_true c) (by omega)) (fun _ => wc_skip (then_normal ?_))
  refine wc_seq (wc_seq (wc_region ?_))
  refine wl_ok (r_move (v := .int .i64 (k : Int)) rfl) (wl_ok (r_move (v := .slice none 0 0) rfl) (wl_ok (r_cap (a := none) (l := 0) (c := 0) SliceOf43 rfl) (wl_ok (r_move (v := .slice none 0 0) rfl) (wl_ok (r_len_slice (a := none) (l := 0) (c := 0) SliceOf43 rfl) (wl_ok (r_sub (p := 0) (q := 0) rfl rfl (by decide)) (wl_ok (r_sub (p := (k : Int)) (q := 0 - 0) rfl rfl (by omega)) (wl_ok (r_assign (v := .int .i64 ((k : Int) - (0 - 0))) rfl) (wl_nil (then_normal ?_)))))))))
  refine wc_seq (wc_region (wl_ok (r_move (v := .int .i64 ((k : Int) - (0 - 0))) rfl) (wl_ok (r_gtr (p := (k : Int) - (0 - 0)) (q := 0) rfl rfl) (wl_nil (then_normal ?_)))))
  refine wc_if rfl (fun c => ?_) (fun c => ?_)
  · have hk : 0 < k := by have := of_decide_eq_true c; omega
    refine wc_region ?_
    refine wl_ok (r_move (v := .slice none 0 0) rfl) (wl_ok (r_move (v := .slice none 0 0) rfl) (wl_ok (r_cap (a := none) (l := 0) (c := 0) SliceOf43 rfl) (wl_ok (r_sliceTo (b := 0) (ad := none) (len := 0) (cap := 0) SliceOf43 rfl (.inl rfl) (.inl ⟨rfl, rfl⟩) rfl (Nat.le_refl _)) (wl_ok (r_move (v := .int .i64 (k : Nat)) (congrArg (Value.int .i64) (by omega))) ?_))))
    refine wl_growNil (R := rInt) (A := M) (k := k) ElemOf43 rfl Tryd.underlying3 rfl rfl hk (by decide) hkb fun w gg cap hg h1 h2 h3 ho => ?_
    refine wl_ok (r_move (v := .slice none 0 0) rfl) (wl_ok (r_len_slice (a := none) (l := 0) (c := 0) SliceOf43 rfl) (wl_ok (r_sliceTo (b := 0) (ad := some ⟨gg, 0, none⟩) (len := k) (cap := cap) SliceOf43 rfl (.inr ⟨gg, rfl⟩) (.inl ⟨rfl, rfl⟩) rfl (Nat.zero_le _)) (wl_ok (r_assign (v := .slice (some ⟨gg, 0, none⟩) 0 cap) rfl) (wl_nil (then_normal ?_)))))
    refine wc_seq (wc_region (wl_ok (r_move (v := .slice (some ⟨gg, 0, none⟩) 0 cap) rfl) (wl_ok (r_assign (v := .slice (some ⟨gg, 0, none⟩) 0 cap) rfl) (wl_nil (then_normal (wc_ret ?_))))))
    exact fin1 (v := .slice (some ⟨gg, 0, none⟩) 0 cap) Tryd.results56 rfl ⟨hg, _, rfl, ho, fun b hb => by have : b = gg := hb; omega⟩
  · refine wc_skip (then_normal (wc_seq (wc_region (wl_ok (r_move (v := .slice none 0 0) rfl) (wl_ok (r_assign (v := .slice none 0 0) rfl) (wl_nil (then_normal (wc_ret ?_))))))))
    exact fin1 (v := .slice none 0 0) Tryd.results56 rfl ⟨Keep.refl _ _, _, rfl, OwnSl.nil, fresh_nil⟩
def slices_Concat_int_b5 (x37 : List Int) (x34 : List Int) (nx39 : List Int → Option (List Int)) : Option (List Int) :=
  grd (Room 8 x34 x37) (nx39 (x34 ++ x37))
def slices_Concat_int_k6 (x34 : List Int) : Option (List Int) :=
  some x34
def slices_Concat_int_b7 (x7 : List Int) (x4 : Int) (nx9 : Int → Option (List Int)) : Option (List Int) :=
  grd (I64 (x4 + (x7.length : Int))) (bif decide (((x4 + (x7.length : Int)) : Int) < 0) then none else nx9 (x4 + (x7.length : Int)))
def slices_Concat_int_k8 (a : List (List Int)) (x4 : Int) : Option (List Int) :=
  (growN 8 x4).bind fun y21 => each slices_Concat_int_b5 slices_Concat_int_k6 a y21
def slices_Concat_int (a : List (List Int)) : Option (List Int) :=
  each slices_Concat_int_b7 (slices_Concat_int_k8 a) a 0
theorem slices_Concat_int_c (w0 : World) (M : BS) (hM : ∀ b, M b → b < w0.heap.size) (va : Value) (a : List (List Int)) (ha : Rd2 (rSl rInt) w0 BE M va a) (r : List Int) (hs : slices_Concat_int a = some r) :
    Calls Tryd.prog 34 #[va] w0 (fun e w' => Grow w0 w' ∧ ∃ u0, e = .returned (u0) ∧ OwnSl rInt 3 w' M u0 r ∧ (∀ b, ob u0 b → w0.heap.size ≤ b)) := by
 refine calls_start (args := [va]) Tryd.func34 rfl Tryd.ntmps34 (Nat.le_of_ble_eq_true rfl) ?_
 have h := SH.init hM
 replace h := h.argSr 1 ha none_own
 have hl_a := ha.len_le
 refine wc_seq (wc_region (wl_ok (r_assign (v := (.slice none 0 0)) rfl) (wl_nil (then_normal (wc_seq (wc_region (wl_ok (r_assign (v := (.int .i64 (0))) rfl) (wl_nil (then_normal (wc_seq (wc_seq (wc_region (wl_ok (r_move (v := va) rfl) (wl_ok (r_len SliceOf96 rfl (h.srS 1 rfl)) (wl_ok (r_move (v := (.int .i64 (0))) rfl) (wl_nil (then_normal (wc_block (wc_lp (σ := Nat × Int × Int) (inl [3, 5, 11, 12, 13, 14, 15, 16, 17, 18, 19, 20, 21, 22]) (fun ⟨k5, i6, x4⟩ => [(3, (.int .i64 (x4))), (11, (.int .i64 (i6)))]) (fun ⟨k5, i6, x4⟩ w => SH w0 M BE w (hset [(1, .sr (rSl rInt) va a)]) ∧ i6 = (k5 : Int) ∧ each slices_Concat_int_b7 (slices_Concat_int_k8 a) (a.drop k5) x4 = some r) (fun ⟨k5, i6, x4⟩ => a.length - k5) ⟨0, 0, 0⟩ ⟨rfl, rfl, trivial⟩ ?_ ?_)))))))))))))))))))
 ·
  exact ⟨h.cn _, rfl, hs⟩
 ·
  rintro ⟨k5, i6, x4⟩ w junk ⟨h, hik, hs⟩
  refine wc_seq (wc_region ?_)
  refine wl_ok (r_lss rfl rfl) (wl_nil (then_normal ?_))
  refine wc_seq (wc_if rfl (fun e10 => ?_) (fun e10 => ?_))
  ·
   refine wc_skip (then_normal ?_)
   obtain ⟨x7, e11a, e11b⟩ := drop_lt (hik ▸ e10)
   rw [e11b, each_cons] at hs
   generalize hnx9 : each slices_Concat_int_b7 (slices_Concat_int_k8 a) (a.drop (k5 + 1)) = nx9 at hs
   have e11r := nat_rng ((h.srS 1 rfl)).len_le hik e10
   refine wc_seq (wc_block (wc_seq (wc_region ?_)))
   obtain ⟨b13, o14, cs15, h, r16, i12⟩ := h.ixS 1 2 rfl SliceOf96 rfl (nat_nn hik) (get_nat hik e11a)
   obtain ⟨u17, rfl, g18⟩ := r16
   replace h := h.knowRd 3 g18.up
   refine wl_ok (i12 _ _ _ _ _ _ _ _ _ rfl rfl) (wl_ok (r_ldP (k := 0) h 2 rfl One43 rfl rfl) (wl_ok (r_assign (v := u17) rfl) (wl_nil (then_normal (wc_seq (wc_region (wl_ok (r_move (v := (.int .i64 (x4))) rfl) (wl_ok (r_move (v := u17) rfl) (wl_ok (r_len SliceOf43 rfl (h.rdS 3 rfl)) ?_)))))))))
   obtain ⟨a19, hs⟩ := o_grd hs
   refine wl_ok (r_add rfl rfl a19) (wl_ok (r_assign (v := (.int .i64 ((x4 + (x7.length : Int))))) rfl) (wl_nil (then_normal (wc_seq (wc_region (wl_ok (r_move (v := (.int .i64 ((x4 + (x7.length : Int))))) rfl) (wl_ok (r_lss rfl rfl) (wl_nil (then_normal (wc_ifb hs rfl (fun c20 hs => ?_) (fun c20 hs => ?_)))))))))))
   ·
    cases hs
   ·
    refine wc_skip (inBlock_normal (then_normal (wc_region (wl_ok (r_add rfl rfl e11r) (wl_ok (r_move (v := (.int .i64 ((i6 + 1)))) rfl) (wl_nil (then_loop ?_)))))))
    subst hnx9
    exact lend ⟨k5 + 1, i6 + 1, (x4 + (x7.length : Int))⟩ ⟨h.cn _, by omega, hs⟩ (by have := of_decide_eq_true e10; dsimp only; omega)
  ·
   rw [drop_ge (hik ▸ e10), each_nil] at hs
   refine wc_exit (then_exit (then_exit (inBlock_eq (then_normal (wc_seq (wc_region (wl_ok (r_move (v := (.int .i64 (x4))) rfl) ?_)))))))
   obtain ⟨y21, e22, hs⟩ := o_bind hs
   refine w_call fnOk56 rfl rfl (slices_Grow_int_c _ _ h.lt x4 _ e22) ?_
   rintro _ w ⟨k26, u23, rfl, g24, g25⟩
   refine ⟨_, rfl, ?_⟩
   replace h := h.gotOwn 4 k26 g24 g25
   refine wl_ok (r_assign (v := u23) rfl) (wl_nil (then_normal (wc_seq (wc_seq (wc_region (wl_ok (r_move (v := va) rfl) (wl_ok (r_len SliceOf96 rfl (h.srS 1 rfl)) (wl_ok (r_move (v := (.int .i64 (0))) rfl) (wl_nil (then_normal (wc_block (wc_lp (σ := Nat × Int × Value × List Int) (inl [6, 8, 27, 28, 29, 30, 31, 32, 33, 34]) (fun ⟨k35, i36, v33, x34⟩ => [(6, v33), (27, (.int .i64 (i36)))]) (fun ⟨k35, i36, v33, x34⟩ w => SH w0 M BE w (hset [(1, .sr (rSl rInt) va a), (4, .own rInt 3 v33 x34)]) ∧ i36 = (k35 : Int) ∧ each slices_Concat_int_b5 slices_Concat_int_k6 (a.drop k35) x34 = some r) (fun ⟨k35, i36, v33, x34⟩ => a.length - k35) ⟨0, 0, u23, y21⟩ ⟨rfl, rfl, trivial⟩ ?_ ?_))))))))))))
   ·
    exact ⟨h.cn _, rfl, hs⟩
   ·
    rintro ⟨k35, i36, v33, x34⟩ w junk ⟨h, hik, hs⟩
    refine wc_seq (wc_region ?_)
    refine wl_ok (r_lss rfl rfl) (wl_nil (then_normal ?_))
    refine wc_seq (wc_if rfl (fun e40 => ?_) (fun e40 => ?_))
    ·
     refine wc_skip (then_normal ?_)
     obtain ⟨x37, e41a, e41b⟩ := drop_lt (hik ▸ e40)
     rw [e41b, each_cons] at hs
     generalize hnx39 : each slices_Concat_int_b5 slices_Concat_int_k6 (a.drop (k35 + 1)) = nx39 at hs
     have e41r := nat_rng ((h.srS 1 rfl)).len_le hik e40
     refine wc_seq (wc_block (wc_seq (wc_region ?_)))
     obtain ⟨b43, o44, cs45, h, r46, i42⟩ := h.ixS 1 5 rfl SliceOf96 rfl (nat_nn hik) (get_nat hik e41a)
     obtain ⟨u47, rfl, g48⟩ := r46
     replace h := h.knowRd 6 g48.up
     refine wl_ok (i42 _ _ _ _ _ _ _ _ _ rfl rfl) (wl_ok (r_ldP (k := 0) h 5 rfl One43 rfl rfl) (wl_ok (r_assign (v := u47) rfl) (wl_nil (then_normal (wc_region (wl_ok (r_move (v := v33) rfl) (wl_ok (r_move (v := u47) rfl) ?_)))))))
     obtain ⟨a49, hs⟩ := o_grd hs
     refine w_app (R := rInt) (m := x37) h 4 rfl (h.rdS 6 rfl) ElemOf43 rfl rfl rfl a49.1 a49.2 fun w u50 h => wl_ok (r_assign (v := u50) rfl) (wl_nil (inBlock_normal (then_normal (wc_region (wl_ok (r_add rfl rfl e41r) (wl_ok (r_move (v := (.int .i64 ((i36 + 1)))) rfl) (wl_nil (then_loop ?_))))))))
     subst hnx39
     exact lend ⟨k35 + 1, i36 + 1, u50, (x34 ++ x37)⟩ ⟨h.cn _, by omega, hs⟩ (by have := of_decide_eq_true e40; dsimp only; omega)
    ·
     rw [drop_ge (hik ▸ e40), each_nil] at hs
     refine wc_exit (then_exit (then_exit (inBlock_eq (then_normal (wc_seq (wc_region (wl_ok (r_move (v := v33) rfl) (wl_ok (r_assign (v := v33) rfl) (wl_nil (then_normal (wc_ret (fin1 (v := v33) Tryd.results34 rfl ?_))))))))))))
     obtain rfl := Option.some.inj hs
     exact ⟨h.grown, _, rfl, (h.outOwn 4 rfl).1, (h.outOwn 4 rfl).2⟩
def wandererref_CodeText_j448 (nx30 : Str → Option Str) (y33 : Str) : Option Str :=
  nx30 y33
def wandererref_CodeText_b451 (y44 : List Int) (i59 : Int) (x57 : List Str) (nx62 : List Str → Option Str) : Option Str :=
  (idx y44 i59).bind fun x65 => (itoaS x65).bind fun y73 => grd (Room 16 x57 [y73]) (nx62 (x57 ++ [y73]))
def wandererref_CodeText_k452 (y25 : Str) (nx30 : Str → Option Str) (x57 : List Str) : Option Str :=
  (joinS x57 [32]).bind fun yq83x2_1 => grd (yq83x2_1.length + [10].length ≤ 9223372036854775807) (grd (y25.length + (yq83x2_1 ++ [10]).length ≤ 9223372036854775807) (wandererref_CodeText_j448 nx30 (y25 ++ (yq83x2_1 ++ [10]))))
def wandererref_CodeText_b453 (a : List Proc) (x28 : Ins) (y25 : Str) (nx30 : Str → Option Str) : Option Str :=
  (slices_Concat_int [[x28.op, x28.a, x28.b, x28.c], x28.args]).bind fun y44 => upto (wandererref_CodeText_b451 y44) (wandererref_CodeText_k452 y25 nx30) 0 ((y44.length : Int)).toNat []
def wandererref_CodeText_k454 (nx10 : Str → Option Str) (y25 : Str) : Option Str :=
  nx10 y25
def wandererref_CodeText_j425 (a : List Proc) (nx10 : Str → Option Str) (x8 : Proc) (y21 : Str) : Option Str :=
  each (wandererref_CodeText_b453 a) (wandererref_CodeText_k454 nx10) x8.code y21
def wandererref_CodeText_b457 (x8 : Proc) (i96 : Int) (x94 : List Str) (nx99 : List Str → Option Str) : Option Str :=
  (idx [x8.params, x8.regs, (x8.code.length : Int)] i96).bind fun x102 => (itoaS x102).bind fun y110 => grd (Room 16 x94 [y110]) (nx99 (x94 ++ [y110]))
def wandererref_CodeText_k458 (y5 : Str) (a : List Proc) (nx10 : Str → Option Str) (x8 : Proc) (x94 : List Str) : Option Str :=
  (joinS x94 [32]).bind fun yq120x2_1 => grd (yq120x2_1.length + [10].length ≤ 9223372036854775807) (grd (y5.length + (yq120x2_1 ++ [10]).length ≤ 9223372036854775807) (wandererref_CodeText_j425 a nx10 x8 (y5 ++ (yq120x2_1 ++ [10]))))
def wandererref_CodeText_b459 (a : List Proc) (x8 : Proc) (y5 : Str) (nx10 : Str → Option Str) : Option Str :=
  upto (wandererref_CodeText_b457 x8) (wandererref_CodeText_k458 y5 a nx10 x8) 0 (([x8.params, x8.regs, (x8.code.length : Int)].length : Int)).toNat []
def wandererref_CodeText_k460 (y5 : Str) : Option Str :=
  some y5
def wandererref_CodeText (a : List Proc) : Option Str :=
  each (wandererref_CodeText_b459 a) wandererref_CodeText_k460 a []
theorem wandererref_CodeText_c (w0 : World) (M : BS) (hM : ∀ b, M b → b < w0.heap.size) (hT : Tabs Tryd.prog 0 w0) (va : Value) (a : List Proc) (ha : Rd2 rProc w0 BE M va a) (r : Str) (hs : wandererref_CodeText a = some r) :
    Calls Tryd.prog 11 #[va] w0 (fun e w' => Grow w0 w' ∧ e = .returned (strV r)) := by
 refine calls_start (args := [va]) Tryd.func11 rfl Tryd.ntmps11 (Nat.le_of_ble_eq_true rfl) ?_
 have h := SH.init hM
 replace h := h.argSr 1 ha none_own
 have hl_a := ha.len_le
 refine wc_seq (wc_region (wl_ok (r_assign (v := (strV [])) rfl) (wl_nil (then_normal (wc_seq (wc_region (w_alloc1 h 2 One9 fun w b1 h => w_st1 h 2 [(strV [])] rfl One9 rfl rfl rfl rfl rfl fun w h => wl_nil (then_normal (wc_seq (wc_region (wl_ok (r_makeFunc (c1 := []) (c2 := [(.pointer (some ⟨b1, 0, none⟩))]) rfl rfl) (wl_ok (r_assign (v := (.func (.func 32) #[] #[(.pointer (some ⟨b1, 0, none⟩))])) rfl) (wl_nil (then_normal (wc_seq (wc_seq (wc_region (wl_ok (r_move (v := va) rfl) (wl_ok (r_len SliceOf22 rfl (h.srS 1 rfl)) (wl_ok (r_move (v := (.int .i64 (0))) rfl) (wl_nil ?_)))))))))))))))))))))
 refine then_normal (wc_block (wc_lp (σ := Nat × Int × Str) (inl [6, 8, 12, 13, 14, 15, 16, 17, 18, 19, 20, 21, 22, 23, 24, 25, 26, 27, 28, 29, 30, 31, 32, 33, 34, 35, 36, 37, 38, 39, 40, 41, 42, 43, 44, 45, 46, 47, 48, 49]) (fun ⟨k6, i7, y5⟩ => [(12, (.int .i64 (i7)))]) (fun ⟨k6, i7, y5⟩ w => SH w0 M BE w (hset [(1, .sr rProc va a), (2, .blk b1 [(strV y5)])]) ∧ i7 = (k6 : Int) ∧ each (wandererref_CodeText_b459 a) wandererref_CodeText_k460 (a.drop k6) y5 = some r) (fun ⟨k6, i7, y5⟩ => a.length - k6) ⟨0, 0, []⟩ ⟨rfl, trivial⟩ ?_ ?_))
 ·
  exact ⟨h.cn _, rfl, hs⟩
 ·
  rintro ⟨k6, i7, y5⟩ w junk ⟨h, hik, hs⟩
  refine wc_seq (wc_region ?_)
  refine wl_ok (r_lss rfl rfl) (wl_nil (then_normal ?_))
  refine wc_seq (wc_if rfl (fun e11 => ?_) (fun e11 => ?_))
  ·
   refine wc_skip (then_normal ?_)
   obtain ⟨x8, e12a, e12b⟩ := drop_lt (hik ▸ e11)
   rw [e12b, each_cons] at hs
   generalize hnx10 : each (wandererref_CodeText_b459 a) wandererref_CodeText_k460 (a.drop (k6 + 1)) = nx10 at hs
   have e12r := nat_rng ((h.srS 1 rfl)).len_le hik e11
   refine wc_seq (wc_block (wc_seq (wc_region ?_)))
   obtain ⟨b14, o15, cs16, h, r17, i13⟩ := h.ixS 1 3 rfl SliceOf22 rfl (nat_nn hik) (get_nat hik e12a)
   obtain ⟨u18, rfl, g19⟩ := rProc_open r17
   replace h := h.knowRd 4 g19.up
   refine wl_ok (i13 _ _ _ _ _ _ _ _ _ rfl rfl) (wl_ok (r_ldPN (k := 0) (vs := [(.int .i64 (x8.params)), (.int .i64 (x8.regs)), u18]) h 3 rfl Many52 rfl rfl rfl (Nat.le_of_ble_eq_true rfl)) (w_allocN h 5 Many52 fun w b20 h => w_stN (vs := [(.int .i64 (x8.params)), (.int .i64 (x8.regs)), u18]) h 5 [(.int .i64 (x8.params)), (.int .i64 (x8.regs)), u18] rfl Many52 rfl rfl rfl rfl rfl (ones_cons rfl (ones_cons rfl (ones_cons (h.rdAt 4 rfl).one ones_nil))) fun w h => wl_nil (then_normal (wc_join (σ := Str) (inl [16, 17, 18, 19, 20, 21, 22, 23, 24, 25]) (fun y21 => []) (fun y21 w => SH w0 M BE w (hset [(1, .sr rProc va a), (2, .blk b1 [(strV y21)]), (4, .rd rIns u18 x8.code), (5, .blk b20 [(.int .i64 (x8.params)), (.int .i64 (x8.regs)), u18])]) ∧ wandererref_CodeText_j425 a nx10 x8 y21 = some r) ?_ ?_))))
   ·
    rintro y21 w junk ⟨h, hs⟩
    refine wc_seq (wc_region (wl_ok (r_fieldAddr Fld52x2 rfl) (wl_ok (r_ldB h 5 rfl One50 rfl rfl) (wl_ok (r_len SliceOf50 rfl (h.rdS 4 rfl)) (wl_ok (r_move (v := (.int .i64 (0))) rfl) (wl_nil (then_normal (wc_block (wc_lp (σ := Nat × Int × Str) (inl [8, 29, 30, 31, 32, 33, 34, 35, 36, 37, 38, 39, 40, 41, 42, 43, 44, 45, 46, 47, 48]) (fun ⟨k26, i27, y25⟩ => [(29, (.int .i64 (i27)))]) (fun ⟨k26, i27, y25⟩ w => SH w0 M BE w (hset [(1, .sr rProc va a), (2, .blk b1 [(strV y25)]), (4, .rd rIns u18 x8.code)]) ∧ i27 = (k26 : Int) ∧ each (wandererref_CodeText_b453 a) (wandererref_CodeText_k454 nx10) (x8.code.drop k26) y25 = some r) (fun ⟨k26, i27, y25⟩ => x8.code.length - k26) ⟨0, 0, y21⟩ ⟨rfl, trivial⟩ ?_ ?_)))))))))
    ·
     exact ⟨h.cn _, rfl, hs⟩
    ·
     rintro ⟨k26, i27, y25⟩ w junk ⟨h, hik, hs⟩
     refine wc_seq (wc_region ?_)
     refine wl_ok (r_lss rfl rfl) (wl_nil (then_normal ?_))
     refine wc_seq (wc_if rfl (fun e31 => ?_) (fun e31 => ?_))
     ·
      refine wc_skip (then_normal ?_)
      obtain ⟨x28, e32a, e32b⟩ := drop_lt (hik ▸ e31)
      rw [e32b, each_cons] at hs
      generalize hnx30 : each (wandererref_CodeText_b453 a) (wandererref_CodeText_k454 nx10) (x8.code.drop (k26 + 1)) = nx30 at hs
      have e32r := nat_rng ((h.rdS 4 rfl)).len_le hik e31
      refine wc_join (σ := Str) (inl [8, 31, 32, 33, 34, 35, 36, 37, 38, 39, 40, 41, 42, 43, 44, 45, 46, 47]) (fun y33 => []) (fun y33 w => SH w0 M BE w (hset [(1, .sr rProc va a), (2, .blk b1 [(strV y33)]), (4, .rd rIns u18 x8.code)]) ∧ wandererref_CodeText_j448 nx30 y33 = some r) ?_ ?_
      ·
       rintro y33 w junk ⟨h, hs⟩
       refine wc_region (wl_ok (r_add rfl rfl e32r) (wl_ok (r_move (v := (.int .i64 ((i27 + 1)))) rfl) (wl_nil (then_loop ?_))))
       subst hnx30
       exact lend ⟨k26 + 1, i27 + 1, y33⟩ ⟨h.cn _, by omega, hs⟩ (by have := of_decide_eq_true e31; dsimp only; omega)
      ·
       refine wc_block (wc_seq (wc_region ?_))
       obtain ⟨b35, o36, cs37, h, r38, i34⟩ := h.ixR 4 6 rfl SliceOf50 rfl (nat_nn hik) (get_nat hik e32a)
       obtain ⟨u39, rfl, g40⟩ := rIns_open r38
       replace h := h.knowRd 7 g40.up
       refine wl_ok (i34 _ _ _ _ _ _ _ _ _ rfl rfl) (wl_ok (r_ldPN (k := 0) (vs := [(.int .i64 (x28.op)), (.int .i64 (x28.a)), (.int .i64 (x28.b)), (.int .i64 (x28.c)), u39]) h 6 rfl Many54 rfl rfl rfl (Nat.le_of_ble_eq_true rfl)) (w_allocN h 8 Many54 fun w b41 h => w_stN (vs := [(.int .i64 (x28.op)), (.int .i64 (x28.a)), (.int .i64 (x28.b)), (.int .i64 (x28.c)), u39]) h 8 [(.int .i64 (x28.op)), (.int .i64 (x28.a)), (.int .i64 (x28.b)), (.int .i64 (x28.c)), u39] rfl Many54 rfl rfl rfl rfl rfl (ones_cons rfl (ones_cons rfl (ones_cons rfl (ones_cons rfl (ones_cons (h.rdAt 7 rfl).one ones_nil))))) fun w h => wl_nil (then_normal (wc_region (wl_ok (r_move (v := (.func (.func 32) #[] #[(.pointer (some ⟨b1, 0, none⟩))])) rfl) (wl_ok (r_fieldAddr Fld54x0 rfl) (wl_ok (r_ldB h 8 rfl One3 rfl rfl) (wl_ok (r_fieldAddr Fld54x1 rfl) (wl_ok (r_ldB h 8 rfl One3 rfl rfl) (wl_ok (r_fieldAddr Fld54x2 rfl) (wl_ok (r_ldB h 8 rfl One3 rfl rfl) (wl_ok (r_fieldAddr Fld54x3 rfl) (wl_ok (r_ldB h 8 rfl One3 rfl rfl) (w_bs (R := rInt) (vs := [(.int .i64 (x28.op)), (.int .i64 (x28.a)), (.int .i64 (x28.b)), (.int .i64 (x28.c))]) (xs := [x28.op, x28.a, x28.b, x28.c]) h 9 ElemOf43 rfl rfl rfl ⟨rfl, ⟨rfl, ⟨rfl, ⟨rfl, trivial⟩⟩⟩⟩ rfl fun w u42 h => wl_ok (r_fieldAddr Fld54x4 rfl) (wl_ok (r_ldB h 8 rfl One43 rfl rfl) ?_)))))))))))))))
       replace h := h.freeze 9 rfl
       refine w_bs (R := (rSl rInt)) (vs := [u42, u39]) (xs := [[x28.op, x28.a, x28.b, x28.c], x28.args]) h 10 ElemOf96 rfl rfl rfl ⟨(h.rdAt 9 rfl).rdc, ⟨(h.rdAt 7 rfl).rdc, trivial⟩⟩ rfl fun w u43 h => ?_
       obtain ⟨y44, e45, hs⟩ := o_bind hs
       refine w_call fnOk34 rfl rfl (slices_Concat_int_c _ _ h.lt u43 [[x28.op, x28.a, x28.b, x28.c], x28.args] (h.ownS 10 rfl) _ e45) ?_
       rintro _ w ⟨k49, u46, rfl, g47, g48⟩
       refine ⟨_, rfl, ?_⟩
       replace h := h.gotOwn 11 k49 g47 g48
       refine w_callIn (args := [u46, (.pointer (some ⟨b1, 0, none⟩))]) fnOk32 rfl rfl (calls_start (args := [u46, (.pointer (some ⟨b1, 0, none⟩))]) Tryd.func32 rfl Tryd.ntmps32 (Nat.le_of_ble_eq_true rfl) (wc_seq (wc_region (wl_ok (r_assign (v := (.slice none 0 0)) rfl) (wl_nil (then_normal (wc_seq (wc_seq (wc_region (wl_ok (r_move (v := u46) rfl) (wl_ok (r_len SliceOf43 rfl (h.ownS 11 rfl)) (wl_ok (r_move (v := (.int .i64 (0))) rfl) (wl_nil (then_normal (wc_block ?_)))))))))))))))
       have hli59 := (h.ownS 11 rfl).len_le
       replace h := h.nilO (R := rStr) (E := 9) 15
       refine wc_lp (σ := Nat × Int × Value × List Str) (inl [3, 5, 8, 9, 10, 11, 12, 13, 14, 15, 16, 17]) (fun ⟨k58, i59, v56, x57⟩ => [(3, v56), (8, (.int .i64 (i59)))]) (fun ⟨k58, i59, v56, x57⟩ w => SH w0 M BE w (hset [(1, .sr rProc va a), (2, .blk b1 [(strV y25)]), (4, .rd rIns u18 x8.code), (6, .pt b35 o36 [(.int .i64 (x28.op)), (.int .i64 (x28.a)), (.int .i64 (x28.b)), (.int .i64 (x28.c)), u39]), (7, .rd rInt u39 x28.args), (8, .blk b41 [(.int .i64 (x28.op)), (.int .i64 (x28.a)), (.int .i64 (x28.b)), (.int .i64 (x28.c)), u39]), (9, .rd rInt u42 [x28.op, x28.a, x28.b, x28.c]), (10, .own (rSl rInt) 43 u43 [[x28.op, x28.a, x28.b, x28.c], x28.args]), (11, .own rInt 3 u46 y44), (15, .own rStr 9 v56 x57)]) ∧ i59 = (k58 : Int) ∧ upto (wandererref_CodeText_b451 y44) (wandererref_CodeText_k452 y25 nx30) i59 (((y44.length : Int)).toNat - k58) x57 = some r) (fun ⟨k58, i59, v56, x57⟩ => ((y44.length : Int)).toNat - k58) ⟨0, 0, (.slice none 0 0), []⟩ ⟨rfl, rfl, trivial⟩ ?_ ?_
       ·
        exact ⟨h.cn _, rfl, hs⟩
       ·
        rintro ⟨k58, i59, v56, x57⟩ w junk ⟨h, hik, hs⟩
        refine wc_seq (wc_region ?_)
        refine wl_ok (r_lss rfl rfl) (wl_nil (then_normal ?_))
        refine wc_seq (wc_if rfl (fun e63 => ?_) (fun e63 => ?_))
        ·
         refine wc_skip (then_normal ?_)
         rw [upto_lt (by have := of_decide_eq_true e63; omega)] at hs
         generalize hnx62 : upto (wandererref_CodeText_b451 y44) (wandererref_CodeText_k452 y25 nx30) (i59 + 1) (((y44.length : Int)).toNat - (k58 + 1)) = nx62 at hs
         have e64r : I64 (i59 + 1) := (by have := of_decide_eq_true e63; have := hli59; exact I64.mk (by omega) (by omega))
         refine wc_seq (wc_block (wc_seq (wc_region ?_)))
         obtain ⟨x65, e66, hs⟩ := o_bind hs
         obtain ⟨b68, q69, i67⟩ := h.ixO 11 rfl SliceOf43 rfl (o_idx e66).1 (o_idx e66).2
         refine wl_ok (i67 _ _ _ _ _ _ _ _ _ rfl rfl) ?_
         obtain ⟨cs70, m71, r72⟩ := h.elO 11 rfl q69 (o_idx e66).2
         obtain rfl := r72
         refine wl_ok (r_ldA (k := 0) m71 One3 rfl rfl) (wl_ok (r_assign (v := (.int .i64 (x65))) rfl) (wl_nil (then_normal (wc_region (wl_ok (r_move (v := v56) rfl) (wl_ok (r_move (v := (.int .i64 (x65))) rfl) ?_))))))
         obtain ⟨y73, e74, hs⟩ := o_bind hs
         refine w_call fnOk21 rfl rfl (strconv_Itoa_c _ _ h.lt (hT.go h.keep) x65 _ e74) ?_
         rintro _ w ⟨k75, rfl⟩
         refine ⟨_, rfl, ?_⟩
         replace h := h.grow k75
         refine w_bs (R := rStr) (vs := [(strV y73)]) (xs := [y73]) h 16 ElemOf68 rfl rfl rfl ⟨rfl, trivial⟩ rfl fun w u76 h => ?_
         obtain ⟨a77, hs⟩ := o_grd hs
         refine w_app (R := rStr) (m := [y73]) h 15 rfl (h.ownS 16 rfl) ElemOf68 rfl rfl rfl a77.1 a77.2 fun w u78 h => wl_ok (r_assign (v := u78) rfl) (wl_nil (inBlock_normal (then_normal (wc_region (wl_ok (r_add rfl rfl e64r) (wl_ok (r_move (v := (.int .i64 ((i59 + 1)))) rfl) (wl_nil (then_loop ?_))))))))
         subst hnx62
         exact lend ⟨k58 + 1, i59 + 1, u78, (x57 ++ [y73])⟩ ⟨h.cn _, by omega, hs⟩ (by have := of_decide_eq_true e63; dsimp only; omega)
        ·
         rw [upto_ge (by have := of_decide_eq_false e63; omega)] at hs
         refine wc_exit (then_exit (then_exit (inBlock_eq (then_normal (wck_held (L := (fun x => x = b1)) mixed h fun w h => whk_ok 1 (Keep.refl _ _) rfl want_none (by kernel_rfl) (by kernel_rfl) (by kernel_rfl) (fun w hk => r_move (v := v56) rfl) ?_)))))
         obtain ⟨yq83x2_1, eq83x2_2, hs⟩ := o_bind hs
         obtain ⟨aq83x3_1, hs⟩ := o_grd hs
         obtain ⟨aq83x4_1, hs⟩ := o_grd hs
         obtain ⟨ws84, ws84e⟩ : ∃ x, x = w := ⟨_, rfl⟩
         have hg85 : Keep (fun x => x = b1) ws84 w := ws84e ▸ Keep.refl (fun x => x = b1) w
         refine whk_at ws84e.symm (whk_eff2 0 2 (by kernel_rfl) rfl want_none rfl want_none ?_ ?_)
         ·
          refine wl_ok (r_ldB h 2 rfl One9 rfl rfl) (wl_nil (whk_back hg85 (whk_eff 2 (by kernel_rfl) rfl want_none (w_call fnOk33 rfl rfl (strings_Join_c _ _ h.lt v56 x57 (h.ownS 15 rfl) [32] _ eq83x2_2) ?_))))
          rintro _ w ⟨kq83x2_3, rfl⟩
          refine ⟨_, rfl, ?_⟩
          replace h := h.grow kq83x2_3
          replace hg85 := hg85.grow kq83x2_3
          refine wl_nil (whk_back hg85 (whk_ok 3 hg85 rfl want_none (by kernel_rfl) (by kernel_rfl) (by kernel_rfl) (fun w hk => r_adds rfl rfl aq83x3_1) (whk_ok 4 hg85 rfl want_none (by kernel_rfl) (by kernel_rfl) (by kernel_rfl) (fun w hk => r_adds rfl rfl aq83x4_1) (whk_eff 5 (by kernel_rfl) rfl want_none (w_st1G h 2 [(strV (y25 ++ (yq83x2_1 ++ [10])))] rfl One9 rfl rfl rfl rfl rfl fun w h kq83x5_1 => ?_)))))
          replace hg85 := hg85.same kq83x5_1
          refine wl_nil (whk_back hg85 (whk_done (by kernel_rfl) (fin0n Tryd.results32 (⟨_, rfl, ?_⟩))))
          refine wl_nil (inBlock_normal (then_loop ?_))
          exact jend (y25 ++ (yq83x2_1 ++ [10])) ⟨h.cn _, hs⟩
         ·
          refine w_call fnOk33 rfl rfl (strings_Join_c _ _ h.lt v56 x57 (h.ownS 15 rfl) [32] _ eq83x2_2) ?_
          rintro _ w ⟨kq83x2_3, rfl⟩
          refine ⟨_, rfl, ?_⟩
          replace h := h.grow kq83x2_3
          replace hg85 := hg85.grow kq83x2_3
          refine wl_nil (whk_back hg85 (whk_ok 3 hg85 rfl want_none (by kernel_rfl) (by kernel_rfl) (by kernel_rfl) (fun w hk => r_adds rfl rfl aq83x3_1) (whk_eff 0 (by kernel_rfl) rfl want_none (wl_ok (r_ldB h 2 rfl One9 rfl rfl) (wl_nil (whk_back hg85 (whk_ok 4 hg85 rfl want_none (by kernel_rfl) (by kernel_rfl) (by kernel_rfl) (fun w hk => r_adds rfl rfl aq83x4_1) (whk_eff 5 (by kernel_rfl) rfl want_none (w_st1G h 2 [(strV (y25 ++ (yq83x2_1 ++ [10])))] rfl One9 rfl rfl rfl rfl rfl fun w h kq83x5_1 => ?_)))))))))
          replace hg85 := hg85.same kq83x5_1
          refine wl_nil (whk_back hg85 (whk_done (by kernel_rfl) (fin0n Tryd.results32 (⟨_, rfl, ?_⟩))))
          refine wl_nil (inBlock_normal (then_loop ?_))
          exact jend (y25 ++ (yq83x2_1 ++ [10])) ⟨h.cn _, hs⟩
     ·
      rw [drop_ge (hik ▸ e31), each_nil] at hs
      refine wc_exit (then_exit (then_exit (inBlock_eq (inBlock_normal (then_normal (wc_region (wl_ok (r_add rfl rfl e12r) (wl_ok (r_move (v := (.int .i64 ((i7 + 1)))) rfl) (wl_nil (then_loop ?_))))))))))
      subst hnx10
      exact lend ⟨k6 + 1, i7 + 1, y25⟩ ⟨h.cn _, by omega, hs⟩ (by have := of_decide_eq_true e11; dsimp only; omega)
   ·
    refine wc_region (wl_ok (r_move (v := (.func (.func 32) #[] #[(.pointer (some ⟨b1, 0, none⟩))])) rfl) (wl_ok (r_fieldAddr Fld52x0 rfl) (wl_ok (r_ldB h 5 rfl One3 rfl rfl) (wl_ok (r_fieldAddr Fld52x1 rfl) (wl_ok (r_ldB h 5 rfl One3 rfl rfl) (wl_ok (r_fieldAddr Fld52x2 rfl) (wl_ok (r_ldB h 5 rfl One50 rfl rfl) (wl_ok (r_len SliceOf50 rfl (h.rdS 4 rfl)) (w_bs (R := rInt) (vs := [(.int .i64 (x8.params)), (.int .i64 (x8.regs)), (.int .i64 ((x8.code.length : Int)))]) (xs := [x8.params, x8.regs, (x8.code.length : Int)]) h 101 ElemOf43 rfl rfl rfl ⟨rfl, ⟨rfl, ⟨rfl, trivial⟩⟩⟩ rfl fun w u86 h => w_callIn (args := [u86, (.pointer (some ⟨b1, 0, none⟩))]) fnOk32 rfl rfl (calls_start (args := [u86, (.pointer (some ⟨b1, 0, none⟩))]) Tryd.func32 rfl Tryd.ntmps32 (Nat.le_of_ble_eq_true rfl) (wc_seq (wc_region (wl_ok (r_assign (v := (.slice none 0 0)) rfl) (wl_nil (then_normal (wc_seq (wc_seq (wc_region (wl_ok (r_move (v := u86) rfl) (wl_ok (r_len SliceOf43 rfl (h.ownS 101 rfl)) (wl_ok (r_move (v := (.int .i64 (0))) rfl) (wl_nil ?_))))))))))))))))))))))
    refine then_normal (wc_block ?_)
    have hli96 := (h.ownS 101 rfl).len_le
    replace h := h.nilO (R := rStr) (E := 9) 105
    refine wc_lp (σ := Nat × Int × Value × List Str) (inl [3, 5, 8, 9, 10, 11, 12, 13, 14, 15, 16, 17]) (fun ⟨k95, i96, v93, x94⟩ => [(3, v93), (8, (.int .i64 (i96)))]) (fun ⟨k95, i96, v93, x94⟩ w => SH w0 M BE w (hset [(1, .sr rProc va a), (2, .blk b1 [(strV y5)]), (3, .pt b14 o15 [(.int .i64 (x8.params)), (.int .i64 (x8.regs)), u18]), (4, .rd rIns u18 x8.code), (5, .blk b20 [(.int .i64 (x8.params)), (.int .i64 (x8.regs)), u18]), (101, .own rInt 3 u86 [x8.params, x8.regs, (x8.code.length : Int)]), (105, .own rStr 9 v93 x94)]) ∧ i96 = (k95 : Int) ∧ upto (wandererref_CodeText_b457 x8) (wandererref_CodeText_k458 y5 a nx10 x8) i96 ((([x8.params, x8.regs, (x8.code.length : Int)].length : Int)).toNat - k95) x94 = some r) (fun ⟨k95, i96, v93, x94⟩ => (([x8.params, x8.regs, (x8.code.length : Int)].length : Int)).toNat - k95) ⟨0, 0, (.slice none 0 0), []⟩ ⟨rfl, rfl, trivial⟩ ?_ ?_
    ·
     exact ⟨h.cn _, rfl, hs⟩
    ·
     rintro ⟨k95, i96, v93, x94⟩ w junk ⟨h, hik, hs⟩
     refine wc_seq (wc_region ?_)
     refine wl_ok (r_lss rfl rfl) (wl_nil (then_normal ?_))
     refine wc_seq (wc_if rfl (fun e100 => ?_) (fun e100 => ?_))
     ·
      refine wc_skip (then_normal ?_)
      rw [upto_lt (by have := of_decide_eq_true e100; omega)] at hs
      generalize hnx99 : upto (wandererref_CodeText_b457 x8) (wandererref_CodeText_k458 y5 a nx10 x8) (i96 + 1) ((([x8.params, x8.regs, (x8.code.length : Int)].length : Int)).toNat - (k95 + 1)) = nx99 at hs
      have e101r : I64 (i96 + 1) := (by have := of_decide_eq_true e100; have := hli96; exact I64.mk (by omega) (by omega))
      refine wc_seq (wc_block (wc_seq (wc_region ?_)))
      obtain ⟨x102, e103, hs⟩ := o_bind hs
      obtain ⟨b105, q106, i104⟩ := h.ixO 101 rfl SliceOf43 rfl (o_idx e103).1 (o_idx e103).2
      refine wl_ok (i104 _ _ _ _ _ _ _ _ _ rfl rfl) ?_
      obtain ⟨cs107, m108, r109⟩ := h.elO 101 rfl q106 (o_idx e103).2
      obtain rfl := r109
      refine wl_ok (r_ldA (k := 0) m108 One3 rfl rfl) (wl_ok (r_assign (v := (.int .i64 (x102))) rfl) (wl_nil (then_normal (wc_region (wl_ok (r_move (v := v93) rfl) (wl_ok (r_move (v := (.int .i64 (x102))) rfl) ?_))))))
      obtain ⟨y110, e111, hs⟩ := o_bind hs
      refine w_call fnOk21 rfl rfl (strconv_Itoa_c _ _ h.lt (hT.go h.keep) x102 _ e111) ?_
      rintro _ w ⟨k112, rfl⟩
      refine ⟨_, rfl, ?_⟩
      replace h := h.grow k112
      refine w_bs (R := rStr) (vs := [(strV y110)]) (xs := [y110]) h 106 ElemOf68 rfl rfl rfl ⟨rfl, trivial⟩ rfl fun w u113 h => ?_
      obtain ⟨a114, hs⟩ := o_grd hs
      refine w_app (R := rStr) (m := [y110]) h 105 rfl (h.ownS 106 rfl) ElemOf68 rfl rfl rfl a114.1 a114.2 fun w u115 h => wl_ok (r_assign (v := u115) rfl) (wl_nil (inBlock_normal (then_normal (wc_region (wl_ok (r_add rfl rfl e101r) (wl_ok (r_move (v := (.int .i64 ((i96 + 1)))) rfl) (wl_nil (then_loop ?_))))))))
      subst hnx99
      exact lend ⟨k95 + 1, i96 + 1, u115, (x94 ++ [y110])⟩ ⟨h.cn _, by omega, hs⟩ (by have := of_decide_eq_true e100; dsimp only; omega)
     ·
      rw [upto_ge (by have := of_decide_eq_false e100; omega)] at hs
      refine wc_exit (then_exit (then_exit (inBlock_eq (then_normal (wck_held (L := (fun x => x = b1)) mixed h fun w h => whk_ok 1 (Keep.refl _ _) rfl want_none (by kernel_rfl) (by kernel_rfl) (by kernel_rfl) (fun w hk => r_move (v := v93) rfl) ?_)))))
      obtain ⟨yq120x2_1, eq120x2_2, hs⟩ := o_bind hs
      obtain ⟨aq120x3_1, hs⟩ := o_grd hs
      obtain ⟨aq120x4_1, hs⟩ := o_grd hs
      obtain ⟨ws121, ws121e⟩ : ∃ x, x = w := ⟨_, rfl⟩
      have hg122 : Keep (fun x => x = b1) ws121 w := ws121e ▸ Keep.refl (fun x => x = b1) w
      refine whk_at ws121e.symm (whk_eff2 0 2 (by kernel_rfl) rfl want_none rfl want_none ?_ ?_)
      ·
       refine wl_ok (r_ldB h 2 rfl One9 rfl rfl) (wl_nil (whk_back hg122 (whk_eff 2 (by kernel_rfl) rfl want_none (w_call fnOk33 rfl rfl (strings_Join_c _ _ h.lt v93 x94 (h.ownS 105 rfl) [32] _ eq120x2_2) ?_))))
       rintro _ w ⟨kq120x2_3, rfl⟩
       refine ⟨_, rfl, ?_⟩
       replace h := h.grow kq120x2_3
       replace hg122 := hg122.grow kq120x2_3
       refine wl_nil (whk_back hg122 (whk_ok 3 hg122 rfl want_none (by kernel_rfl) (by kernel_rfl) (by kernel_rfl) (fun w hk => r_adds rfl rfl aq120x3_1) (whk_ok 4 hg122 rfl want_none (by kernel_rfl) (by kernel_rfl) (by kernel_rfl) (fun w hk => r_adds rfl rfl aq120x4_1) (whk_eff 5 (by kernel_rfl) rfl want_none (w_st1G h 2 [(strV (y5 ++ (yq120x2_1 ++ [10])))] rfl One9 rfl rfl rfl rfl rfl fun w h kq120x5_1 => ?_)))))
       replace hg122 := hg122.same kq120x5_1
       refine wl_nil (whk_back hg122 (whk_done (by kernel_rfl) (fin0n Tryd.results32 (⟨_, rfl, ?_⟩))))
       refine wl_nil (then_loop ?_)
       exact jend (y5 ++ (yq120x2_1 ++ [10])) ⟨h.cn _, hs⟩
      ·
       refine w_call fnOk33 rfl rfl (strings_Join_c _ _ h.lt v93 x94 (h.ownS 105 rfl) [32] _ eq120x2_2) ?_
       rintro _ w ⟨kq120x2_3, rfl⟩
       refine ⟨_, rfl, ?_⟩
       replace h := h.grow kq120x2_3
       replace hg122 := hg122.grow kq120x2_3
       refine wl_nil (whk_back hg122 (whk_ok 3 hg122 rfl want_none (by kernel_rfl) (by kernel_rfl) (by kernel_rfl) (fun w hk => r_adds rfl rfl aq120x3_1) (whk_eff 0 (by kernel_rfl) rfl want_none (wl_ok (r_ldB h 2 rfl One9 rfl rfl) (wl_nil (whk_back hg122 (whk_ok 4 hg122 rfl want_none (by kernel_rfl) (by kernel_rfl) (by kernel_rfl) (fun w hk => r_adds rfl rfl aq120x4_1) (whk_eff 5 (by kernel_rfl) rfl want_none (w_st1G h 2 [(strV (y5 ++ (yq120x2_1 ++ [10])))] rfl One9 rfl rfl rfl rfl rfl fun w h kq120x5_1 => ?_)))))))))
       replace hg122 := hg122.same kq120x5_1
       refine wl_nil (whk_back hg122 (whk_done (by kernel_rfl) (fin0n Tryd.results32 (⟨_, rfl, ?_⟩))))
       refine wl_nil (then_loop ?_)
       exact jend (y5 ++ (yq120x2_1 ++ [10])) ⟨h.cn _, hs⟩
  ·
   rw [drop_ge (hik ▸ e11), each_nil] at hs
   refine wc_exit (then_exit (then_exit (inBlock_eq (then_normal (wc_seq (wc_region (wl_ok (r_ldB h 2 rfl One9 rfl rfl) (wl_ok (r_assign (v := (strV y5)) rfl) (wl_nil (then_normal (wc_ret (fin1 (v := (strV y5)) Tryd.results11 rfl ?_))))))))))))
   obtain rfl := Option.some.inj hs
   exact ⟨h.grown, rfl⟩
def slices_Equal_int_b3 (a : List Int) (b : List Int) (i3 : Int) (s : Unit) (nx6 : Unit → Option Bool) : Option Bool :=
  (idx a i3).bind fun x9 => (idx b i3).bind fun x16 => bif decide ((x9 : Int) ≠ x16) then some false else nx6 ()
def slices_Equal_int_k4 (s : Unit) : Option Bool :=
  some true
def slices_Equal_int (a : List Int) (b : List Int) : Option Bool :=
  bif decide (((a.length : Int) : Int) ≠ (b.length : Int)) then some false else upto (slices_Equal_int_b3 a b) slices_Equal_int_k4 0 ((a.length : Int)).toNat ()
theorem slices_Equal_int_c (w0 : World) (M : BS) (hM : ∀ b, M b → b < w0.heap.size) (va : Value) (a : List Int) (ha : Rd2 rInt w0 BE M va a) (vb : Value) (b : List Int) (hb : Rd2 rInt w0 BE M vb b) (r : Bool) (hs : slices_Equal_int a b = some r) :
    Calls Tryd.prog 29 #[va, vb] w0 (fun e w' => Grow w0 w' ∧ e = .returned (.bool r)) := by
 refine calls_start (args := [va, vb]) Tryd.func29 rfl Tryd.ntmps29 (Nat.le_of_ble_eq_true rfl) ?_
 have h := SH.init hM
 replace h := h.argSr 1 ha none_own
 replace h := h.argSr 2 hb (hupd_own_sr none_own)
 have hl_a := ha.len_le
 have hl_b := hb.len_le
 refine wc_seq (wc_region (wl_ok (r_assign (v := (.bool (false))) rfl) (wl_nil (then_normal (wc_seq (wc_seq (wc_region (wl_ok (r_move (v := va) rfl) (wl_ok (r_len SliceOf43 rfl (h.srS 1 rfl)) (wl_ok (r_move (v := vb) rfl) (wl_ok (r_len SliceOf43 rfl (h.srS 2 rfl)) (wl_ok (r_neq rfl rfl) (wl_nil (then_normal (wc_ifb hs rfl (fun c1 hs => ?_) (fun c1 hs => ?_))))))))))))))))
 ·
  refine wc_seq (wc_region (wl_ok (r_assign (v := (.bool (false))) rfl) (wl_nil (then_normal (wc_ret (then_ret (fin1 (v := (.bool (false))) Tryd.results29 rfl ?_)))))))
  obtain rfl := Option.some.inj hs
  exact ⟨h.grown, rfl⟩
 ·
  refine wc_skip (then_normal (wc_seq (wc_seq (wc_region (wl_ok (r_move (v := va) rfl) (wl_ok (r_len SliceOf43 rfl (h.srS 1 rfl)) (wl_ok (r_move (v := (.int .i64 (0))) rfl) (wl_nil (then_normal (wc_block ?_))))))))))
  have hli3 := (h.srS 1 rfl).len_le
  refine wc_lp (σ := Nat × Int) (inl [4, 5, 13, 14, 15, 16, 17, 18, 19, 20, 21, 22, 23, 24, 25]) (fun ⟨k2, i3⟩ => [(13, (.int .i64 (i3)))]) (fun ⟨k2, i3⟩ w => SH w0 M BE w (hset [(1, .sr rInt va a), (2, .sr rInt vb b)]) ∧ i3 = (k2 : Int) ∧ upto (slices_Equal_int_b3 a b) slices_Equal_int_k4 i3 (((a.length : Int)).toNat - k2) () = some r) (fun ⟨k2, i3⟩ => ((a.length : Int)).toNat - k2) ⟨0, 0⟩ ⟨rfl, trivial⟩ ?_ ?_
  ·
   exact ⟨h.cn _, rfl, hs⟩
  ·
   rintro ⟨k2, i3⟩ w junk ⟨h, hik, hs⟩
   refine wc_seq (wc_region ?_)
   refine wl_ok (r_lss rfl rfl) (wl_nil (then_normal ?_))
   refine wc_seq (wc_if rfl (fun e7 => ?_) (fun e7 => ?_))
   ·
    refine wc_skip (then_normal ?_)
    rw [upto_lt (by have := of_decide_eq_true e7; omega)] at hs
    generalize hnx6 : upto (slices_Equal_int_b3 a b) slices_Equal_int_k4 (i3 + 1) (((a.length : Int)).toNat - (k2 + 1)) = nx6 at hs
    have e8r : I64 (i3 + 1) := (by have := of_decide_eq_true e7; have := hli3; exact I64.mk (by omega) (by omega))
    refine wc_seq (wc_block (wc_seq (wc_region (wl_ok (r_move (v := (.int .i64 (i3))) rfl) (wl_ok (r_assign (v := (.int .i64 (i3))) rfl) (wl_nil (then_normal (wc_seq (wc_still mixed (by kernel_rfl) h fun w h => wk_ok (r_move (v := va) rfl) (wk_ok (r_move (v := (.int .i64 (i3))) rfl) ?_))))))))))
    obtain ⟨x9, e10, hs⟩ := o_bind hs
    obtain ⟨b12, o13, cs14, h, r15, i11⟩ := h.ixS 1 3 rfl SliceOf43 rfl (o_idx e10).1 (o_idx e10).2
    obtain rfl := r15
    refine wk_ok (i11 _ _ _ _ _ _ _ _ _ rfl rfl) (wk_ok (r_ldP (k := 0) h 3 rfl One3 rfl rfl) (wk_ok (r_move (v := vb) rfl) (wk_ok (r_move (v := (.int .i64 (i3))) rfl) ?_)))
    obtain ⟨x16, e17, hs⟩ := o_bind hs
    obtain ⟨b19, o20, cs21, h, r22, i18⟩ := h.ixS 2 4 rfl SliceOf43 rfl (o_idx e17).1 (o_idx e17).2
    obtain rfl := r22
    refine wk_ok (i18 _ _ _ _ _ _ _ _ _ rfl rfl) (wk_ok (r_ldP (k := 0) h 4 rfl One3 rfl rfl) (wk_ok (r_neq rfl rfl) (wk_end (then_normal (wc_ifb hs rfl (fun c23 hs => ?_) (fun c23 hs => ?_))))))
    ·
     refine wc_seq (wc_region (wl_ok (r_assign (v := (.bool (false))) rfl) (wl_nil (then_normal (wc_ret (inBlock_ret (then_ret (then_ret (inBlock_ret (then_ret (fin1 (v := (.bool (false))) Tryd.results29 rfl ?_)))))))))))
     obtain rfl := Option.some.inj hs
     exact ⟨h.grown, rfl⟩
    ·
     refine wc_skip (inBlock_normal (then_normal (wc_region (wl_ok (r_add rfl rfl e8r) (wl_ok (r_move (v := (.int .i64 ((i3 + 1)))) rfl) (wl_nil (then_loop ?_)))))))
     subst hnx6
     exact lend ⟨k2 + 1, i3 + 1⟩ ⟨h.cn _, by omega, hs⟩ (by have := of_decide_eq_true e7; dsimp only; omega)
   ·
    rw [upto_ge (by have := of_decide_eq_false e7; omega)] at hs
    refine wc_exit (then_exit (then_exit (inBlock_eq (then_normal (wc_seq (wc_region (wl_ok (r_assign (v := (.bool (true))) rfl) (wl_nil (then_normal (wc_ret (fin1 (v := (.bool (true))) Tryd.results29 rfl ?_)))))))))))
    obtain rfl := Option.some.inj hs
    exact ⟨h.grown, rfl⟩
def code_Same_j766 (nx6 : Unit → Option Bool) (x27 : Bool) : Option Bool :=
  bif x27 then some false else nx6 ()
def code_Same_j788 (nx6 : Unit → Option Bool) (nx37 : Unit → Option Bool) (x58 : Bool) : Option Bool :=
  bif x58 then code_Same_j766 nx6 true else nx37 ()
def code_Same_b789 (x17 : Proc) (a : List Proc) (b : List Proc) (nx6 : Unit → Option Bool) (i34 : Int) (x35 : Ins) (s : Unit) (nx37 : Unit → Option Bool) : Option Bool :=
  (idx x17.code i34).bind fun x48 => bif (((decide ((x35.op : Int) = x48.op) && decide ((x35.a : Int) = x48.a)) && decide ((x35.b : Int) = x48.b)) && decide ((x35.c : Int) = x48.c)) then (slices_Equal_int x35.args x48.args).bind fun y63 => code_Same_j788 nx6 nx37 (!y63) else code_Same_j788 nx6 nx37 true
def code_Same_k790 (nx6 : Unit → Option Bool) (s : Unit) : Option Bool :=
  code_Same_j766 nx6 false
def code_Same_b791 (b : List Proc) (a : List Proc) (i3 : Int) (x4 : Proc) (s : Unit) (nx6 : Unit → Option Bool) : Option Bool :=
  (idx b i3).bind fun x17 => bif (decide ((x4.params : Int) = x17.params) && decide ((x4.regs : Int) = x17.regs)) then bif decide (((x4.code.length : Int) : Int) ≠ (x17.code.length : Int)) then code_Same_j766 nx6 true else eachI (code_Same_b789 x17 a b nx6) (code_Same_k790 nx6) 0 x4.code () else code_Same_j766 nx6 true
def code_Same_k792 (s : Unit) : Option Bool :=
  some true
def code_Same (a : List Proc) (b : List Proc) : Option Bool :=
  bif decide (((a.length : Int) : Int) ≠ (b.length : Int)) then some false else eachI (code_Same_b791 b a) code_Same_k792 0 a ()
theorem code_Same_c (w0 : World) (M : BS) (hM : ∀ b, M b → b < w0.heap.size) (va : Value) (a : List Proc) (ha : Rd2 rProc w0 BE M va a) (vb : Value) (b : List Proc) (hb : Rd2 rProc w0 BE M vb b) (r : Bool) (hs : code_Same a b = some r) :
    Calls Tryd.prog 8 #[va, vb] w0 (fun e w' => Grow w0 w' ∧ e = .returned (.bool r)) := by
 refine calls_start (args := [va, vb]) Tryd.func8 rfl Tryd.ntmps8 (Nat.le_of_ble_eq_true rfl) ?_
 have h := SH.init hM
 replace h := h.argSr 1 ha none_own
 replace h := h.argSr 2 hb (hupd_own_sr none_own)
 have hl_a := ha.len_le
 have hl_b := hb.len_le
 refine wc_seq (wc_region (wl_ok (r_assign (v := (.bool (false))) rfl) (wl_nil (then_normal (wc_seq (wc_region (wl_ok (r_move (v := va) rfl) (wl_ok (r_move (v := vb) rfl) (w_callIn (args := [va, vb, (.func (.func 26) #[] #[])]) fnOk25 rfl rfl (calls_start (args := [va, vb, (.func (.func 26) #[] #[])]) Tryd.func25 rfl Tryd.ntmps25 (Nat.le_of_ble_eq_true rfl) (wc_seq (wc_region (wl_ok (r_assign (v := (.bool (false))) rfl) (wl_nil (then_normal (wc_seq (wc_seq (wc_region (wl_ok (r_move (v := va) rfl) (wl_ok (r_len SliceOf22 rfl (h.srS 1 rfl)) (wl_ok (r_move (v := vb) rfl) (wl_ok (r_len SliceOf22 rfl (h.srS 2 rfl)) (wl_ok (r_neq rfl rfl) ?_)))))))))))))))))))))))
 refine wl_nil (then_normal (wc_ifb hs rfl (fun c1 hs => ?_) (fun c1 hs => ?_)))
 ·
  refine wc_seq (wc_region (wl_ok (r_assign (v := (.bool (false))) rfl) (wl_nil (then_normal (wc_ret (then_ret (fin1 (v := (.bool (false))) Tryd.results25 rfl (⟨_, rfl, ?_⟩))))))))
  refine wl_ok (r_assign (v := (.bool (false))) rfl) (wl_nil (then_normal (wc_ret (fin1 (v := (.bool (false))) Tryd.results8 rfl ?_))))
  obtain rfl := Option.some.inj hs
  exact ⟨h.grown, rfl⟩
 ·
  refine wc_skip (then_normal (wc_seq (wc_seq (wc_region (wl_ok (r_move (v := va) rfl) (wl_ok (r_len SliceOf22 rfl (h.srS 1 rfl)) (wl_ok (r_move (v := (.int .i64 (0))) rfl) (wl_nil (then_normal (wc_block (wc_lp (σ := Nat × Int) (inl [6, 7, 8, 9, 17, 18, 19, 20, 21, 22, 23, 24, 25, 26, 27, 28, 29, 30, 31]) (fun ⟨k2, i3⟩ => [(17, (.int .i64 (i3)))]) (fun ⟨k2, i3⟩ w => SH w0 M BE w (hset [(1, .sr rProc va a), (2, .sr rProc vb b)]) ∧ i3 = (k2 : Int) ∧ eachI (code_Same_b791 b a) code_Same_k792 i3 (a.drop k2) () = some r) (fun ⟨k2, i3⟩ => a.length - k2) ⟨0, 0⟩ ⟨rfl, trivial⟩ ?_ ?_)))))))))))
  ·
   exact ⟨h.cn _, rfl, hs⟩
  ·
   rintro ⟨k2, i3⟩ w junk ⟨h, hik, hs⟩
   refine wc_seq (wc_region ?_)
   refine wl_ok (r_lss rfl rfl) (wl_nil (then_normal ?_))
   refine wc_seq (wc_if rfl (fun e7 => ?_) (fun e7 => ?_))
   ·
    refine wc_skip (then_normal ?_)
    obtain ⟨x4, e8a, e8b⟩ := drop_lt (hik ▸ e7)
    rw [e8b, eachI_cons] at hs
    generalize hnx6 : eachI (code_Same_b791 b a) code_Same_k792 (i3 + 1) (a.drop (k2 + 1)) = nx6 at hs
    have e8r := nat_rng ((h.srS 1 rfl)).len_le hik e7
    refine wc_seq (wc_block (wc_seq (wc_region (wl_ok (r_move (v := (.int .i64 (i3))) rfl) ?_))))
    obtain ⟨b10, o11, cs12, h, r13, i9⟩ := h.ixS 1 3 rfl SliceOf22 rfl (nat_nn hik) (get_nat hik e8a)
    obtain ⟨u14, rfl, g15⟩ := rProc_open r13
    replace h := h.knowRd 4 g15.up
    refine wl_ok (i9 _ _ _ _ _ _ _ _ _ rfl rfl) (wl_ok (r_ldPN (k := 0) (vs := [(.int .i64 (x4.params)), (.int .i64 (x4.regs)), u14]) h 3 rfl Many52 rfl rfl rfl (Nat.le_of_ble_eq_true rfl)) (w_allocN h 5 Many52 fun w b16 h => wl_ok (r_assign (v := (.int .i64 (i3))) rfl) (w_stN (vs := [(.int .i64 (x4.params)), (.int .i64 (x4.regs)), u14]) h 5 [(.int .i64 (x4.params)), (.int .i64 (x4.regs)), u14] rfl Many52 rfl rfl rfl rfl rfl (ones_cons rfl (ones_cons rfl (ones_cons (h.rdAt 4 rfl).one ones_nil))) fun w h => wl_nil (then_normal (wc_seq (wc_region (wl_ok (r_move (v := vb) rfl) (wl_ok (r_move (v := (.int .i64 (i3))) rfl) ?_))))))))
    obtain ⟨x17, e18, hs⟩ := o_bind hs
    obtain ⟨b20, o21, cs22, h, r23, i19⟩ := h.ixS 2 6 rfl SliceOf22 rfl (o_idx e18).1 (o_idx e18).2
    obtain ⟨u24, rfl, g25⟩ := rProc_open r23
    replace h := h.knowRd 7 g25.up
    refine wl_ok (i19 _ _ _ _ _ _ _ _ _ rfl rfl) (wl_ok (r_ldPN (k := 0) (vs := [(.int .i64 (x17.params)), (.int .i64 (x17.regs)), u24]) h 6 rfl Many52 rfl rfl rfl (Nat.le_of_ble_eq_true rfl)) (w_allocN h 8 Many52 fun w b26 h => w_stN (vs := [(.int .i64 (x17.params)), (.int .i64 (x17.regs)), u24]) h 8 [(.int .i64 (x17.params)), (.int .i64 (x17.regs)), u24] rfl Many52 rfl rfl rfl rfl rfl (ones_cons rfl (ones_cons rfl (ones_cons (h.rdAt 7 rfl).one ones_nil))) fun w h => wl_nil (then_normal (wc_join (σ := Bool) (inl [26, 27, 28, 29, 30]) (fun x27 => [(30, (.bool (x27)))]) (fun x27 w => SH w0 M BE w (hset [(1, .sr rProc va a), (2, .sr rProc vb b)]) ∧ code_Same_j766 nx6 x27 = some r) ?_ ?_))))
    ·
     rintro x27 w junk ⟨h, hs⟩
     refine wc_ifb hs rfl (fun c28 hs => ?_) (fun c28 hs => ?_)
     ·
      refine wc_seq (wc_region (wl_ok (r_assign (v := (.bool (false))) rfl) (wl_nil (then_normal (wc_ret (inBlock_ret (then_ret (then_ret (inBlock_ret (then_ret (fin1 (v := (.bool (false))) Tryd.results25 rfl (⟨_, rfl, ?_⟩))))))))))))
      refine wl_ok (r_assign (v := (.bool (false))) rfl) (wl_nil (then_normal (wc_ret (fin1 (v := (.bool (false))) Tryd.results8 rfl ?_))))
      obtain rfl := Option.some.inj hs
      exact ⟨h.grown, rfl⟩
     ·
      refine wc_skip (inBlock_normal (then_normal (wc_region (wl_ok (r_add rfl rfl e8r) (wl_ok (r_move (v := (.int .i64 ((i3 + 1)))) rfl) (wl_nil (then_loop ?_)))))))
      subst hnx6
      exact lend ⟨k2 + 1, i3 + 1⟩ ⟨h.cn _, by omega, hs⟩ (by have := of_decide_eq_true e7; dsimp only; omega)
    ·
     refine wc_region (wl_ok (r_move (v := (.func (.func 26) #[] #[])) rfl) (wl_ok (r_ldBN (vs := [(.int .i64 (x4.params)), (.int .i64 (x4.regs)), u14]) h 5 rfl Many52 rfl rfl rfl) (wl_ok (r_ldBN (vs := [(.int .i64 (x17.params)), (.int .i64 (x17.regs)), u24]) h 8 rfl Many52 rfl rfl rfl) (w_callIn (args := [(.agg #[(.int .i64 (x4.params)), (.int .i64 (x4.regs)), u14]), (.agg #[(.int .i64 (x17.params)), (.int .i64 (x17.regs)), u24])]) fnOk26 rfl rfl (calls_start (args := [(.agg #[(.int .i64 (x4.params)), (.int .i64 (x4.regs)), u14]), (.agg #[(.int .i64 (x17.params)), (.int .i64 (x17.regs)), u24])]) Tryd.func26 rfl Tryd.ntmps26 (Nat.le_of_ble_eq_true rfl) (wc_seq (wc_region (w_box (cs := [(.int .i64 (x4.params)), (.int .i64 (x4.regs)), u14]) h 9 rfl rfl fun w b29 h => w_box (cs := [(.int .i64 (x17.params)), (.int .i64 (x17.regs)), u24]) h 10 rfl rfl fun w b30 h => wl_ok (r_assign (v := (.bool (false))) rfl) (wl_nil (then_normal (wc_seq (wc_region (wl_ok (r_fieldAddr Fld52x0 rfl) (wl_ok (r_ldB h 9 rfl One3 rfl rfl) (wl_ok (r_fieldAddr Fld52x0 rfl) (wl_ok (r_ldB h 10 rfl One3 rfl rfl) (wl_ok (r_eql rfl rfl) (wl_ok (r_move (v := (.bool (decide ((x4.params : Int) = x17.params)))) rfl) (wl_gd0 rfl rfl (fun q => r_fieldAddr Fld52x1 rfl) (wl_gd0 rfl rfl (fun q => r_ldB h 9 rfl One3 (gvt q) rfl) (wl_gd0 rfl rfl (fun q => r_fieldAddr Fld52x1 rfl) ?_)))))))))))))))))))))
     refine wl_gd0 rfl rfl (fun q => r_ldB h 10 rfl One3 (gvt q) rfl) (wl_gd0 rfl rfl (fun q => r_eql (gvt q) (gvt q)) (wl_ok (r_pand rfl rfl evc) (wl_ok (r_move (v := (.bool ((decide ((x4.params : Int) = x17.params) && decide ((x4.regs : Int) = x17.regs))))) rfl) (c_split (b := (decide ((x4.params : Int) = x17.params) && decide ((x4.regs : Int) = x17.regs))) hs (fun c31 hs => ?_) (fun c31 hs => ?_)))))
     ·
      refine wl_on rfl (congrArg Value.bool c31) (wl_ok (r_fieldAddr Fld52x2 rfl) (wl_on rfl (congrArg Value.bool c31) (wl_ok (r_ldB h 9 rfl One50 rfl rfl) (wl_on rfl (congrArg Value.bool c31) (wl_ok (r_fieldAddr Fld52x2 rfl) (wl_on rfl (congrArg Value.bool c31) (wl_ok (r_ldB h 10 rfl One50 rfl rfl) (wl_on rfl (congrArg Value.bool c31) (w_callIn (args := [u14, u24, (.func (.func 28) #[] #[])]) fnOk27 rfl rfl (calls_start (args := [u14, u24, (.func (.func 28) #[] #[])]) Tryd.func27 rfl Tryd.ntmps27 (Nat.le_of_ble_eq_true rfl) (wc_seq (wc_region (wl_ok (r_assign (v := (.bool (false))) rfl) (wl_nil (then_normal (wc_seq (wc_seq (wc_region (wl_ok (r_move (v := u14) rfl) (wl_ok (r_len SliceOf50 rfl (h.rdS 4 rfl)) (wl_ok (r_move (v := u24) rfl) (wl_ok (r_len SliceOf50 rfl (h.rdS 7 rfl)) (wl_ok (r_neq rfl rfl) ?_)))))))))))))))))))))))
      refine wl_nil (then_normal (wc_ifb hs rfl (fun c32 hs => ?_) (fun c32 hs => ?_)))
      ·
       refine wc_seq (wc_region (wl_ok (r_assign (v := (.bool (false))) rfl) (wl_nil (then_normal (wc_ret (then_ret (fin1 (v := (.bool (false))) Tryd.results27 rfl (⟨_, rfl, ?_⟩))))))))
       refine wl_ok (r_pick (b := true) (v := (.bool (false))) (congrArg Value.bool c31) rfl) (wl_ok (r_assign (v := (.bool (false))) rfl) (wl_nil (then_normal (wc_ret (fin1 (v := (.bool (false))) Tryd.results26 rfl (⟨_, rfl, ?_⟩))))))
       refine wl_ok (r_notb rfl) (wl_nil (then_loop ?_))
       exact jend true ⟨h.cn _, hs⟩
      ·
       refine wc_skip (then_normal (wc_seq (wc_seq (wc_region (wl_ok (r_move (v := u14) rfl) (wl_ok (r_len SliceOf50 rfl (h.rdS 4 rfl)) (wl_ok (r_move (v := (.int .i64 (0))) rfl) (wl_nil (then_normal (wc_block (wc_lp (σ := Nat × Int) (inl [6, 7, 8, 9, 17, 18, 19, 20, 21, 22, 23, 24, 25, 26, 27, 28, 29, 30, 31]) (fun ⟨k33, i34⟩ => [(17, (.int .i64 (i34)))]) (fun ⟨k33, i34⟩ w => SH w0 M BE w (hset [(1, .sr rProc va a), (2, .sr rProc vb b), (3, .pt b10 o11 [(.int .i64 (x4.params)), (.int .i64 (x4.regs)), u14]), (4, .rd rIns u14 x4.code), (5, .blk b16 [(.int .i64 (x4.params)), (.int .i64 (x4.regs)), u14]), (6, .pt b20 o21 [(.int .i64 (x17.params)), (.int .i64 (x17.regs)), u24]), (7, .rd rIns u24 x17.code), (8, .blk b26 [(.int .i64 (x17.params)), (.int .i64 (x17.regs)), u24]), (9, .blk b29 [(.int .i64 (x4.params)), (.int .i64 (x4.regs)), u14]), (10, .blk b30 [(.int .i64 (x17.params)), (.int .i64 (x17.regs)), u24])]) ∧ i34 = (k33 : Int) ∧ eachI (code_Same_b789 x17 a b nx6) (code_Same_k790 nx6) i34 (x4.code.drop k33) () = some r) (fun ⟨k33, i34⟩ => x4.code.length - k33) ⟨0, 0⟩ ⟨rfl, trivial⟩ ?_ ?_)))))))))))
       ·
        exact ⟨h.cn _, rfl, hs⟩
       ·
        rintro ⟨k33, i34⟩ w junk ⟨h, hik, hs⟩
        refine wc_seq (wc_region ?_)
        refine wl_ok (r_lss rfl rfl) (wl_nil (then_normal ?_))
        refine wc_seq (wc_if rfl (fun e38 => ?_) (fun e38 => ?_))
        ·
         refine wc_skip (then_normal ?_)
         obtain ⟨x35, e39a, e39b⟩ := drop_lt (hik ▸ e38)
         rw [e39b, eachI_cons] at hs
         generalize hnx37 : eachI (code_Same_b789 x17 a b nx6) (code_Same_k790 nx6) (i34 + 1) (x4.code.drop (k33 + 1)) = nx37 at hs
         have e39r := nat_rng ((h.rdS 4 rfl)).len_le hik e38
         refine wc_seq (wc_block (wc_seq (wc_region (wl_ok (r_move (v := (.int .i64 (i34))) rfl) ?_))))
         obtain ⟨b41, o42, cs43, h, r44, i40⟩ := h.ixR 4 11 rfl SliceOf50 rfl (nat_nn hik) (get_nat hik e39a)
         obtain ⟨u45, rfl, g46⟩ := rIns_open r44
         replace h := h.knowRd 12 g46.up
         refine wl_ok (i40 _ _ _ _ _ _ _ _ _ rfl rfl) (wl_ok (r_ldPN (k := 0) (vs := [(.int .i64 (x35.op)), (.int .i64 (x35.a)), (.int .i64 (x35.b)), (.int .i64 (x35.c)), u45]) h 11 rfl Many54 rfl rfl rfl (Nat.le_of_ble_eq_true rfl)) (w_allocN h 13 Many54 fun w b47 h => wl_ok (r_assign (v := (.int .i64 (i34))) rfl) (w_stN (vs := [(.int .i64 (x35.op)), (.int .i64 (x35.a)), (.int .i64 (x35.b)), (.int .i64 (x35.c)), u45]) h 13 [(.int .i64 (x35.op)), (.int .i64 (x35.a)), (.int .i64 (x35.b)), (.int .i64 (x35.c)), u45] rfl Many54 rfl rfl rfl rfl rfl (ones_cons rfl (ones_cons rfl (ones_cons rfl (ones_cons rfl (ones_cons (h.rdAt 12 rfl).one ones_nil))))) fun w h => wl_nil (then_normal (wc_seq (wc_region (wl_ok (r_move (v := u24) rfl) (wl_ok (r_move (v := (.int .i64 (i34))) rfl) ?_))))))))
         obtain ⟨x48, e49, hs⟩ := o_bind hs
         obtain ⟨b51, o52, cs53, h, r54, i50⟩ := h.ixR 7 14 rfl SliceOf50 rfl (o_idx e49).1 (o_idx e49).2
         obtain ⟨u55, rfl, g56⟩ := rIns_open r54
         replace h := h.knowRd 15 g56.up
         refine wl_ok (i50 _ _ _ _ _ _ _ _ _ rfl rfl) (wl_ok (r_ldPN (k := 0) (vs := [(.int .i64 (x48.op)), (.int .i64 (x48.a)), (.int .i64 (x48.b)), (.int .i64 (x48.c)), u55]) h 14 rfl Many54 rfl rfl rfl (Nat.le_of_ble_eq_true rfl)) (w_allocN h 16 Many54 fun w b57 h => w_stN (vs := [(.int .i64 (x48.op)), (.int .i64 (x48.a)), (.int .i64 (x48.b)), (.int .i64 (x48.c)), u55]) h 16 [(.int .i64 (x48.op)), (.int .i64 (x48.a)), (.int .i64 (x48.b)), (.int .i64 (x48.c)), u55] rfl Many54 rfl rfl rfl rfl rfl (ones_cons rfl (ones_cons rfl (ones_cons rfl (ones_cons rfl (ones_cons (h.rdAt 15 rfl).one ones_nil))))) fun w h => wl_nil (then_normal (wc_join (σ := Bool) (inl [26, 27, 28, 29, 30]) (fun x58 => [(30, (.bool (x58)))]) (fun x58 w => SH w0 M BE w (hset [(1, .sr rProc va a), (2, .sr rProc vb b), (3, .pt b10 o11 [(.int .i64 (x4.params)), (.int .i64 (x4.regs)), u14]), (4, .rd rIns u14 x4.code), (5, .blk b16 [(.int .i64 (x4.params)), (.int .i64 (x4.regs)), u14]), (6, .pt b20 o21 [(.int .i64 (x17.params)), (.int .i64 (x17.regs)), u24]), (7, .rd rIns u24 x17.code), (8, .blk b26 [(.int .i64 (x17.params)), (.int .i64 (x17.regs)), u24]), (9, .blk b29 [(.int .i64 (x4.params)), (.int .i64 (x4.regs)), u14]), (10, .blk b30 [(.int .i64 (x17.params)), (.int .i64 (x17.regs)), u24])]) ∧ code_Same_j788 nx6 nx37 x58 = some r) ?_ ?_))))
         ·
          rintro x58 w junk ⟨h, hs⟩
          refine wc_ifb hs rfl (fun c59 hs => ?_) (fun c59 hs => ?_)
          ·
           refine wc_seq (wc_region (wl_ok (r_assign (v := (.bool (false))) rfl) (wl_nil (then_normal (wc_ret (inBlock_ret (then_ret (then_ret (inBlock_ret (then_ret (fin1 (v := (.bool (false))) Tryd.results27 rfl (⟨_, rfl, ?_⟩))))))))))))
           refine wl_ok (r_pick (b := true) (v := (.bool (false))) (congrArg Value.bool c31) rfl) (wl_ok (r_assign (v := (.bool (false))) rfl) (wl_nil (then_normal (wc_ret (fin1 (v := (.bool (false))) Tryd.results26 rfl (⟨_, rfl, ?_⟩))))))
           refine wl_ok (r_notb rfl) (wl_nil (then_loop ?_))
           exact jend true ⟨h.cn _, hs⟩
          ·
           refine wc_skip (inBlock_normal (then_normal (wc_region (wl_ok (r_add rfl rfl e39r) (wl_ok (r_move (v := (.int .i64 ((i34 + 1)))) rfl) (wl_nil (then_loop ?_)))))))
           subst hnx37
           exact lend ⟨k33 + 1, i34 + 1⟩ ⟨h.cn _, by omega, hs⟩ (by have := of_decide_eq_true e38; dsimp only; omega)
         ·
          refine wc_region (wl_ok (r_move (v := (.func (.func 28) #[] #[])) rfl) (wl_ok (r_ldBN (vs := [(.int .i64 (x35.op)), (.int .i64 (x35.a)), (.int .i64 (x35.b)), (.int .i64 (x35.c)), u45]) h 13 rfl Many54 rfl rfl rfl) (wl_ok (r_ldBN (vs := [(.int .i64 (x48.op)), (.int .i64 (x48.a)), (.int .i64 (x48.b)), (.int .i64 (x48.c)), u55]) h 16 rfl Many54 rfl rfl rfl) (w_callIn (args := [(.agg #[(.int .i64 (x35.op)), (.int .i64 (x35.a)), (.int .i64 (x35.b)), (.int .i64 (x35.c)), u45]), (.agg #[(.int .i64 (x48.op)), (.int .i64 (x48.a)), (.int .i64 (x48.b)), (.int .i64 (x48.c)), u55])]) fnOk28 rfl rfl (calls_start (args := [(.agg #[(.int .i64 (x35.op)), (.int .i64 (x35.a)), (.int .i64 (x35.b)), (.int .i64 (x35.c)), u45]), (.agg #[(.int .i64 (x48.op)), (.int .i64 (x48.a)), (.int .i64 (x48.b)), (.int .i64 (x48.c)), u55])]) Tryd.func28 rfl Tryd.ntmps28 (Nat.le_of_ble_eq_true rfl) (wc_seq (wc_region (w_box (cs := [(.int .i64 (x35.op)), (.int .i64 (x35.a)), (.int .i64 (x35.b)), (.int .i64 (x35.c)), u45]) h 17 rfl rfl fun w b60 h => w_box (cs := [(.int .i64 (x48.op)), (.int .i64 (x48.a)), (.int .i64 (x48.b)), (.int .i64 (x48.c)), u55]) h 18 rfl rfl fun w b61 h => wl_ok (r_assign (v := (.bool (false))) rfl) (wl_nil (then_normal (wc_seq (wc_region (wl_ok (r_fieldAddr Fld54x0 rfl) (wl_ok (r_ldB h 17 rfl One3 rfl rfl) (wl_ok (r_fieldAddr Fld54x0 rfl) (wl_ok (r_ldB h 18 rfl One3 rfl rfl) (wl_ok (r_eql rfl rfl) (wl_ok (r_move (v := (.bool (decide ((x35.op : Int) = x48.op)))) rfl) (wl_gd0 rfl rfl (fun q => r_fieldAddr Fld54x1 rfl) (wl_gd0 rfl rfl (fun q => r_ldB h 17 rfl One3 (gvt q) rfl) (wl_gd0 rfl rfl (fun q => r_fieldAddr Fld54x1 rfl) ?_)))))))))))))))))))))
          refine wl_gd0 rfl rfl (fun q => r_ldB h 18 rfl One3 (gvt q) rfl) (wl_gd0 rfl rfl (fun q => r_eql (gvt q) (gvt q)) (wl_ok (r_pand rfl rfl evc) (wl_ok (r_move (v := (.bool ((decide ((x35.op : Int) = x48.op) && decide ((x35.a : Int) = x48.a))))) rfl) (wl_gd0 rfl rfl (fun q => r_fieldAddr Fld54x2 rfl) (wl_gd0 rfl rfl (fun q => r_ldB h 17 rfl One3 (gvt q) rfl) (wl_gd0 rfl rfl (fun q => r_fieldAddr Fld54x2 rfl) (wl_gd0 rfl rfl (fun q => r_ldB h 18 rfl One3 (gvt q) rfl) (wl_gd0 rfl rfl (fun q => r_eql (gvt q) (gvt q)) (wl_ok (r_pand rfl rfl evc) (wl_ok (r_move (v := (.bool (((decide ((x35.op : Int) = x48.op) && decide ((x35.a : Int) = x48.a)) && decide ((x35.b : Int) = x48.b))))) rfl) (wl_gd0 rfl rfl (fun q => r_fieldAddr Fld54x3 rfl) (wl_gd0 rfl rfl (fun q => r_ldB h 17 rfl One3 (gvt q) rfl) (wl_gd0 rfl rfl (fun q => r_fieldAddr Fld54x3 rfl) (wl_gd0 rfl rfl (fun q => r_ldB h 18 rfl One3 (gvt q) rfl) (wl_gd0 rfl rfl (fun q => r_eql (gvt q) (gvt q)) (wl_ok (r_pand rfl rfl evc) (wl_ok (r_move (v := (.bool ((((decide ((x35.op : Int) = x48.op) && decide ((x35.a : Int) = x48.a)) && decide ((x35.b : Int) = x48.b)) && decide ((x35.c : Int) = x48.c))))) rfl) (c_split (b := (((decide ((x35.op : Int) = x48.op) && decide ((x35.a : Int) = x48.a)) && decide ((x35.b : Int) = x48.b)) && decide ((x35.c : Int) = x48.c))) hs (fun c62 hs => ?_) (fun c62 hs => ?_)))))))))))))))))))
          ·
           refine wl_on rfl (congrArg Value.bool c62) (wl_ok (r_fieldAddr Fld54x4 rfl) (wl_on rfl (congrArg Value.bool c62) (wl_ok (r_ldB h 17 rfl One43 rfl rfl) (wl_on rfl (congrArg Value.bool c62) (wl_ok (r_fieldAddr Fld54x4 rfl) (wl_on rfl (congrArg Value.bool c62) (wl_ok (r_ldB h 18 rfl One43 rfl rfl) (wl_on rfl (congrArg Value.bool c62) ?_))))))))
           obtain ⟨y63, e64, hs⟩ := o_bind hs
           refine w_call fnOk29 rfl rfl (slices_Equal_int_c _ _ h.lt u45 x35.args (h.rdS 12 rfl) u55 x48.args (h.rdS 15 rfl) _ e64) ?_
           rintro _ w ⟨k65, rfl⟩
           refine ⟨_, rfl, ?_⟩
           replace h := h.grow k65
           refine wl_ok (r_pick (b := true) (v := (.bool (y63))) (congrArg Value.bool c62) rfl) (wl_ok (r_assign (v := (.bool (y63))) rfl) (wl_nil (then_normal (wc_ret (fin1 (v := (.bool (y63))) Tryd.results28 rfl (⟨_, rfl, ?_⟩))))))
           refine wl_ok (r_notb rfl) (wl_nil (then_loop ?_))
           exact jend (!y63) ⟨h.cn _, hs⟩
          ·
           refine wl_off (b' := false) rfl (congrArg Value.bool c62) rfl (wl_off (b' := false) rfl (congrArg Value.bool c62) rfl (wl_off (b' := false) rfl (congrArg Value.bool c62) rfl (wl_off (b' := false) rfl (congrArg Value.bool c62) rfl (wl_off (b' := false) rfl (congrArg Value.bool c62) rfl (wl_ok (r_pick (b := false) (v := (.bool (false))) (congrArg Value.bool c62) rfl) (wl_ok (r_assign (v := (.bool (false))) rfl) (wl_nil (then_normal (wc_ret (fin1 (v := (.bool (false))) Tryd.results28 rfl (⟨_, rfl, ?_⟩)))))))))))
           refine wl_ok (r_notb rfl) (wl_nil (then_loop ?_))
           exact jend true ⟨h.cn _, hs⟩
        ·
         rw [drop_ge (hik ▸ e38), eachI_nil] at hs
         refine wc_exit (then_exit (then_exit (inBlock_eq (then_normal (wc_seq (wc_region (wl_ok (r_assign (v := (.bool (true))) rfl) (wl_nil (then_normal (wc_ret (fin1 (v := (.bool (true))) Tryd.results27 rfl (⟨_, rfl, ?_⟩))))))))))))
         refine wl_ok (r_pick (b := true) (v := (.bool (true))) (congrArg Value.bool c31) rfl) (wl_ok (r_assign (v := (.bool (true))) rfl) (wl_nil (then_normal (wc_ret (fin1 (v := (.bool (true))) Tryd.results26 rfl (⟨_, rfl, ?_⟩))))))
         refine wl_ok (r_notb rfl) (wl_nil (then_loop ?_))
         exact jend false ⟨h.cn _, hs⟩
     ·
      refine wl_off (b' := false) rfl (congrArg Value.bool c31) rfl (wl_off (b' := false) rfl (congrArg Value.bool c31) rfl (wl_off (b' := false) rfl (congrArg Value.bool c31) rfl (wl_off (b' := false) rfl (congrArg Value.bool c31) rfl (wl_off (b' := false) rfl (congrArg Value.bool c31) rfl (wl_ok (r_pick (b := false) (v := (.bool (false))) (congrArg Value.bool c31) rfl) (wl_ok (r_assign (v := (.bool (false))) rfl) (wl_nil (then_normal (wc_ret (fin1 (v := (.bool (false))) Tryd.results26 rfl (⟨_, rfl, ?_⟩)))))))))))
      refine wl_ok (r_notb rfl) (wl_nil (then_loop ?_))
      exact jend true ⟨h.cn _, hs⟩
   ·
    rw [drop_ge (hik ▸ e7), eachI_nil] at hs
    refine wc_exit (then_exit (then_exit (inBlock_eq (then_normal (wc_seq (wc_region (wl_ok (r_assign (v := (.bool (true))) rfl) (wl_nil (then_normal (wc_ret (fin1 (v := (.bool (true))) Tryd.results25 rfl (⟨_, rfl, ?_⟩))))))))))))
    refine wl_ok (r_assign (v := (.bool (true))) rfl) (wl_nil (then_normal (wc_ret (fin1 (v := (.bool (true))) Tryd.results8 rfl ?_))))
    obtain rfl := Option.some.inj hs
    exact ⟨h.grown, rfl⟩
def wandererlaw_printed (N : Nat) : Option Bool :=
  (image_Print [(⟨0, 1, [(⟨8, 0, 0, 0, []⟩ : Ins)]⟩ : Proc)]).bind fun y3 => (image_Parse N y3.1).bind fun y6 => bif ((decide ((y3.2 : Int) = 0) && decide ((y6.2 : Int) = 0)) && decide ((y3.1 : Str) = [48, 32, 49, 32, 49, 10, 56, 32, 48, 32, 48, 32, 48, 10])) then (code_Same [(⟨0, 1, [(⟨8, 0, 0, 0, []⟩ : Ins)]⟩ : Proc)] y6.1).bind fun y12 => some y12 else some false
end Go.Proofs.YtckocfgmnlhcmaaDoor
