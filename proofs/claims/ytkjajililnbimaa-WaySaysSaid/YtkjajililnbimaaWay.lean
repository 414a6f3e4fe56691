/-
  Functions of the program, each as plain Lean, and that the code does just that.
-/
import Derived.Test.YtkjajililnbimaaProg
import Derived.Test.YtkjajililnbimaaLift
set_option linter.unusedSimpArgs false
set_option linter.unusedVariables false
set_option maxRecDepth 10000
namespace Go.Proofs.Ytkjajililnbimaa
open Go Go.Proofs Go.LX
theorem Arr294 : Arr2 Try.prog 94 36 := ⟨Try.underlying94, ⟨(.slice none 0 0), (.slice none 0 0), by kernel_rfl⟩, by kernel_rfl, ⟨_, Try.underlying36⟩⟩
theorem ElemOf24 : ElemOf Try.prog 24 3 1 8 := ⟨Try.underlying24, elem_of (z := (.int .i64 (0))) (by kernel_rfl) rfl⟩
theorem ElemOf36 : ElemOf Try.prog 36 38 6 64 := ⟨Try.underlying36, elem_of (z := (.agg #[(.int .i64 (0)), (.int .i64 (0)), (.int .i64 (0)), (.int .i64 (0)), (.bool (false)), (.slice none 0 0)])) (by kernel_rfl) rfl⟩
theorem Fld38x0 : FieldAt Try.prog 38 0 0 := ⟨_, _, 0, Try.underlying38, rfl, rfl, by kernel_rfl⟩
theorem Fld38x1 : FieldAt Try.prog 38 1 1 := ⟨_, _, 0, Try.underlying38, rfl, rfl, by kernel_rfl⟩
theorem Fld38x2 : FieldAt Try.prog 38 2 2 := ⟨_, _, 0, Try.underlying38, rfl, rfl, by kernel_rfl⟩
theorem Fld38x3 : FieldAt Try.prog 38 3 3 := ⟨_, _, 0, Try.underlying38, rfl, rfl, by kernel_rfl⟩
theorem Fld38x4 : FieldAt Try.prog 38 4 4 := ⟨_, _, 0, Try.underlying38, rfl, rfl, by kernel_rfl⟩
theorem Fld38x5 : FieldAt Try.prog 38 5 5 := ⟨_, _, 0, Try.underlying38, rfl, rfl, by kernel_rfl⟩
theorem fnOk14 : FnOk Try.prog 14 := ⟨_, Try.func14, by kernel_rfl, rfl⟩
theorem fnOk18 : FnOk Try.prog 18 := ⟨_, Try.func18, by kernel_rfl, rfl⟩
theorem fnOk19 : FnOk Try.prog 19 := ⟨_, Try.func19, by kernel_rfl, rfl⟩
theorem fnOk20 : FnOk Try.prog 20 := ⟨_, Try.func20, by kernel_rfl, rfl⟩
theorem fnOk21 : FnOk Try.prog 21 := ⟨_, Try.func21, by kernel_rfl, rfl⟩
theorem fnOk22 : FnOk Try.prog 22 := ⟨_, Try.func22, by kernel_rfl, rfl⟩
theorem fnOk23 : FnOk Try.prog 23 := ⟨_, Try.func23, by kernel_rfl, rfl⟩
theorem fnOk24 : FnOk Try.prog 24 := ⟨_, Try.func24, by kernel_rfl, rfl⟩
theorem fnOk25 : FnOk Try.prog 25 := ⟨_, Try.func25, by kernel_rfl, rfl⟩
theorem fnOk26 : FnOk Try.prog 26 := ⟨_, Try.func26, by kernel_rfl, rfl⟩
theorem fnOk27 : FnOk Try.prog 27 := ⟨_, Try.func27, by kernel_rfl, rfl⟩
theorem fnOk63 : FnOk Try.prog 63 := ⟨_, Try.func63, by kernel_rfl, rfl⟩
theorem fnOk64 : FnOk Try.prog 64 := ⟨_, Try.func64, by kernel_rfl, rfl⟩
theorem fnOk65 : FnOk Try.prog 65 := ⟨_, Try.func65, by kernel_rfl, rfl⟩
theorem fnOk66 : FnOk Try.prog 66 := ⟨_, Try.func66, by kernel_rfl, rfl⟩
theorem fnOk67 : FnOk Try.prog 67 := ⟨_, Try.func67, by kernel_rfl, rfl⟩
theorem fnOk78 : FnOk Try.prog 78 := ⟨_, Try.func78, by kernel_rfl, rfl⟩
theorem Many38 : Many Try.prog 38 [(.int .i64 (0)), (.int .i64 (0)), (.int .i64 (0)), (.int .i64 (0)), (.bool (false)), (.slice none 0 0)] := ⟨⟨_, Try.underlying38, trivial⟩, by kernel_rfl⟩
theorem One24 : One Try.prog 24 (.slice none 0 0) := ⟨⟨_, Try.underlying24, trivial⟩, by kernel_rfl, rfl⟩
theorem One3 : One Try.prog 3 (.int .i64 (0)) := ⟨⟨_, Try.underlying3, trivial⟩, by kernel_rfl, rfl⟩
theorem One4 : One Try.prog 4 (.bool (false)) := ⟨⟨_, Try.underlying4, trivial⟩, by kernel_rfl, rfl⟩
theorem SliceOf24 : SliceOf Try.prog 24 3 1 := ⟨Try.underlying24, by kernel_rfl⟩
theorem SliceOf36 : SliceOf Try.prog 36 38 6 := ⟨Try.underlying36, by kernel_rfl⟩
theorem Struct38 : Struct Try.prog 38 [(.int .i64 (0)), (.int .i64 (0)), (.int .i64 (0)), (.int .i64 (0)), (.bool (false)), (.slice none 0 0)] [(0, 1), (1, 1), (2, 1), (3, 1), (4, 1), (5, 1)] := ⟨by kernel_rfl, _, Try.underlying38, by kernel_rfl⟩
theorem ZeroOne38 : ZeroOne Try.prog 38 := ⟨(.agg #[(.int .i64 (0)), (.int .i64 (0)), (.int .i64 (0)), (.int .i64 (0)), (.bool (false)), (.slice none 0 0)]), by kernel_rfl, by kernel_rfl⟩
theorem mixed : Try.prog.follows .mixedOrders = true := by kernel_rfl
def way_Check_b3 (x4 : Mail) (s : Unit) (nx6 : Unit → Int) : Int :=
  bif (((((((decide ((x4.from_ : Int) < 0) || decide ((3 : Int) ≤ x4.from_)) || decide ((x4.to_ : Int) < 0)) || decide ((3 : Int) ≤ x4.to_)) || decide ((x4.co : Int) < 0)) || decide ((3 : Int) ≤ x4.co)) || decide ((x4.epoch : Int) < 2)) || decide ((100 : Int) < x4.epoch)) then 3 else bif ((x4.taken != decide (((x4.image.length : Int) : Int) = 0)) || decide ((1200 : Int) < (x4.image.length : Int))) then 4 else nx6 ()
def way_Check_k4 (s : Unit) : Int :=
  0
def way_Check (a : List Mail) : Int :=
  bif decide ((40 : Int) < (a.length : Int)) then 2 else each way_Check_b3 way_Check_k4 a ()
theorem way_Check_c (w0 : World) (M : BS) (hM : ∀ b, M b → b < w0.heap.size) (va : Value) (a : List Mail) (ha : Rd2 rMail w0 BE M va a) (r : Int) (hs : way_Check a = r) :
    Calls Try.prog 22 #[va] w0 (fun e w' => Grow w0 w' ∧ e = .returned (.int .i64 r)) := by
  refine calls_start (args := [va]) Try.func22 rfl Try.ntmps22 (Nat.le_of_ble_eq_true rfl) ?_
  have h := SH.init hM
  replace h := h.argSr 1 ha none_own
  have hl_a := ha.len_le
  refine wc_seq ?_
  refine wc_region ?_
  refine wl_ok (r_assign (v := (.int .i64 (0))) rfl) ?_
  refine wl_nil ?_
  refine then_normal ?_
  refine wc_seq ?_
  refine wc_seq ?_
  refine wc_region ?_
  refine wl_ok (r_move (v := va) rfl) ?_
  refine wl_ok (r_len SliceOf36 rfl (h.srS 1 rfl)) ?_
  refine wl_ok (r_gtr rfl rfl) ?_
  refine wl_nil ?_
  refine then_normal ?_
  refine wc_ifb hs rfl (fun c1 hs => ?_) (fun c1 hs => ?_)
  · skip
    refine wc_seq ?_
    refine wc_region ?_
    refine wl_ok (r_assign (v := (.int .i64 (2))) rfl) ?_
    refine wl_nil ?_
    refine then_normal ?_
    refine wc_ret ?_
    refine then_ret ?_
    refine fin1 (v := (.int .i64 (2))) Try.results22 rfl ?_
    obtain rfl := hs
    exact ⟨h.grown, rfl⟩
  · skip
    refine wc_skip ?_
    refine then_normal ?_
    refine wc_seq ?_
    refine wc_seq ?_
    refine wc_region ?_
    refine wl_ok (r_move (v := va) rfl) ?_
    refine wl_ok (r_len SliceOf36 rfl (h.srS 1 rfl)) ?_
    refine wl_ok (r_move (v := (.int .i64 (0))) rfl) ?_
    refine wl_nil ?_
    refine then_normal ?_
    refine wc_block ?_
    refine wc_lp (σ := Nat × Int) (inl [2, 4, 10, 11, 12, 13, 14, 15, 16, 17, 18, 19, 20, 21, 22, 23, 24, 25, 26, 27, 28, 29, 30, 31, 32, 33, 34, 35, 36, 37, 38, 39, 40, 41, 42, 43, 44, 45, 46, 47, 48, 49, 50, 51, 52, 53, 54, 55, 56, 57, 58, 59, 60, 61, 62, 63, 64, 65]) (fun ⟨k2, i3⟩ => [(10, (.int .i64 (i3)))]) (fun ⟨k2, i3⟩ w => SH w0 M BE w (hset [(1, .sr rMail va a)]) ∧ i3 = (k2 : Int) ∧ each way_Check_b3 way_Check_k4 (a.drop k2) () = r) (fun ⟨k2, i3⟩ => a.length - k2) ⟨0, 0⟩ ⟨rfl, trivial⟩ ?_ ?_
    · exact ⟨h.cn _, rfl, hs⟩
    · rintro ⟨k2, i3⟩ w junk ⟨h, hik, hs⟩
      refine wc_seq (wc_region ?_)
      refine wl_ok (r_lss rfl rfl) ?_
      refine wl_nil (then_normal ?_)
      refine wc_seq ?_
      refine wc_if rfl (fun e7 => ?_) (fun e7 => ?_)
      · refine wc_skip (then_normal ?_)
        obtain ⟨x4, e8a, e8b⟩ := drop_lt (hik ▸ e7)
        rw [e8b, each_cons] at hs
        generalize hnx6 : each way_Check_b3 way_Check_k4 (a.drop (k2 + 1)) = nx6 at hs
        have e8r := nat_rng ((h.srS 1 rfl)).len_le hik e7
        refine wc_seq ?_
        refine wc_block ?_
        refine wc_seq ?_
        refine wc_region ?_
        obtain ⟨b10, o11, cs12, h, r13, i9⟩ := h.ixS 1 2 rfl SliceOf36 rfl (nat_nn hik) (get_nat hik e8a)
        obtain ⟨u14, rfl, g15⟩ := rMail_open r13
        replace h := h.knowRd 3 g15.up
        refine wl_ok (i9 _ _ _ _ _ _ _ _ _ rfl rfl) ?_
        refine wl_ok (r_ldPN (k := 0) (vs := [(.int .i64 (x4.from_)), (.int .i64 (x4.to_)), (.int .i64 (x4.co)), (.int .i64 (x4.epoch)), (.bool (x4.taken)), u14]) h 2 rfl Many38 rfl rfl rfl (Nat.le_of_ble_eq_true rfl)) ?_
        refine w_allocN h 4 Many38 fun w b16 h => ?_
        refine w_stN (vs := [(.int .i64 (x4.from_)), (.int .i64 (x4.to_)), (.int .i64 (x4.co)), (.int .i64 (x4.epoch)), (.bool (x4.taken)), u14]) h 4 [(.int .i64 (x4.from_)), (.int .i64 (x4.to_)), (.int .i64 (x4.co)), (.int .i64 (x4.epoch)), (.bool (x4.taken)), u14] rfl Many38 rfl rfl rfl rfl rfl (ones_cons rfl (ones_cons rfl (ones_cons rfl (ones_cons rfl (ones_cons rfl (ones_cons (h.rdAt 3 rfl).one ones_nil)))))) fun w h => ?_
        refine wl_nil ?_
        refine then_normal ?_
        refine wc_seq ?_
        refine wc_seq ?_
        refine wc_region ?_
        refine wl_ok (r_fieldAddr Fld38x0 rfl) ?_
        refine wl_ok (r_ldB h 4 rfl One3 rfl rfl) ?_
        refine wl_ok (r_lss rfl rfl) ?_
        refine wl_ok (r_move (v := (.bool (decide ((x4.from_ : Int) < 0)))) rfl) ?_
        refine wl_gd0 rfl rfl (fun q => r_fieldAddr Fld38x0 rfl) ?_
        refine wl_gd0 rfl rfl (fun q => r_ldB h 4 rfl One3 (gvt q) rfl) ?_
        refine wl_gd0 rfl rfl (fun q => r_geq (gvt q) rfl) ?_
        refine wl_ok (r_por rfl rfl evc) ?_
        refine wl_ok (r_move (v := (.bool ((decide ((x4.from_ : Int) < 0) || decide ((3 : Int) ≤ x4.from_))))) rfl) ?_
        refine wl_gd0 rfl rfl (fun q => r_fieldAddr Fld38x1 rfl) ?_
        refine wl_gd0 rfl rfl (fun q => r_ldB h 4 rfl One3 (gvt q) rfl) ?_
        refine wl_gd0 rfl rfl (fun q => r_lss (gvt q) rfl) ?_
        refine wl_ok (r_por rfl rfl evc) ?_
        refine wl_ok (r_move (v := (.bool (((decide ((x4.from_ : Int) < 0) || decide ((3 : Int) ≤ x4.from_)) || decide ((x4.to_ : Int) < 0))))) rfl) ?_
        refine wl_gd0 rfl rfl (fun q => r_fieldAddr Fld38x1 rfl) ?_
        refine wl_gd0 rfl rfl (fun q => r_ldB h 4 rfl One3 (gvt q) rfl) ?_
        refine wl_gd0 rfl rfl (fun q => r_geq (gvt q) rfl) ?_
        refine wl_ok (r_por rfl rfl evc) ?_
        refine wl_ok (r_move (v := (.bool ((((decide ((x4.from_ : Int) < 0) || decide ((3 : Int) ≤ x4.from_)) || decide ((x4.to_ : Int) < 0)) || decide ((3 : Int) ≤ x4.to_))))) rfl) ?_
        refine wl_gd0 rfl rfl (fun q => r_fieldAddr Fld38x2 rfl) ?_
        refine wl_gd0 rfl rfl (fun q => r_ldB h 4 rfl One3 (gvt q) rfl) ?_
        refine wl_gd0 rfl rfl (fun q => r_lss (gvt q) rfl) ?_
        refine wl_ok (r_por rfl rfl evc) ?_
        refine wl_ok (r_move (v := (.bool (((((decide ((x4.from_ : Int) < 0) || decide ((3 : Int) ≤ x4.from_)) || decide ((x4.to_ : Int) < 0)) || decide ((3 : Int) ≤ x4.to_)) || decide ((x4.co : Int) < 0))))) rfl) ?_
        refine wl_gd0 rfl rfl (fun q => r_fieldAddr Fld38x2 rfl) ?_
        refine wl_gd0 rfl rfl (fun q => r_ldB h 4 rfl One3 (gvt q) rfl) ?_
        refine wl_gd0 rfl rfl (fun q => r_geq (gvt q) rfl) ?_
        refine wl_ok (r_por rfl rfl evc) ?_
        refine wl_ok (r_move (v := (.bool ((((((decide ((x4.from_ : Int) < 0) || decide ((3 : Int) ≤ x4.from_)) || decide ((x4.to_ : Int) < 0)) || decide ((3 : Int) ≤ x4.to_)) || decide ((x4.co : Int) < 0)) || decide ((3 : Int) ≤ x4.co))))) rfl) ?_
        refine wl_gd0 rfl rfl (fun q => r_fieldAddr Fld38x3 rfl) ?_
        refine wl_gd0 rfl rfl (fun q => r_ldB h 4 rfl One3 (gvt q) rfl) ?_
        refine wl_gd0 rfl rfl (fun q => r_lss (gvt q) rfl) ?_
        refine wl_ok (r_por rfl rfl evc) ?_
        refine wl_ok (r_move (v := (.bool (((((((decide ((x4.from_ : Int) < 0) || decide ((3 : Int) ≤ x4.from_)) || decide ((x4.to_ : Int) < 0)) || decide ((3 : Int) ≤ x4.to_)) || decide ((x4.co : Int) < 0)) || decide ((3 : Int) ≤ x4.co)) || decide ((x4.epoch : Int) < 2))))) rfl) ?_
        refine wl_gd0 rfl rfl (fun q => r_fieldAddr Fld38x3 rfl) ?_
        refine wl_gd0 rfl rfl (fun q => r_ldB h 4 rfl One3 (gvt q) rfl) ?_
        refine wl_gd0 rfl rfl (fun q => r_gtr (gvt q) rfl) ?_
        refine wl_ok (r_por rfl rfl evc) ?_
        refine wl_nil ?_
        refine then_normal ?_
        refine wc_ifb hs rfl (fun c17 hs => ?_) (fun c17 hs => ?_)
        · skip
          refine wc_seq ?_
          refine wc_region ?_
          refine wl_ok (r_assign (v := (.int .i64 (3))) rfl) ?_
          refine wl_nil ?_
          refine then_normal ?_
          refine wc_ret ?_
          refine then_ret ?_
          refine inBlock_ret ?_
          refine then_ret ?_
          refine then_ret ?_
          refine inBlock_ret ?_
          refine then_ret ?_
          refine fin1 (v := (.int .i64 (3))) Try.results22 rfl ?_
          obtain rfl := hs
          exact ⟨h.grown, rfl⟩
        · skip
          refine wc_skip ?_
          refine then_normal ?_
          refine wc_seq ?_
          refine wc_region ?_
          refine wl_ok (r_fieldAddr Fld38x4 rfl) ?_
          refine wl_ok (r_ldB h 4 rfl One4 rfl rfl) ?_
          refine wl_ok (r_fieldAddr Fld38x5 rfl) ?_
          refine wl_ok (r_ldB h 4 rfl One24 rfl rfl) ?_
          refine wl_ok (r_len SliceOf24 rfl (h.rdS 3 rfl)) ?_
          refine wl_ok (r_eql rfl rfl) ?_
          refine wl_ok (r_neqb Try.underlying4 rfl rfl) ?_
          refine wl_ok (r_move (v := (.bool ((x4.taken != decide (((x4.image.length : Int) : Int) = 0))))) rfl) ?_
          refine wl_gd0 rfl rfl (fun q => r_fieldAddr Fld38x5 rfl) ?_
          refine wl_gd0 rfl rfl (fun q => r_ldB h 4 rfl One24 (gvt q) rfl) ?_
          refine wl_gd0 rfl rfl (fun q => r_len SliceOf24 (gvt q) (h.rdS 3 rfl)) ?_
          refine wl_gd0 rfl rfl (fun q => r_gtr (gvt q) rfl) ?_
          refine wl_ok (r_por rfl rfl evc) ?_
          refine wl_nil ?_
          refine then_normal ?_
          refine wc_ifb hs rfl (fun c18 hs => ?_) (fun c18 hs => ?_)
          · skip
            refine wc_seq ?_
            refine wc_region ?_
            refine wl_ok (r_assign (v := (.int .i64 (4))) rfl) ?_
            refine wl_nil ?_
            refine then_normal ?_
            refine wc_ret ?_
            refine inBlock_ret ?_
            refine then_ret ?_
            refine then_ret ?_
            refine inBlock_ret ?_
            refine then_ret ?_
            refine fin1 (v := (.int .i64 (4))) Try.results22 rfl ?_
            obtain rfl := hs
            exact ⟨h.grown, rfl⟩
          · skip
            refine wc_skip ?_
            refine inBlock_normal ?_
            refine then_normal ?_
            refine wc_region ?_
            refine wl_ok (r_add rfl rfl e8r) ?_
            refine wl_ok (r_move (v := (.int .i64 ((i3 + 1)))) rfl) ?_
            refine wl_nil ?_
            refine then_loop ?_
            subst hnx6
            exact lend ⟨k2 + 1, i3 + 1⟩ ⟨h.cn _, by omega, hs⟩ (by have := of_decide_eq_true e7; dsimp only; omega)
      · skip
        rw [drop_ge (hik ▸ e7), each_nil] at hs
        refine wc_exit ?_
        refine then_exit ?_
        refine then_exit ?_
        refine inBlock_eq ?_
        refine then_normal ?_
        refine wc_seq ?_
        refine wc_region ?_
        refine wl_ok (r_assign (v := (.int .i64 (0))) rfl) ?_
        refine wl_nil ?_
        refine then_normal ?_
        refine wc_ret ?_
        refine fin1 (v := (.int .i64 (0))) Try.results22 rfl ?_
        obtain rfl := hs
        exact ⟨h.grown, rfl⟩
theorem slices_Clone_Mail_c (w0 : World) (M : BS) (hM : ∀ b, M b → b < w0.heap.size) (va : Value) (a : List Mail) (ha : Rd2 rMail w0 BE M va a) (r : List Mail) (hs : clone 64 a = some r) :
    Calls Try.prog 25 #[va] w0 (fun e w' => Grow w0 w' ∧ ∃ u0, e = .returned u0 ∧ OwnSl rMail 38 w' M u0 r ∧ (∀ b, ob u0 b → w0.heap.size ≤ b)) := by
  obtain ⟨hr, hs⟩ := o_grd hs
  cases hs
  refine calls_start (args := [va]) Try.func25 rfl Try.ntmps25 (Nat.le_of_ble_eq_true rfl) ?_
  have h := (SH.init hM).argSr 1 ha none_own
  refine wc_seq (wc_region (wl_ok (r_assign rfl) (wl_nil (then_normal ?_))))
  refine wc_seq (wc_seq (wc_region (wl_ok (r_move rfl) (wl_ok (r_eqnil SliceOf36 rfl (h.srS 1 rfl) rfl) (wl_nil (then_normal ?_))))))
  refine wc_if rfl (fun c => ?_) (fun c => ?_)
  · obtain ⟨c1, c2⟩ := nil_of_isNil (h.srS 1 rfl) c
    refine wc_seq (wc_region (wl_ok (r_assign rfl) (wl_nil (then_normal (wc_ret (then_ret ?_))))))
    refine fin1 (v := .slice none 0 0) Try.results25 rfl ?_
    rw [c2]
    exact ⟨h.grown, _, rfl, OwnSl.nil, fresh_nil⟩
  · refine wc_skip (then_normal ?_)
    refine wc_seq (wc_region ?_)
    refine w_bs (R := rMail) (vs := []) (xs := []) h 2 ElemOf36 rfl rfl rfl trivial rfl fun w u h => ?_
    refine wl_ok (r_move rfl) ?_
    refine w_app (R := rMail) (m := a) h 2 rfl (h.srS 1 rfl) ElemOf36 rfl rfl rfl hr.1 hr.2 fun w u h => ?_
    refine wl_ok (r_assign rfl) (wl_nil (then_normal (wc_ret ?_)))
    refine fin1 (v := u) Try.results25 rfl ?_
    exact ⟨h.grown, _, rfl, (h.outOwn 2 rfl).1, (h.outOwn 2 rfl).2⟩
theorem slices_Clone_int_c (w0 : World) (M : BS) (hM : ∀ b, M b → b < w0.heap.size) (va : Value) (a : List Int) (ha : Rd2 rInt w0 BE M va a) (r : List Int) (hs : clone 8 a = some r) :
    Calls Try.prog 78 #[va] w0 (fun e w' => Grow w0 w' ∧ ∃ u0, e = .returned u0 ∧ OwnSl rInt 3 w' M u0 r ∧ (∀ b, ob u0 b → w0.heap.size ≤ b)) := by
  obtain ⟨hr, hs⟩ := o_grd hs
  cases hs
  refine calls_start (args := [va]) Try.func78 rfl Try.ntmps78 (Nat.le_of_ble_eq_true rfl) ?_
  have h := (SH.init hM).argSr 1 ha none_own
  refine wc_seq (wc_region (wl_ok (r_assign rfl) (wl_nil (then_normal ?_))))
  refine wc_seq (wc_seq (wc_region (wl_ok (r_move rfl) (wl_ok (r_eqnil SliceOf24 rfl (h.srS 1 rfl) rfl) (wl_nil (then_normal ?_))))))
  refine wc_if rfl (fun c => ?_) (fun c => ?_)
  · obtain ⟨c1, c2⟩ := nil_of_isNil (h.srS 1 rfl) c
    refine wc_seq (wc_region (wl_ok (r_assign rfl) (wl_nil (then_normal (wc_ret (then_ret ?_))))))
    refine fin1 (v := .slice none 0 0) Try.results78 rfl ?_
    rw [c2]
    exact ⟨h.grown, _, rfl, OwnSl.nil, fresh_nil⟩
  · refine wc_skip (then_normal ?_)
    refine wc_seq (wc_region ?_)
    refine w_bs (R := rInt) (vs := []) (xs := []) h 2 ElemOf24 rfl rfl rfl trivial rfl fun w u h => ?_
    refine wl_ok (r_move rfl) ?_
    refine w_app (R := rInt) (m := a) h 2 rfl (h.srS 1 rfl) ElemOf24 rfl rfl rfl hr.1 hr.2 fun w u h => ?_
    refine wl_ok (r_assign rfl) (wl_nil (then_normal (wc_ret ?_)))
    refine fin1 (v := u) Try.results78 rfl ?_
    exact ⟨h.grown, _, rfl, (h.outOwn 2 rfl).1, (h.outOwn 2 rfl).2⟩
def way_Copy_b3 (i12 : Int) (x10 : List Mail) (nx15 : List Mail → Option (List Mail)) : Option (List Mail) :=
  (idx x10 i12).bind fun x18 => (clone 8 x18.image).bind fun y29 => nx15 (x10.set (i12).toNat { x18 with image := y29 })
def way_Copy_k4 (x10 : List Mail) : Option (List Mail) :=
  some x10
def way_Copy (a : List Mail) : Option (List Mail) :=
  (clone 64 a).bind fun y1 => upto way_Copy_b3 way_Copy_k4 0 ((y1.length : Int)).toNat y1
theorem way_Copy_c (w0 : World) (M : BS) (hM : ∀ b, M b → b < w0.heap.size) (va : Value) (a : List Mail) (ha : Rd2 rMail w0 BE M va a) (r : List Mail) (hs : way_Copy a = some r) :
    Calls Try.prog 63 #[va] w0 (fun e w' => Grow w0 w' ∧ ∃ u0, e = .returned (u0) ∧ OwnSl rMail 38 w' M u0 r ∧ (∀ b, ob u0 b → w0.heap.size ≤ b)) := by
  refine calls_start (args := [va]) Try.func63 rfl Try.ntmps63 (Nat.le_of_ble_eq_true rfl) ?_
  have h := SH.init hM
  replace h := h.argSr 1 ha none_own
  have hl_a := ha.len_le
  refine wc_seq ?_
  refine wc_region ?_
  refine wl_ok (r_assign (v := (.slice none 0 0)) rfl) ?_
  refine wl_nil ?_
  refine then_normal ?_
  refine wc_seq ?_
  refine wc_region ?_
  refine wl_ok (r_move (v := va) rfl) ?_
  obtain ⟨y1, e2, hs⟩ := o_bind hs
  refine w_call fnOk25 rfl rfl (slices_Clone_Mail_c _ _ h.lt va a (h.srS 1 rfl) _ e2) ?_
  rintro _ w ⟨k6, u3, rfl, g4, g5⟩
  refine ⟨_, rfl, ?_⟩
  replace h := h.gotOwn 2 k6 g4 g5
  refine wl_ok (r_assign (v := u3) rfl) ?_
  refine wl_nil ?_
  refine then_normal ?_
  refine wc_seq ?_
  refine wc_seq ?_
  refine wc_region ?_
  refine wl_ok (r_move (v := u3) rfl) ?_
  refine wl_ok (r_len SliceOf36 rfl (h.ownS 2 rfl)) ?_
  refine wl_ok (r_move (v := (.int .i64 (0))) rfl) ?_
  refine wl_nil ?_
  refine then_normal ?_
  refine wc_block ?_
  have hli12 := (h.ownS 2 rfl).len_le
  refine wc_lp (σ := Nat × Int × List Mail) (inl [3, 4, 9, 10, 11, 12, 13, 14, 15, 16, 17, 18, 19, 20, 21]) (fun ⟨k11, i12, x10⟩ => [(9, (.int .i64 (i12)))]) (fun ⟨k11, i12, x10⟩ w => SH w0 M BE w (hset [(2, .own rMail 38 u3 x10)]) ∧ i12 = (k11 : Int) ∧ upto way_Copy_b3 way_Copy_k4 i12 (((y1.length : Int)).toNat - k11) x10 = some r) (fun ⟨k11, i12, x10⟩ => ((y1.length : Int)).toNat - k11) ⟨0, 0, y1⟩ ⟨rfl, trivial⟩ ?_ ?_
  · exact ⟨h.cn _, rfl, hs⟩
  · rintro ⟨k11, i12, x10⟩ w junk ⟨h, hik, hs⟩
    refine wc_seq (wc_region ?_)
    refine wl_ok (r_lss rfl rfl) ?_
    refine wl_nil (then_normal ?_)
    refine wc_seq ?_
    refine wc_if rfl (fun e16 => ?_) (fun e16 => ?_)
    · refine wc_skip (then_normal ?_)
      rw [upto_lt (by have := of_decide_eq_true e16; omega)] at hs
      generalize hnx15 : upto way_Copy_b3 way_Copy_k4 (i12 + 1) (((y1.length : Int)).toNat - (k11 + 1)) = nx15 at hs
      have e17r : I64 (i12 + 1) := (by have := of_decide_eq_true e16; have := hli12; exact I64.mk (by omega) (by omega))
      refine wc_seq ?_
      refine wc_block ?_
      refine wc_seq ?_
      refine wc_region ?_
      refine wl_ok (r_move (v := (.int .i64 (i12))) rfl) ?_
      obtain ⟨x18, e19, hs⟩ := o_bind hs
      obtain ⟨b21, q22, i20⟩ := h.ixO 2 rfl SliceOf36 rfl (o_idx e19).1 (o_idx e19).2
      refine wl_ok (i20 _ _ _ _ _ _ _ _ _ rfl rfl) ?_
      obtain ⟨cs23, m24, r25⟩ := h.elO 2 rfl q22 (o_idx e19).2
      obtain ⟨u26, rfl, g27⟩ := rMail_open r25
      replace h := h.knowRd 3 g27
      refine wl_ok (r_ldAN (k := 0) (vs := [(.int .i64 (x18.from_)), (.int .i64 (x18.to_)), (.int .i64 (x18.co)), (.int .i64 (x18.epoch)), (.bool (x18.taken)), u26]) m24 Many38 rfl rfl rfl (Nat.le_of_ble_eq_true rfl)) ?_
      refine w_allocN h 4 Many38 fun w b28 h => ?_
      refine wl_ok (r_assign (v := (.int .i64 (i12))) rfl) ?_
      refine w_stN (vs := [(.int .i64 (x18.from_)), (.int .i64 (x18.to_)), (.int .i64 (x18.co)), (.int .i64 (x18.epoch)), (.bool (x18.taken)), u26]) h 4 [(.int .i64 (x18.from_)), (.int .i64 (x18.to_)), (.int .i64 (x18.co)), (.int .i64 (x18.epoch)), (.bool (x18.taken)), u26] rfl Many38 rfl rfl rfl rfl rfl (ones_cons rfl (ones_cons rfl (ones_cons rfl (ones_cons rfl (ones_cons rfl (ones_cons (h.rdAt 3 rfl).one ones_nil)))))) fun w h => ?_
      refine wl_nil ?_
      refine then_normal ?_
      refine wc_region ?_
      refine wl_ok (r_move (v := u3) rfl) ?_
      refine wl_ok (r_move (v := (.int .i64 (i12))) rfl) ?_
      refine wl_ok (r_fieldAddr Fld38x5 rfl) ?_
      refine wl_ok (r_ldB h 4 rfl One24 rfl rfl) ?_
      obtain ⟨y29, e30, hs⟩ := o_bind hs
      refine w_call fnOk78 rfl rfl (slices_Clone_int_c _ _ h.lt u26 x18.image (h.rdS 3 rfl) _ e30) ?_
      rintro _ w ⟨k34, u31, rfl, g32, g33⟩
      refine ⟨_, rfl, ?_⟩
      replace h := h.gotOwn 5 k34 g32 g33
      obtain ⟨b36, q37, i35⟩ := h.ixO 2 rfl SliceOf36 rfl (o_idx e19).1 (o_idx e19).2
      refine wl_ok (i35 _ _ _ _ _ _ _ _ _ rfl rfl) ?_
      refine wl_ok (r_fieldAddr Fld38x5 rfl) ?_
      replace h := h.freeze 5 rfl
      refine w_stO (a' := { x18 with image := y29 }) h 2 rfl q37 rfl (o_idx e19).2 One24 rfl rfl (h.rdAt 5 rfl).one rfl (by rintro _ hq; obtain ⟨p5, rfl, q5⟩ := rMail_open hq; exact ⟨_, rfl, (h.rdAt 5 rfl)⟩) fun w h => ?_
      refine wl_nil ?_
      refine inBlock_normal ?_
      refine then_normal ?_
      refine wc_region ?_
      refine wl_ok (r_add rfl rfl e17r) ?_
      refine wl_ok (r_move (v := (.int .i64 ((i12 + 1)))) rfl) ?_
      refine wl_nil ?_
      refine then_loop ?_
      subst hnx15
      exact lend ⟨k11 + 1, i12 + 1, (x10.set (i12).toNat { x18 with image := y29 })⟩ ⟨h.cn _, by omega, hs⟩ (by have := of_decide_eq_true e16; dsimp only; omega)
    · skip
      rw [upto_ge (by have := of_decide_eq_false e16; omega)] at hs
      refine wc_exit ?_
      refine then_exit ?_
      refine then_exit ?_
      refine inBlock_eq ?_
      refine then_normal ?_
      refine wc_seq ?_
      refine wc_region ?_
      refine wl_ok (r_move (v := u3) rfl) ?_
      refine wl_ok (r_assign (v := u3) rfl) ?_
      refine wl_nil ?_
      refine then_normal ?_
      refine wc_ret ?_
      refine fin1 (v := u3) Try.results63 rfl ?_
      obtain rfl := Option.some.inj hs
      exact ⟨h.grown, _, rfl, (h.outOwn 2 rfl).1, (h.outOwn 2 rfl).2⟩
def way_Send (a : List Mail) (b : Mail) : Option (List Mail × Int) :=
  bif decide (((way_Check a) : Int) ≠ 0) then some ([], (way_Check a)) else bif decide (((way_Check [b]) : Int) ≠ 0) then some ([], (way_Check [b])) else (way_Copy a).bind fun y7 => bif decide (((y7.length : Int) : Int) < 40) then (way_Copy [b]).bind fun y15 => grd (Room 64 y7 y15) (some ((y7 ++ y15), 0)) else some (y7, 0)
theorem way_Send_c (w0 : World) (M : BS) (hM : ∀ b, M b → b < w0.heap.size) (va : Value) (a : List Mail) (ha : Rd2 rMail w0 BE M va a) (b : Mail) (vb5 : Value) (hb5 : RdSl rInt w0 M vb5 b.image) (r : List Mail × Int) (hs : way_Send a b = some r) :
    Calls Try.prog 18 #[va, (.agg #[(.int .i64 (b.from_)), (.int .i64 (b.to_)), (.int .i64 (b.co)), (.int .i64 (b.epoch)), (.bool (b.taken)), vb5])] w0 (fun e w' => Grow w0 w' ∧ ∃ u0, e = .returned (.tuple #[u0, .int .i64 r.2]) ∧ OwnSl rMail 38 w' M u0 r.1 ∧ (∀ b, ob u0 b → w0.heap.size ≤ b)) := by
  refine calls_start (args := [va, (.agg #[(.int .i64 (b.from_)), (.int .i64 (b.to_)), (.int .i64 (b.co)), (.int .i64 (b.epoch)), (.bool (b.taken)), vb5])]) Try.func18 rfl Try.ntmps18 (Nat.le_of_ble_eq_true rfl) ?_
  have h := SH.init hM
  replace h := h.argSr 1 ha none_own
  replace h := h.argRd 2 hb5 (hupd_own_sr none_own)
  have hl_a := ha.len_le
  refine wc_seq ?_
  refine wc_region ?_
  refine w_box (cs := [(.int .i64 (b.from_)), (.int .i64 (b.to_)), (.int .i64 (b.co)), (.int .i64 (b.epoch)), (.bool (b.taken)), vb5]) h 3 rfl rfl fun w b1 h => ?_
  refine wl_ok (r_assign (v := (.slice none 0 0)) rfl) ?_
  refine wl_ok (r_assign (v := (.int .i64 (0))) rfl) ?_
  refine wl_nil ?_
  refine then_normal ?_
  refine wc_seq ?_
  refine wc_seq ?_
  refine wc_region ?_
  refine wl_ok (r_move (v := va) rfl) ?_
  refine wl_ok (r_ldBN (vs := [(.int .i64 (b.from_)), (.int .i64 (b.to_)), (.int .i64 (b.co)), (.int .i64 (b.epoch)), (.bool (b.taken)), vb5]) h 3 rfl Many38 rfl rfl rfl) ?_
  refine w_bs (R := rMail) (vs := [(.agg #[(.int .i64 (b.from_)), (.int .i64 (b.to_)), (.int .i64 (b.co)), (.int .i64 (b.epoch)), (.bool (b.taken)), vb5])]) (xs := [b]) h 4 ElemOf36 rfl rfl rfl ⟨⟨_, rfl, (h.rdAt 2 rfl)⟩, trivial⟩ rfl fun w u2 h => ?_
  refine wl_ok (r_build2 Arr294 rfl rfl (h.srAt 1 rfl).one (h.ownAt 4 rfl).one) ?_
  refine wl_ok (r_move (v := (.int .i64 (0))) rfl) ?_
  refine wl_nil ?_
  refine then_normal ?_
  refine wc_block ?_
  refine wc_rounds 2 ?_
  refine wc_seq ?_
  refine wc_region ?_
  refine wl_ok (r_lss rfl rfl) ?_
  refine wl_nil ?_
  refine then_normal ?_
  refine wc_seq ?_
  refine wc_ift rfl ?_
  refine wc_skip ?_
  refine then_normal ?_
  refine wc_seq ?_
  refine wc_block ?_
  refine wc_seq ?_
  refine wc_region ?_
  refine wl_ok (r_index2 (k := 0) Arr294 rfl rfl rfl) ?_
  refine wl_ok (r_assign (v := va) rfl) ?_
  refine wl_nil ?_
  refine then_normal ?_
  refine wc_seq ?_
  refine wc_region ?_
  refine wl_ok (r_move (v := va) rfl) ?_
  refine w_call fnOk22 rfl rfl (way_Check_c _ _ h.lt va a (h.srS 1 rfl) _ rfl) ?_
  rintro _ w ⟨k3, rfl⟩
  refine ⟨_, rfl, ?_⟩
  replace h := h.grow k3
  refine wl_ok (r_assign (v := (.int .i64 ((way_Check a)))) rfl) ?_
  refine wl_nil ?_
  refine then_normal ?_
  refine wc_seq ?_
  refine wc_region ?_
  refine wl_ok (r_move (v := (.int .i64 ((way_Check a)))) rfl) ?_
  refine wl_ok (r_neq rfl rfl) ?_
  refine wl_nil ?_
  refine then_normal ?_
  refine wc_ifb hs rfl (fun c4 hs => ?_) (fun c4 hs => ?_)
  · skip
    refine wc_seq ?_
    refine wc_region ?_
    refine wl_ok (r_move (v := (.int .i64 ((way_Check a)))) rfl) ?_
    refine wl_ok (r_assign (v := (.slice none 0 0)) rfl) ?_
    refine wl_ok (r_assign (v := (.int .i64 ((way_Check a)))) rfl) ?_
    refine wl_nil ?_
    refine then_normal ?_
    refine wc_ret ?_
    refine inBlock_ret ?_
    refine then_ret ?_
    refine then_ret ?_
    refine inBlock_ret ?_
    refine then_ret ?_
    refine fin2 (v1 := (.slice none 0 0)) (v2 := (.int .i64 ((way_Check a)))) Try.results18 rfl rfl ?_
    obtain rfl := Option.some.inj hs
    exact ⟨h.grown, _, rfl, OwnSl.nil, fresh_nil⟩
  · skip
    refine wc_skip ?_
    refine inBlock_normal ?_
    refine then_normal ?_
    refine wc_region ?_
    refine wl_ok (r_add rfl rfl (by decide)) ?_
    refine wl_ok (r_move (v := (.int .i64 (1))) rfl) ?_
    refine wl_nil ?_
    refine then_round ?_
    refine wc_seq ?_
    refine wc_region ?_
    refine wl_ok (r_lss rfl rfl) ?_
    refine wl_nil ?_
    refine then_normal ?_
    refine wc_seq ?_
    refine wc_ift rfl ?_
    refine wc_skip ?_
    refine then_normal ?_
    refine wc_seq ?_
    refine wc_block ?_
    refine wc_seq ?_
    refine wc_region ?_
    refine wl_ok (r_index2 (k := 1) Arr294 rfl rfl rfl) ?_
    refine wl_ok (r_assign (v := u2) rfl) ?_
    refine wl_nil ?_
    refine then_normal ?_
    refine wc_seq ?_
    refine wc_region ?_
    refine wl_ok (r_move (v := u2) rfl) ?_
    refine w_call fnOk22 rfl rfl (way_Check_c _ _ h.lt u2 [b] (h.ownS 4 rfl) _ rfl) ?_
    rintro _ w ⟨k5, rfl⟩
    refine ⟨_, rfl, ?_⟩
    replace h := h.grow k5
    refine wl_ok (r_assign (v := (.int .i64 ((way_Check [b])))) rfl) ?_
    refine wl_nil ?_
    refine then_normal ?_
    refine wc_seq ?_
    refine wc_region ?_
    refine wl_ok (r_move (v := (.int .i64 ((way_Check [b])))) rfl) ?_
    refine wl_ok (r_neq rfl rfl) ?_
    refine wl_nil ?_
    refine then_normal ?_
    refine wc_ifb hs rfl (fun c6 hs => ?_) (fun c6 hs => ?_)
    · skip
      refine wc_seq ?_
      refine wc_region ?_
      refine wl_ok (r_move (v := (.int .i64 ((way_Check [b])))) rfl) ?_
      refine wl_ok (r_assign (v := (.slice none 0 0)) rfl) ?_
      refine wl_ok (r_assign (v := (.int .i64 ((way_Check [b])))) rfl) ?_
      refine wl_nil ?_
      refine then_normal ?_
      refine wc_ret ?_
      refine inBlock_ret ?_
      refine then_ret ?_
      refine then_ret ?_
      refine inBlock_ret ?_
      refine then_ret ?_
      refine fin2 (v1 := (.slice none 0 0)) (v2 := (.int .i64 ((way_Check [b])))) Try.results18 rfl rfl ?_
      obtain rfl := Option.some.inj hs
      exact ⟨h.grown, _, rfl, OwnSl.nil, fresh_nil⟩
    · skip
      refine wc_skip ?_
      refine inBlock_normal ?_
      refine then_normal ?_
      refine wc_region ?_
      refine wl_ok (r_add rfl rfl (by decide)) ?_
      refine wl_ok (r_move (v := (.int .i64 (2))) rfl) ?_
      refine wl_nil ?_
      refine then_round ?_
      refine wc_seq ?_
      refine wc_region ?_
      refine wl_ok (r_lss rfl rfl) ?_
      refine wl_nil ?_
      refine then_normal ?_
      refine wc_seq ?_
      refine wc_iff rfl ?_
      refine wc_exit ?_
      refine then_exit ?_
      refine then_exit ?_
      refine inBlock_eq ?_
      refine then_normal ?_
      refine wc_seq ?_
      refine wc_region ?_
      refine wl_ok (r_move (v := va) rfl) ?_
      obtain ⟨y7, e8, hs⟩ := o_bind hs
      refine w_call fnOk63 rfl rfl (way_Copy_c _ _ h.lt va a (h.srS 1 rfl) _ e8) ?_
      rintro _ w ⟨k12, u9, rfl, g10, g11⟩
      refine ⟨_, rfl, ?_⟩
      replace h := h.gotOwn 5 k12 g10 g11
      refine wl_ok (r_assign (v := u9) rfl) ?_
      refine wl_nil ?_
      refine then_normal ?_
      refine wc_seq ?_
      refine wc_seq ?_
      refine wc_region ?_
      refine wl_ok (r_move (v := u9) rfl) ?_
      refine wl_ok (r_len SliceOf36 rfl (h.ownS 5 rfl)) ?_
      refine wl_ok (r_lss rfl rfl) ?_
      refine wl_nil ?_
      refine then_normal ?_
      refine wc_ifb hs rfl (fun c13 hs => ?_) (fun c13 hs => ?_)
      · skip
        refine wc_region ?_
        refine wl_ok (r_move (v := u9) rfl) ?_
        refine wl_ok (r_ldBN (vs := [(.int .i64 (b.from_)), (.int .i64 (b.to_)), (.int .i64 (b.co)), (.int .i64 (b.epoch)), (.bool (b.taken)), vb5]) h 3 rfl Many38 rfl rfl rfl) ?_
        refine w_bs (R := rMail) (vs := [(.agg #[(.int .i64 (b.from_)), (.int .i64 (b.to_)), (.int .i64 (b.co)), (.int .i64 (b.epoch)), (.bool (b.taken)), vb5])]) (xs := [b]) h 6 ElemOf36 rfl rfl rfl ⟨⟨_, rfl, (h.rdAt 2 rfl)⟩, trivial⟩ rfl fun w u14 h => ?_
        obtain ⟨y15, e16, hs⟩ := o_bind hs
        refine w_call fnOk63 rfl rfl (way_Copy_c _ _ h.lt u14 [b] (h.ownS 6 rfl) _ e16) ?_
        rintro _ w ⟨k20, u17, rfl, g18, g19⟩
        refine ⟨_, rfl, ?_⟩
        replace h := h.gotOwn 7 k20 g18 g19
        obtain ⟨a21, hs⟩ := o_grd hs
        refine w_app (R := rMail) (m := y15) h 5 rfl (h.ownS 7 rfl) ElemOf36 rfl rfl rfl a21.1 a21.2 fun w u22 h => ?_
        refine wl_ok (r_assign (v := u22) rfl) ?_
        refine wl_nil ?_
        refine then_normal ?_
        refine wc_seq ?_
        refine wc_region ?_
        refine wl_ok (r_move (v := u22) rfl) ?_
        refine wl_ok (r_assign (v := u22) rfl) ?_
        refine wl_ok (r_assign (v := (.int .i64 (0))) rfl) ?_
        refine wl_nil ?_
        refine then_normal ?_
        refine wc_ret ?_
        refine fin2 (v1 := u22) (v2 := (.int .i64 (0))) Try.results18 rfl rfl ?_
        obtain rfl := Option.some.inj hs
        exact ⟨h.grown, _, rfl, (h.outOwn 5 rfl).1, (h.outOwn 5 rfl).2⟩
      · skip
        refine wc_skip ?_
        refine then_normal ?_
        refine wc_seq ?_
        refine wc_region ?_
        refine wl_ok (r_move (v := u9) rfl) ?_
        refine wl_ok (r_assign (v := u9) rfl) ?_
        refine wl_ok (r_assign (v := (.int .i64 (0))) rfl) ?_
        refine wl_nil ?_
        refine then_normal ?_
        refine wc_ret ?_
        refine fin2 (v1 := u9) (v2 := (.int .i64 (0))) Try.results18 rfl rfl ?_
        obtain rfl := Option.some.inj hs
        exact ⟨h.grown, _, rfl, (h.outOwn 5 rfl).1, (h.outOwn 5 rfl).2⟩
theorem slices_Delete_Mail_c (w0 : World) (M : BS) (va : Value) (a : List Mail) (i j : Nat) (ha : OwnSl rMail 38 w0 M va a) (hij : i < j) (hj : j ≤ a.length) :
    Calls Try.prog 26 #[va, .int .i64 (i : Int), .int .i64 (j : Int)] w0 (fun e w' => ∃ u, e = .returned u ∧ OwnSl rMail 38 w' M u (a.take i ++ a.drop j) ∧ Keep (ob va) w0 w' ∧ (∀ b, ob u b → b < w0.heap.size → ob va b)) := by
  obtain ⟨gg, cap, cur, rfl, hraw0, hcap, hrd⟩ := own_raw ha (by omega)
  refine calls_start (args := [.slice (some ⟨gg, 0, none⟩) a.length cap, .int .i64 (i : Int), .int .i64 (j : Int)]) Try.func26 rfl Try.ntmps26 (Nat.le_of_ble_eq_true rfl) ?_
  refine wc_seq (wc_region (wl_ok (r_assign rfl) (wl_nil (then_normal ?_))))
  refine wc_seq (wc_region ?_)
  refine wl_ok (r_move (v := .slice (some ⟨gg, 0, none⟩) a.length cap) rfl) (wl_ok (r_move (v := .int .i64 (i : Int)) rfl) (wl_ok (r_move (v := .int .i64 (j : Int)) rfl) (wl_ok (r_move (v := .slice (some ⟨gg, 0, none⟩) a.length cap) rfl) ?_)))
  refine wl_ok (r_len_slice (a := some ⟨gg, 0, none⟩) (l := a.length) (c := cap) SliceOf36 rfl) ?_
  refine wl_ok (r_sliceRaw (gg := gg) (a := i) (b := j) (m := a.length) (len := a.length) (cap := cap) SliceOf36 rfl (.inr rfl) (.inr rfl) (.inr ⟨rfl, rfl⟩) (by omega) (by omega) (by omega)) (wl_nil (then_normal ?_))
  refine wc_seq (wc_seq (wc_region ?_))
  refine wl_ok (r_move (v := .int .i64 (i : Int)) rfl) (wl_ok (r_move (v := .int .i64 (j : Int)) rfl) (wl_ok (r_eql (p := (i : Int)) (q := (j : Int)) rfl rfl) (wl_nil (then_normal ?_))))
  refine wc_if rfl (fun c => absurd (of_decide_eq_true c) (by omega)) (fun _ => wc_skip (then_normal ?_))
  refine wc_seq (wc_region ?_)
  refine wl_ok (r_move (v := .slice (some ⟨gg, 0, none⟩) a.length cap) rfl) (wl_ok (r_len_slice (a := some ⟨gg, 0, none⟩) (l := a.length) (c := cap) SliceOf36 rfl) (wl_ok (r_assign (v := .int .i64 (a.length : Nat)) rfl) (wl_nil (then_normal ?_))))
  refine wc_seq (wc_tail0 6 mixed (by kernel_rfl) fun w hk => ?_)
  have hraw := hraw0.keep hk (fun h => h)
  have hK : Keep (fun x => x = gg) w0 w := hk.keep
  refine wk_ok (r_move (v := .slice (some ⟨gg, 0, none⟩) a.length cap) rfl) (wk_ok (r_move (v := .int .i64 (i : Int)) rfl) ?_)
  refine wk_ok (r_sliceTo (b := i) (ad := some ⟨gg, 0, none⟩) (len := a.length) (cap := cap) SliceOf36 rfl (.inr ⟨gg, rfl⟩) (.inl ⟨rfl, rfl⟩) rfl (by omega)) ?_
  refine wk_ok (r_move (v := .slice (some ⟨gg, 0, none⟩) a.length cap) rfl) (wk_ok (r_move (v := .int .i64 (j : Int)) rfl) ?_)
  refine wk_ok (r_sliceRaw (gg := gg) (a := j) (b := a.length) (m := cap) (len := a.length) (cap := cap) SliceOf36 rfl (.inr rfl) (.inl ⟨rfl, rfl⟩) (.inl ⟨rfl, rfl⟩) (by omega) (by omega) (by omega)) (wk_go ?_)
  refine wl_rawAppend (gg := gg) (cap := cap) (a := i) (m := a.length - j) (c := cap - j) (j := j) (ad := if cap = j then ⟨gg, 0, none⟩ else ⟨gg, j * 6, none⟩) ElemOf36 hraw rfl rfl (if hcj : cap = j then .inl (by omega) else .inr (if_neg hcj)) (by omega) (by omega) (rd_ones hrd (by omega)) ?_
  intro w hk2 hraw2
  replace hK := hK.step hk2 (fun x hx _ => hx)
  refine wl_ok (r_assign (v := .slice (some ⟨gg, 0, none⟩) (i + (a.length - j)) cap) rfl) (wl_nil (then_normal ?_))
  refine wc_seq (wc_region ?_)
  refine wl_ok (r_move (v := .slice (some ⟨gg, 0, none⟩) (i + (a.length - j)) cap) rfl) (wl_ok (r_move (v := .slice (some ⟨gg, 0, none⟩) (i + (a.length - j)) cap) rfl) ?_)
  refine wl_ok (r_len_slice (a := some ⟨gg, 0, none⟩) (l := i + (a.length - j)) (c := cap) SliceOf36 rfl) (wl_ok (r_move (v := .int .i64 (a.length : Nat)) rfl) ?_)
  refine wl_ok (r_sliceRaw (gg := gg) (a := i + (a.length - j)) (b := a.length) (m := cap) (len := i + (a.length - j)) (cap := cap) SliceOf36 rfl (.inr rfl) (.inr rfl) (.inl ⟨rfl, rfl⟩) (by omega) (by omega) (by omega)) ?_
  refine wl_clearRaw (gg := gg) (cap := cap) (m := i + (a.length - j)) (k := a.length - (i + (a.length - j))) (c := cap - (i + (a.length - j))) ElemOf36 ZeroOne38 hraw2 (congrArg (fun z => Value.slice (some z) (a.length - (i + (a.length - j))) (cap - (i + (a.length - j)))) (if_neg (by omega))) (by omega) (by omega) ?_
  intro w cur3 hk3 hraw3 hcur3
  replace hK := hK.step hk3 (fun x hx _ => hx)
  refine wl_nil (then_normal (wc_seq (wc_region ?_)))
  refine wl_ok (r_move (v := .slice (some ⟨gg, 0, none⟩) (i + (a.length - j)) cap) rfl) (wl_ok (r_assign (v := .slice (some ⟨gg, 0, none⟩) (i + (a.length - j)) cap) rfl) (wl_nil (then_normal (wc_ret ?_))))
  refine fin1 (v := .slice (some ⟨gg, 0, none⟩) (i + (a.length - j)) cap) Try.results26 rfl ?_
  refine ⟨_, rfl, raw_del hraw3 hraw0 hK (by omega) (by omega) hcap hrd ?_, hK, fun b hb _ => hb⟩
  exact hcur3.trans (del_len hraw0.len (by omega) hj hcap)
def way_Take_j1 (x23 : Mail) (x35 : List Mail) : Option (List Mail × Mail × Int) :=
  some (x35, x23, 0)
def way_Take (a : List Mail) (b : Int) (c : Bool) : Option (List Mail × Mail × Int) :=
  bif decide (((way_Check a) : Int) ≠ 0) then some ([], (⟨0, 0, 0, 0, false, []⟩ : Mail), (way_Check a)) else bif (decide ((b : Int) < 0) || decide (((a.length : Int) : Int) ≤ b)) then some ([], (⟨0, 0, 0, 0, false, []⟩ : Mail), 5) else (way_Copy a).bind fun y5 => grd (I64 (b + 1)) ((sub? y5 b (b + 1)).bind fun x12 => (way_Copy x12).bind fun y17 => (idx y17 0).bind fun x23 => bif (!c) then grd (I64 (b + 1)) ((del1 y5 b (b + 1)).bind fun y38 => way_Take_j1 x23 y38) else way_Take_j1 x23 y5)
theorem way_Take_c (w0 : World) (M : BS) (hM : ∀ b, M b → b < w0.heap.size) (va : Value) (a : List Mail) (ha : Rd2 rMail w0 BE M va a) (b : Int) (c : Bool) (r : List Mail × Mail × Int) (hs : way_Take a b c = some r) :
    Calls Try.prog 19 #[va, (.int .i64 (b)), (.bool (c))] w0 (fun e w' => Grow w0 w' ∧ ∃ u0, ∃ u1_5, e = .returned (.tuple #[u0, .agg #[.int .i64 r.2.1.from_, .int .i64 r.2.1.to_, .int .i64 r.2.1.co, .int .i64 r.2.1.epoch, .bool r.2.1.taken, u1_5], .int .i64 r.2.2]) ∧ OwnSl rMail 38 w' M u0 r.1 ∧ (∀ b, ob u0 b → w0.heap.size ≤ b) ∧ RdSl rInt w' (fun b => M b ∨ ob u0 b) u1_5 r.2.1.image) := by
  refine calls_start (args := [va, (.int .i64 (b)), (.bool (c))]) Try.func19 rfl Try.ntmps19 (Nat.le_of_ble_eq_true rfl) ?_
  have h := SH.init hM
  replace h := h.argSr 1 ha none_own
  have hl_a := ha.len_le
  refine wc_seq ?_
  refine wc_region ?_
  refine wl_ok (r_assign (v := (.slice none 0 0)) rfl) ?_
  refine w_allocN h 2 Many38 fun w b1 h => ?_
  refine wl_ok (r_assign (v := (.int .i64 (0))) rfl) ?_
  refine wl_nil ?_
  refine then_normal ?_
  refine wc_seq ?_
  refine wc_seq ?_
  refine wc_region ?_
  refine wl_ok (r_move (v := va) rfl) ?_
  refine w_call fnOk22 rfl rfl (way_Check_c _ _ h.lt va a (h.srS 1 rfl) _ rfl) ?_
  rintro _ w ⟨k2, rfl⟩
  refine ⟨_, rfl, ?_⟩
  replace h := h.grow k2
  refine wl_ok (r_assign (v := (.int .i64 ((way_Check a)))) rfl) ?_
  refine wl_nil ?_
  refine then_normal ?_
  refine wc_seq ?_
  refine wc_region ?_
  refine wl_ok (r_move (v := (.int .i64 ((way_Check a)))) rfl) ?_
  refine wl_ok (r_neq rfl rfl) ?_
  refine wl_nil ?_
  refine then_normal ?_
  refine wc_ifb hs rfl (fun c3 hs => ?_) (fun c3 hs => ?_)
  · skip
    refine wc_seq ?_
    refine wc_region ?_
    refine wl_ok (r_build (pv := []) (out := [(.int .i64 (0)), (.int .i64 (0)), (.int .i64 (0)), (.int .i64 (0)), (.bool (false)), (.slice none 0 0)]) Struct38 rfl rfl) ?_
    refine wl_ok (r_move (v := (.int .i64 ((way_Check a)))) rfl) ?_
    refine wl_ok (r_assign (v := (.slice none 0 0)) rfl) ?_
    refine w_stN (vs := [(.int .i64 (0)), (.int .i64 (0)), (.int .i64 (0)), (.int .i64 (0)), (.bool (false)), (.slice none 0 0)]) h 2 [(.int .i64 (0)), (.int .i64 (0)), (.int .i64 (0)), (.int .i64 (0)), (.bool (false)), (.slice none 0 0)] rfl Many38 rfl rfl rfl rfl rfl (ones_cons rfl (ones_cons rfl (ones_cons rfl (ones_cons rfl (ones_cons rfl (ones_cons rfl ones_nil)))))) fun w h => ?_
    refine wl_ok (r_assign (v := (.int .i64 ((way_Check a)))) rfl) ?_
    refine wl_nil ?_
    refine then_normal ?_
    refine wc_ret ?_
    refine then_ret ?_
    refine fin_tct (v1 := (.slice none 0 0)) (vs := [(.int .i64 (0)), (.int .i64 (0)), (.int .i64 (0)), (.int .i64 (0)), (.bool (false)), (.slice none 0 0)]) (v3 := (.int .i64 ((way_Check a)))) Try.results19 rfl rfl rfl h 2 rfl Many38 rfl ?_
    obtain rfl := Option.some.inj hs
    exact ⟨h.grown, _, _, rfl, OwnSl.nil, fresh_nil, Rd2.nil⟩
  · skip
    refine wc_skip ?_
    refine then_normal ?_
    refine wc_seq ?_
    refine wc_seq ?_
    refine wc_region ?_
    refine wl_ok (r_move (v := (.int .i64 (b))) rfl) ?_
    refine wl_ok (r_lss rfl rfl) ?_
    refine wl_ok (r_move (v := (.bool (decide ((b : Int) < 0)))) rfl) ?_
    refine wl_gd0 rfl rfl (fun q => r_move (v := (.int .i64 (b))) rfl) ?_
    refine wl_gd0 rfl rfl (fun q => r_move (v := va) rfl) ?_
    refine wl_gd0 rfl rfl (fun q => r_len SliceOf36 (gvt q) (h.srS 1 rfl)) ?_
    refine wl_gd0 rfl rfl (fun q => r_geq (gvt q) (gvt q)) ?_
    refine wl_ok (r_por rfl rfl evc) ?_
    refine wl_nil ?_
    refine then_normal ?_
    refine wc_ifb hs rfl (fun c4 hs => ?_) (fun c4 hs => ?_)
    · skip
      refine wc_seq ?_
      refine wc_region ?_
      refine wl_ok (r_build (pv := []) (out := [(.int .i64 (0)), (.int .i64 (0)), (.int .i64 (0)), (.int .i64 (0)), (.bool (false)), (.slice none 0 0)]) Struct38 rfl rfl) ?_
      refine wl_ok (r_assign (v := (.slice none 0 0)) rfl) ?_
      refine w_stN (vs := [(.int .i64 (0)), (.int .i64 (0)), (.int .i64 (0)), (.int .i64 (0)), (.bool (false)), (.slice none 0 0)]) h 2 [(.int .i64 (0)), (.int .i64 (0)), (.int .i64 (0)), (.int .i64 (0)), (.bool (false)), (.slice none 0 0)] rfl Many38 rfl rfl rfl rfl rfl (ones_cons rfl (ones_cons rfl (ones_cons rfl (ones_cons rfl (ones_cons rfl (ones_cons rfl ones_nil)))))) fun w h => ?_
      refine wl_ok (r_assign (v := (.int .i64 (5))) rfl) ?_
      refine wl_nil ?_
      refine then_normal ?_
      refine wc_ret ?_
      refine then_ret ?_
      refine fin_tct (v1 := (.slice none 0 0)) (vs := [(.int .i64 (0)), (.int .i64 (0)), (.int .i64 (0)), (.int .i64 (0)), (.bool (false)), (.slice none 0 0)]) (v3 := (.int .i64 (5))) Try.results19 rfl rfl rfl h 2 rfl Many38 rfl ?_
      obtain rfl := Option.some.inj hs
      exact ⟨h.grown, _, _, rfl, OwnSl.nil, fresh_nil, Rd2.nil⟩
    · skip
      refine wc_skip ?_
      refine then_normal ?_
      refine wc_seq ?_
      refine wc_region ?_
      refine wl_ok (r_move (v := va) rfl) ?_
      obtain ⟨y5, e6, hs⟩ := o_bind hs
      refine w_call fnOk63 rfl rfl (way_Copy_c _ _ h.lt va a (h.srS 1 rfl) _ e6) ?_
      rintro _ w ⟨k10, u7, rfl, g8, g9⟩
      refine ⟨_, rfl, ?_⟩
      replace h := h.gotOwn 3 k10 g8 g9
      refine wl_ok (r_assign (v := u7) rfl) ?_
      refine wl_nil ?_
      refine then_normal ?_
      refine wc_seq ?_
      refine wc_region ?_
      refine wl_ok (r_move (v := u7) rfl) ?_
      refine wl_ok (r_move (v := (.int .i64 (b))) rfl) ?_
      refine wl_ok (r_move (v := (.int .i64 (b))) rfl) ?_
      obtain ⟨a11, hs⟩ := o_grd hs
      refine wl_ok (r_add rfl rfl a11) ?_
      obtain ⟨x12, e13, hs⟩ := o_bind hs
      obtain ⟨e16, e16a, e16b, e16c⟩ := o_sub e13
      obtain ⟨u14, i15, -, i15v⟩ := r_slv SliceOf36 (h.ownS 3 rfl) e16a e16b e16c
      refine wl_ok (i15 _ _ _ _ _ _ _ _ _ _ rfl (.inr (congrArg some rfl)) (.inr (congrArg some rfl))) ?_
      obtain ⟨y17, e18, hs⟩ := o_bind hs
      refine w_call fnOk63 rfl rfl (way_Copy_c _ _ h.lt u14 x12 (by rw [e16]; exact i15v _ _ _ _ (h.ownS 3 rfl) rfl) _ e18) ?_
      rintro _ w ⟨k22, u19, rfl, g20, g21⟩
      refine ⟨_, rfl, ?_⟩
      replace h := h.gotOwn 5 k22 g20 g21
      obtain ⟨x23, e24, hs⟩ := o_bind hs
      obtain ⟨b26, q27, i25⟩ := h.ixO 5 rfl SliceOf36 rfl (o_idx e24).1 (o_idx e24).2
      refine wl_ok (i25 _ _ _ _ _ _ _ _ _ rfl rfl) ?_
      obtain ⟨cs28, m29, r30⟩ := h.elO 5 rfl q27 (o_idx e24).2
      obtain ⟨u31, rfl, g32⟩ := rMail_open r30
      replace h := h.knowRd 6 g32
      refine wl_ok (r_ldAN (k := 0) (vs := [(.int .i64 (x23.from_)), (.int .i64 (x23.to_)), (.int .i64 (x23.co)), (.int .i64 (x23.epoch)), (.bool (x23.taken)), u31]) m29 Many38 rfl rfl rfl (Nat.le_of_ble_eq_true rfl)) ?_
      refine w_allocN h 7 Many38 fun w b33 h => ?_
      refine w_stN (vs := [(.int .i64 (x23.from_)), (.int .i64 (x23.to_)), (.int .i64 (x23.co)), (.int .i64 (x23.epoch)), (.bool (x23.taken)), u31]) h 7 [(.int .i64 (x23.from_)), (.int .i64 (x23.to_)), (.int .i64 (x23.co)), (.int .i64 (x23.epoch)), (.bool (x23.taken)), u31] rfl Many38 rfl rfl rfl rfl rfl (ones_cons rfl (ones_cons rfl (ones_cons rfl (ones_cons rfl (ones_cons rfl (ones_cons (h.rdAt 6 rfl).one ones_nil)))))) fun w h => ?_
      refine wl_nil ?_
      refine then_normal ?_
      refine wc_join (σ := Value × List Mail) (inl [0, 36, 37, 38, 39, 40, 41, 42]) (fun ⟨v34, x35⟩ => [(0, v34)]) (fun ⟨v34, x35⟩ w => SH w0 M BE w (hset [(2, .blk b1 [(.int .i64 (0)), (.int .i64 (0)), (.int .i64 (0)), (.int .i64 (0)), (.bool (false)), (.slice none 0 0)]), (3, .own rMail 38 v34 x35), (6, .rd rInt u31 x23.image), (7, .blk b33 [(.int .i64 (x23.from_)), (.int .i64 (x23.to_)), (.int .i64 (x23.co)), (.int .i64 (x23.epoch)), (.bool (x23.taken)), u31])]) ∧ way_Take_j1 x23 x35 = some r) ?_ ?_
      · rintro ⟨v34, x35⟩ w junk ⟨h, hs⟩
        refine wc_seq ?_
        refine wc_tail 3 mixed (by kernel_rfl) h fun w h => ?_
        refine wk_ok (r_move (v := v34) rfl) ?_
        refine wk_ok (r_ldBN (vs := [(.int .i64 (x23.from_)), (.int .i64 (x23.to_)), (.int .i64 (x23.co)), (.int .i64 (x23.epoch)), (.bool (x23.taken)), u31]) h 7 rfl Many38 rfl rfl rfl) ?_
        refine wk_ok (r_assign (v := v34) rfl) ?_
        refine wk_go ?_
        refine w_stN (vs := [(.int .i64 (x23.from_)), (.int .i64 (x23.to_)), (.int .i64 (x23.co)), (.int .i64 (x23.epoch)), (.bool (x23.taken)), u31]) h 2 [(.int .i64 (x23.from_)), (.int .i64 (x23.to_)), (.int .i64 (x23.co)), (.int .i64 (x23.epoch)), (.bool (x23.taken)), u31] rfl Many38 rfl rfl rfl rfl rfl (ones_cons rfl (ones_cons rfl (ones_cons rfl (ones_cons rfl (ones_cons rfl (ones_cons (h.rdAt 6 rfl).one ones_nil)))))) fun w h => ?_
        refine wl_ok (r_assign (v := (.int .i64 (0))) rfl) ?_
        refine wl_nil ?_
        refine then_normal ?_
        refine wc_ret ?_
        refine fin_tct (v1 := v34) (vs := [(.int .i64 (x23.from_)), (.int .i64 (x23.to_)), (.int .i64 (x23.co)), (.int .i64 (x23.epoch)), (.bool (x23.taken)), u31]) (v3 := (.int .i64 (0))) Try.results19 rfl rfl rfl h 2 rfl Many38 rfl ?_
        obtain rfl := Option.some.inj hs
        exact ⟨h.grown, _, _, rfl, (h.outOwn 3 rfl).1, (h.outOwn 3 rfl).2, h.outRdO 6 3 rfl rfl⟩
      · skip
        refine wc_seq ?_
        refine wc_region ?_
        refine wl_ok (r_move (v := (.bool (c))) rfl) ?_
        refine wl_ok (r_notb rfl) ?_
        refine wl_nil ?_
        refine then_normal ?_
        refine wc_ifb hs rfl (fun c36 hs => ?_) (fun c36 hs => ?_)
        · skip
          refine wc_region ?_
          refine wl_ok (r_move (v := u7) rfl) ?_
          refine wl_ok (r_move (v := (.int .i64 (b))) rfl) ?_
          refine wl_ok (r_move (v := (.int .i64 (b))) rfl) ?_
          obtain ⟨a37, hs⟩ := o_grd hs
          refine wl_ok (r_add rfl rfl a37) ?_
          obtain ⟨y38, e39, hs⟩ := o_bind hs
          obtain ⟨n41, n42, e39a, e39b, e39c, e39d, e39e⟩ := o_del e39
          refine w_call fnOk26 rfl (la_cons rfl (la_cons (congrArg (Value.int .i64) e39a) (la_cons (congrArg (Value.int .i64) e39b) rfl))) (slices_Delete_Mail_c _ _ u7 y5 n41 n42 (h.giveO 3 rfl) e39c e39d) ?_
          rintro _ w ⟨u40, rfl, e39f, e39g, e39h⟩
          refine ⟨_, rfl, ?_⟩
          replace h := h.given 3 rfl e39f e39g e39h
          rw [← e39e] at h
          refine wl_ok (r_assign (v := u40) rfl) ?_
          refine wl_nil ?_
          refine then_loop ?_
          exact jend (u40, y38) ⟨h.cn _, hs⟩
        · skip
          refine wc_skip ?_
          refine then_loop ?_
          exact jend (u7, y5) ⟨h.cn _, hs⟩
def wandererref_in (a : Int) (b : Int) (c : Int) : Bool :=
  (decide ((b : Int) ≤ a) && decide ((a : Int) ≤ c))
theorem wandererref_in_c (w0 : World) (M : BS) (hM : ∀ b, M b → b < w0.heap.size) (a : Int) (b : Int) (c : Int) (r : Bool) (hs : wandererref_in a b c = r) :
    Calls Try.prog 64 #[(.int .i64 (a)), (.int .i64 (b)), (.int .i64 (c))] w0 (fun e w' => Grow w0 w' ∧ e = .returned (.bool r)) := by
  refine calls_start (args := [(.int .i64 (a)), (.int .i64 (b)), (.int .i64 (c))]) Try.func64 rfl Try.ntmps64 (Nat.le_of_ble_eq_true rfl) ?_
  have h := SH.init hM
  refine wc_seq ?_
  refine wc_region ?_
  refine wl_ok (r_assign (v := (.bool (false))) rfl) ?_
  refine wl_nil ?_
  refine then_normal ?_
  refine wc_seq ?_
  refine wc_region ?_
  refine wl_ok (r_move (v := (.int .i64 (b))) rfl) ?_
  refine wl_ok (r_move (v := (.int .i64 (a))) rfl) ?_
  refine wl_ok (r_leq rfl rfl) ?_
  refine wl_ok (r_move (v := (.bool (decide ((b : Int) ≤ a)))) rfl) ?_
  refine wl_gd0 rfl rfl (fun q => r_move (v := (.int .i64 (a))) rfl) ?_
  refine wl_gd0 rfl rfl (fun q => r_move (v := (.int .i64 (c))) rfl) ?_
  refine wl_gd0 rfl rfl (fun q => r_leq (gvt q) (gvt q)) ?_
  refine wl_ok (r_pand rfl rfl evc) ?_
  refine wl_ok (r_assign (v := (.bool ((decide ((b : Int) ≤ a) && decide ((a : Int) ≤ c))))) rfl) ?_
  refine wl_nil ?_
  refine then_normal ?_
  refine wc_ret ?_
  refine fin1 (v := (.bool ((decide ((b : Int) ≤ a) && decide ((a : Int) ≤ c))))) Try.results64 rfl ?_
  obtain rfl := hs
  exact ⟨h.grown, rfl⟩
def wandererref_CheckMail_b3 (x4 : Mail) (s : Unit) (nx6 : Unit → Int) : Int :=
  bif ((((!(wandererref_in x4.from_ 0 2)) || (!(wandererref_in x4.to_ 0 2))) || (!(wandererref_in x4.co 0 2))) || (!(wandererref_in x4.epoch 2 100))) then 3 else bif ((x4.taken && decide ((0 : Int) < (x4.image.length : Int))) || ((!x4.taken) && (!(wandererref_in (x4.image.length : Int) 1 1200)))) then 4 else nx6 ()
def wandererref_CheckMail_k4 (s : Unit) : Int :=
  0
def wandererref_CheckMail (a : List Mail) : Int :=
  bif decide ((40 : Int) < (a.length : Int)) then 2 else each wandererref_CheckMail_b3 wandererref_CheckMail_k4 a ()
theorem wandererref_CheckMail_c (w0 : World) (M : BS) (hM : ∀ b, M b → b < w0.heap.size) (va : Value) (a : List Mail) (ha : Rd2 rMail w0 BE M va a) (r : Int) (hs : wandererref_CheckMail a = r) :
    Calls Try.prog 20 #[va] w0 (fun e w' => Grow w0 w' ∧ e = .returned (.int .i64 r)) := by
  refine calls_start (args := [va]) Try.func20 rfl Try.ntmps20 (Nat.le_of_ble_eq_true rfl) ?_
  have h := SH.init hM
  replace h := h.argSr 1 ha none_own
  have hl_a := ha.len_le
  refine wc_seq ?_
  refine wc_region ?_
  refine wl_ok (r_assign (v := (.int .i64 (0))) rfl) ?_
  refine wl_nil ?_
  refine then_normal ?_
  refine wc_seq ?_
  refine wc_seq ?_
  refine wc_region ?_
  refine wl_ok (r_move (v := va) rfl) ?_
  refine wl_ok (r_len SliceOf36 rfl (h.srS 1 rfl)) ?_
  refine wl_ok (r_gtr rfl rfl) ?_
  refine wl_nil ?_
  refine then_normal ?_
  refine wc_ifb hs rfl (fun c1 hs => ?_) (fun c1 hs => ?_)
  · skip
    refine wc_seq ?_
    refine wc_region ?_
    refine wl_ok (r_assign (v := (.int .i64 (2))) rfl) ?_
    refine wl_nil ?_
    refine then_normal ?_
    refine wc_ret ?_
    refine then_ret ?_
    refine fin1 (v := (.int .i64 (2))) Try.results20 rfl ?_
    obtain rfl := hs
    exact ⟨h.grown, rfl⟩
  · skip
    refine wc_skip ?_
    refine then_normal ?_
    refine wc_seq ?_
    refine wc_seq ?_
    refine wc_region ?_
    refine wl_ok (r_move (v := va) rfl) ?_
    refine wl_ok (r_len SliceOf36 rfl (h.srS 1 rfl)) ?_
    refine wl_ok (r_move (v := (.int .i64 (0))) rfl) ?_
    refine wl_nil ?_
    refine then_normal ?_
    refine wc_block ?_
    refine wc_lp (σ := Nat × Int) (inl [2, 4, 10, 11, 12, 13, 14, 15, 16, 17, 18, 19, 20, 21, 22, 23, 24, 25, 26, 27, 28, 29, 30, 31, 32, 33, 34, 35, 36, 37, 38, 39, 40, 41, 42, 43, 44, 45, 46, 47, 48, 49, 50, 51, 52, 53, 54, 55, 56]) (fun ⟨k2, i3⟩ => [(10, (.int .i64 (i3)))]) (fun ⟨k2, i3⟩ w => SH w0 M BE w (hset [(1, .sr rMail va a)]) ∧ i3 = (k2 : Int) ∧ each wandererref_CheckMail_b3 wandererref_CheckMail_k4 (a.drop k2) () = r) (fun ⟨k2, i3⟩ => a.length - k2) ⟨0, 0⟩ ⟨rfl, trivial⟩ ?_ ?_
    · exact ⟨h.cn _, rfl, hs⟩
    · rintro ⟨k2, i3⟩ w junk ⟨h, hik, hs⟩
      refine wc_seq (wc_region ?_)
      refine wl_ok (r_lss rfl rfl) ?_
      refine wl_nil (then_normal ?_)
      refine wc_seq ?_
      refine wc_if rfl (fun e7 => ?_) (fun e7 => ?_)
      · refine wc_skip (then_normal ?_)
        obtain ⟨x4, e8a, e8b⟩ := drop_lt (hik ▸ e7)
        rw [e8b, each_cons] at hs
        generalize hnx6 : each wandererref_CheckMail_b3 wandererref_CheckMail_k4 (a.drop (k2 + 1)) = nx6 at hs
        have e8r := nat_rng ((h.srS 1 rfl)).len_le hik e7
        refine wc_seq ?_
        refine wc_block ?_
        refine wc_seq ?_
        refine wc_region ?_
        obtain ⟨b10, o11, cs12, h, r13, i9⟩ := h.ixS 1 2 rfl SliceOf36 rfl (nat_nn hik) (get_nat hik e8a)
        obtain ⟨u14, rfl, g15⟩ := rMail_open r13
        replace h := h.knowRd 3 g15.up
        refine wl_ok (i9 _ _ _ _ _ _ _ _ _ rfl rfl) ?_
        refine wl_ok (r_ldPN (k := 0) (vs := [(.int .i64 (x4.from_)), (.int .i64 (x4.to_)), (.int .i64 (x4.co)), (.int .i64 (x4.epoch)), (.bool (x4.taken)), u14]) h 2 rfl Many38 rfl rfl rfl (Nat.le_of_ble_eq_true rfl)) ?_
        refine w_allocN h 4 Many38 fun w b16 h => ?_
        refine w_stN (vs := [(.int .i64 (x4.from_)), (.int .i64 (x4.to_)), (.int .i64 (x4.co)), (.int .i64 (x4.epoch)), (.bool (x4.taken)), u14]) h 4 [(.int .i64 (x4.from_)), (.int .i64 (x4.to_)), (.int .i64 (x4.co)), (.int .i64 (x4.epoch)), (.bool (x4.taken)), u14] rfl Many38 rfl rfl rfl rfl rfl (ones_cons rfl (ones_cons rfl (ones_cons rfl (ones_cons rfl (ones_cons rfl (ones_cons (h.rdAt 3 rfl).one ones_nil)))))) fun w h => ?_
        refine wl_nil ?_
        refine then_normal ?_
        refine wc_seq ?_
        refine wc_seq ?_
        refine wc_region ?_
        refine wl_ok (r_fieldAddr Fld38x0 rfl) ?_
        refine wl_ok (r_ldB h 4 rfl One3 rfl rfl) ?_
        refine w_call fnOk64 rfl rfl (wandererref_in_c _ _ h.lt x4.from_ 0 2 _ rfl) ?_
        rintro _ w ⟨k17, rfl⟩
        refine ⟨_, rfl, ?_⟩
        replace h := h.grow k17
        refine wl_ok (r_notb rfl) ?_
        refine wl_ok (r_move (v := (.bool ((!(wandererref_in x4.from_ 0 2))))) rfl) ?_
        refine wl_gd0 rfl rfl (fun q => r_fieldAddr Fld38x1 rfl) ?_
        refine wl_gd0 rfl rfl (fun q => r_ldB h 4 rfl One3 (gvt q) rfl) ?_
        refine w_callG0 rfl rfl fnOk64 rfl (fun q => la_cons (gvt q) (la_cons rfl (la_cons rfl rfl))) (wandererref_in_c _ _ h.lt x4.to_ 0 2 _ rfl) fun w k18 => ?_
        replace h := h.grow k18
        refine wl_gd0 rfl rfl (fun q => r_notb (gvt q)) ?_
        refine wl_ok (r_por rfl rfl evc) ?_
        refine wl_ok (r_move (v := (.bool (((!(wandererref_in x4.from_ 0 2)) || (!(wandererref_in x4.to_ 0 2)))))) rfl) ?_
        refine wl_gd0 rfl rfl (fun q => r_fieldAddr Fld38x2 rfl) ?_
        refine wl_gd0 rfl rfl (fun q => r_ldB h 4 rfl One3 (gvt q) rfl) ?_
        refine w_callG0 rfl rfl fnOk64 rfl (fun q => la_cons (gvt q) (la_cons rfl (la_cons rfl rfl))) (wandererref_in_c _ _ h.lt x4.co 0 2 _ rfl) fun w k19 => ?_
        replace h := h.grow k19
        refine wl_gd0 rfl rfl (fun q => r_notb (gvt q)) ?_
        refine wl_ok (r_por rfl rfl evc) ?_
        refine wl_ok (r_move (v := (.bool ((((!(wandererref_in x4.from_ 0 2)) || (!(wandererref_in x4.to_ 0 2))) || (!(wandererref_in x4.co 0 2)))))) rfl) ?_
        refine wl_gd0 rfl rfl (fun q => r_fieldAddr Fld38x3 rfl) ?_
        refine wl_gd0 rfl rfl (fun q => r_ldB h 4 rfl One3 (gvt q) rfl) ?_
        refine w_callG0 rfl rfl fnOk64 rfl (fun q => la_cons (gvt q) (la_cons rfl (la_cons rfl rfl))) (wandererref_in_c _ _ h.lt x4.epoch 2 100 _ rfl) fun w k20 => ?_
        replace h := h.grow k20
        refine wl_gd0 rfl rfl (fun q => r_notb (gvt q)) ?_
        refine wl_ok (r_por rfl rfl evc) ?_
        refine wl_nil ?_
        refine then_normal ?_
        refine wc_ifb hs rfl (fun c21 hs => ?_) (fun c21 hs => ?_)
        · skip
          refine wc_seq ?_
          refine wc_region ?_
          refine wl_ok (r_assign (v := (.int .i64 (3))) rfl) ?_
          refine wl_nil ?_
          refine then_normal ?_
          refine wc_ret ?_
          refine then_ret ?_
          refine inBlock_ret ?_
          refine then_ret ?_
          refine then_ret ?_
          refine inBlock_ret ?_
          refine then_ret ?_
          refine fin1 (v := (.int .i64 (3))) Try.results20 rfl ?_
          obtain rfl := hs
          exact ⟨h.grown, rfl⟩
        · skip
          refine wc_skip ?_
          refine then_normal ?_
          refine wc_seq ?_
          refine wc_region ?_
          refine wl_ok (r_fieldAddr Fld38x4 rfl) ?_
          refine wl_ok (r_ldB h 4 rfl One4 rfl rfl) ?_
          refine wl_ok (r_move (v := (.bool (x4.taken))) rfl) ?_
          refine wl_gd0 rfl rfl (fun q => r_fieldAddr Fld38x5 rfl) ?_
          refine wl_gd0 rfl rfl (fun q => r_ldB h 4 rfl One24 (gvt q) rfl) ?_
          refine wl_gd0 rfl rfl (fun q => r_len SliceOf24 (gvt q) (h.rdS 3 rfl)) ?_
          refine wl_gd0 rfl rfl (fun q => r_gtr (gvt q) rfl) ?_
          refine wl_ok (r_pand rfl rfl evc) ?_
          refine wl_ok (r_move (v := (.bool ((x4.taken && decide ((0 : Int) < (x4.image.length : Int)))))) rfl) ?_
          refine wl_gd0 rfl rfl (fun q => r_fieldAddr Fld38x4 rfl) ?_
          refine wl_gd0 rfl rfl (fun q => r_ldB h 4 rfl One4 (gvt q) rfl) ?_
          refine wl_gd0 rfl rfl (fun q => r_notb (gvt q)) ?_
          refine wl_gd0 rfl rfl (fun q => r_move (v := (.bool ((!x4.taken)))) (gvt q)) ?_
          refine wl_gd ((x4.taken && decide ((0 : Int) < (x4.image.length : Int))) == false) rfl rfl (fun q => r_fieldAddr Fld38x5 rfl) ?_
          refine wl_gd ((x4.taken && decide ((0 : Int) < (x4.image.length : Int))) == false) rfl rfl (fun q => r_ldB h 4 rfl One24 (gvt q) rfl) ?_
          refine wl_gd ((x4.taken && decide ((0 : Int) < (x4.image.length : Int))) == false) rfl rfl (fun q => r_len SliceOf24 (gvt q) (h.rdS 3 rfl)) ?_
          refine w_callG ((x4.taken && decide ((0 : Int) < (x4.image.length : Int))) == false) rfl rfl fnOk64 rfl (fun q => la_cons (gvt q) (la_cons rfl (la_cons rfl rfl))) (wandererref_in_c _ _ h.lt (x4.image.length : Int) 1 1200 _ rfl) fun w k22 => ?_
          replace h := h.grow k22
          refine wl_gd ((x4.taken && decide ((0 : Int) < (x4.image.length : Int))) == false) rfl rfl (fun q => r_notb (gvt q)) ?_
          refine wl_gd0 rfl rfl (fun q => r_pand (gvt q) (gvn q) evc) ?_
          refine wl_ok (r_por rfl rfl evc) ?_
          refine wl_nil ?_
          refine then_normal ?_
          refine wc_ifb hs rfl (fun c23 hs => ?_) (fun c23 hs => ?_)
          · skip
            refine wc_seq ?_
            refine wc_region ?_
            refine wl_ok (r_assign (v := (.int .i64 (4))) rfl) ?_
            refine wl_nil ?_
            refine then_normal ?_
            refine wc_ret ?_
            refine inBlock_ret ?_
            refine then_ret ?_
            refine then_ret ?_
            refine inBlock_ret ?_
            refine then_ret ?_
            refine fin1 (v := (.int .i64 (4))) Try.results20 rfl ?_
            obtain rfl := hs
            exact ⟨h.grown, rfl⟩
          · skip
            refine wc_skip ?_
            refine inBlock_normal ?_
            refine then_normal ?_
            refine wc_region ?_
            refine wl_ok (r_add rfl rfl e8r) ?_
            refine wl_ok (r_move (v := (.int .i64 ((i3 + 1)))) rfl) ?_
            refine wl_nil ?_
            refine then_loop ?_
            subst hnx6
            exact lend ⟨k2 + 1, i3 + 1⟩ ⟨h.cn _, by omega, hs⟩ (by have := of_decide_eq_true e7; dsimp only; omega)
      · skip
        rw [drop_ge (hik ▸ e7), each_nil] at hs
        refine wc_exit ?_
        refine then_exit ?_
        refine then_exit ?_
        refine inBlock_eq ?_
        refine then_normal ?_
        refine wc_seq ?_
        refine wc_region ?_
        refine wl_ok (r_assign (v := (.int .i64 (0))) rfl) ?_
        refine wl_nil ?_
        refine then_normal ?_
        refine wc_ret ?_
        refine fin1 (v := (.int .i64 (0))) Try.results20 rfl ?_
        obtain rfl := hs
        exact ⟨h.grown, rfl⟩
def slices_Equal_int_b3 (a : List Int) (b : List Int) (i3 : Int) (s : Unit) (nx6 : Unit → Option Bool) : Option Bool :=
  (idx a i3).bind fun x9 => (idx b i3).bind fun x16 => bif decide ((x9 : Int) ≠ x16) then some false else nx6 ()
def slices_Equal_int_k4 (s : Unit) : Option Bool :=
  some true
def slices_Equal_int (a : List Int) (b : List Int) : Option Bool :=
  bif decide (((a.length : Int) : Int) ≠ (b.length : Int)) then some false else upto (slices_Equal_int_b3 a b) slices_Equal_int_k4 0 ((a.length : Int)).toNat ()
theorem slices_Equal_int_c (w0 : World) (M : BS) (hM : ∀ b, M b → b < w0.heap.size) (va : Value) (a : List Int) (ha : Rd2 rInt w0 BE M va a) (vb : Value) (b : List Int) (hb : Rd2 rInt w0 BE M vb b) (r : Bool) (hs : slices_Equal_int a b = some r) :
    Calls Try.prog 14 #[va, vb] w0 (fun e w' => Grow w0 w' ∧ e = .returned (.bool r)) := by
  refine calls_start (args := [va, vb]) Try.func14 rfl Try.ntmps14 (Nat.le_of_ble_eq_true rfl) ?_
  have h := SH.init hM
  replace h := h.argSr 1 ha none_own
  replace h := h.argSr 2 hb (hupd_own_sr none_own)
  have hl_a := ha.len_le
  have hl_b := hb.len_le
  refine wc_seq ?_
  refine wc_region ?_
  refine wl_ok (r_assign (v := (.bool (false))) rfl) ?_
  refine wl_nil ?_
  refine then_normal ?_
  refine wc_seq ?_
  refine wc_seq ?_
  refine wc_region ?_
  refine wl_ok (r_move (v := va) rfl) ?_
  refine wl_ok (r_len SliceOf24 rfl (h.srS 1 rfl)) ?_
  refine wl_ok (r_move (v := vb) rfl) ?_
  refine wl_ok (r_len SliceOf24 rfl (h.srS 2 rfl)) ?_
  refine wl_ok (r_neq rfl rfl) ?_
  refine wl_nil ?_
  refine then_normal ?_
  refine wc_ifb hs rfl (fun c1 hs => ?_) (fun c1 hs => ?_)
  · skip
    refine wc_seq ?_
    refine wc_region ?_
    refine wl_ok (r_assign (v := (.bool (false))) rfl) ?_
    refine wl_nil ?_
    refine then_normal ?_
    refine wc_ret ?_
    refine then_ret ?_
    refine fin1 (v := (.bool (false))) Try.results14 rfl ?_
    obtain rfl := Option.some.inj hs
    exact ⟨h.grown, rfl⟩
  · skip
    refine wc_skip ?_
    refine then_normal ?_
    refine wc_seq ?_
    refine wc_seq ?_
    refine wc_region ?_
    refine wl_ok (r_move (v := va) rfl) ?_
    refine wl_ok (r_len SliceOf24 rfl (h.srS 1 rfl)) ?_
    refine wl_ok (r_move (v := (.int .i64 (0))) rfl) ?_
    refine wl_nil ?_
    refine then_normal ?_
    refine wc_block ?_
    have hli3 := (h.srS 1 rfl).len_le
    refine wc_lp (σ := Nat × Int) (inl [4, 5, 13, 14, 15, 16, 17, 18, 19, 20, 21, 22, 23, 24, 25]) (fun ⟨k2, i3⟩ => [(13, (.int .i64 (i3)))]) (fun ⟨k2, i3⟩ w => SH w0 M BE w (hset [(1, .sr rInt va a), (2, .sr rInt vb b)]) ∧ i3 = (k2 : Int) ∧ upto (slices_Equal_int_b3 a b) slices_Equal_int_k4 i3 (((a.length : Int)).toNat - k2) () = some r) (fun ⟨k2, i3⟩ => ((a.length : Int)).toNat - k2) ⟨0, 0⟩ ⟨rfl, trivial⟩ ?_ ?_
    · exact ⟨h.cn _, rfl, hs⟩
    · rintro ⟨k2, i3⟩ w junk ⟨h, hik, hs⟩
      refine wc_seq (wc_region ?_)
      refine wl_ok (r_lss rfl rfl) ?_
      refine wl_nil (then_normal ?_)
      refine wc_seq ?_
      refine wc_if rfl (fun e7 => ?_) (fun e7 => ?_)
      · refine wc_skip (then_normal ?_)
        rw [upto_lt (by have := of_decide_eq_true e7; omega)] at hs
        generalize hnx6 : upto (slices_Equal_int_b3 a b) slices_Equal_int_k4 (i3 + 1) (((a.length : Int)).toNat - (k2 + 1)) = nx6 at hs
        have e8r : I64 (i3 + 1) := (by have := of_decide_eq_true e7; have := hli3; exact I64.mk (by omega) (by omega))
        refine wc_seq ?_
        refine wc_block ?_
        refine wc_seq ?_
        refine wc_region ?_
        refine wl_ok (r_move (v := (.int .i64 (i3))) rfl) ?_
        refine wl_ok (r_assign (v := (.int .i64 (i3))) rfl) ?_
        refine wl_nil ?_
        refine then_normal ?_
        refine wc_seq ?_
        refine wc_still mixed (by kernel_rfl) h fun w h => ?_
        refine wk_ok (r_move (v := va) rfl) ?_
        refine wk_ok (r_move (v := (.int .i64 (i3))) rfl) ?_
        obtain ⟨x9, e10, hs⟩ := o_bind hs
        obtain ⟨b12, o13, cs14, h, r15, i11⟩ := h.ixS 1 3 rfl SliceOf24 rfl (o_idx e10).1 (o_idx e10).2
        obtain rfl := r15
        refine wk_ok (i11 _ _ _ _ _ _ _ _ _ rfl rfl) ?_
        refine wk_ok (r_ldP (k := 0) h 3 rfl One3 rfl rfl) ?_
        refine wk_ok (r_move (v := vb) rfl) ?_
        refine wk_ok (r_move (v := (.int .i64 (i3))) rfl) ?_
        obtain ⟨x16, e17, hs⟩ := o_bind hs
        obtain ⟨b19, o20, cs21, h, r22, i18⟩ := h.ixS 2 4 rfl SliceOf24 rfl (o_idx e17).1 (o_idx e17).2
        obtain rfl := r22
        refine wk_ok (i18 _ _ _ _ _ _ _ _ _ rfl rfl) ?_
        refine wk_ok (r_ldP (k := 0) h 4 rfl One3 rfl rfl) ?_
        refine wk_ok (r_neq rfl rfl) ?_
        refine wk_end ?_
        refine then_normal ?_
        refine wc_ifb hs rfl (fun c23 hs => ?_) (fun c23 hs => ?_)
        · skip
          refine wc_seq ?_
          refine wc_region ?_
          refine wl_ok (r_assign (v := (.bool (false))) rfl) ?_
          refine wl_nil ?_
          refine then_normal ?_
          refine wc_ret ?_
          refine inBlock_ret ?_
          refine then_ret ?_
          refine then_ret ?_
          refine inBlock_ret ?_
          refine then_ret ?_
          refine fin1 (v := (.bool (false))) Try.results14 rfl ?_
          obtain rfl := Option.some.inj hs
          exact ⟨h.grown, rfl⟩
        · skip
          refine wc_skip ?_
          refine inBlock_normal ?_
          refine then_normal ?_
          refine wc_region ?_
          refine wl_ok (r_add rfl rfl e8r) ?_
          refine wl_ok (r_move (v := (.int .i64 ((i3 + 1)))) rfl) ?_
          refine wl_nil ?_
          refine then_loop ?_
          subst hnx6
          exact lend ⟨k2 + 1, i3 + 1⟩ ⟨h.cn _, by omega, hs⟩ (by have := of_decide_eq_true e7; dsimp only; omega)
      · skip
        rw [upto_ge (by have := of_decide_eq_false e7; omega)] at hs
        refine wc_exit ?_
        refine then_exit ?_
        refine then_exit ?_
        refine inBlock_eq ?_
        refine then_normal ?_
        refine wc_seq ?_
        refine wc_region ?_
        refine wl_ok (r_assign (v := (.bool (true))) rfl) ?_
        refine wl_nil ?_
        refine then_normal ?_
        refine wc_ret ?_
        refine fin1 (v := (.bool (true))) Try.results14 rfl ?_
        obtain rfl := Option.some.inj hs
        exact ⟨h.grown, rfl⟩
def way_Same_j22 (nx6 : Unit → Option Bool) (x27 : Bool) : Option Bool :=
  bif x27 then some false else nx6 ()
def way_Same_b23 (b : List Mail) (i3 : Int) (x4 : Mail) (s : Unit) (nx6 : Unit → Option Bool) : Option Bool :=
  (idx b i3).bind fun x17 => bif ((((decide ((x4.from_ : Int) = x17.from_) && decide ((x4.to_ : Int) = x17.to_)) && decide ((x4.co : Int) = x17.co)) && decide ((x4.epoch : Int) = x17.epoch)) && (x4.taken == x17.taken)) then (slices_Equal_int x4.image x17.image).bind fun y32 => way_Same_j22 nx6 (!y32) else way_Same_j22 nx6 true
def way_Same_k24 (s : Unit) : Option Bool :=
  some true
def way_Same (a : List Mail) (b : List Mail) : Option Bool :=
  bif decide (((a.length : Int) : Int) ≠ (b.length : Int)) then some false else eachI (way_Same_b23 b) way_Same_k24 0 a ()
theorem way_Same_c (w0 : World) (M : BS) (hM : ∀ b, M b → b < w0.heap.size) (va : Value) (a : List Mail) (ha : Rd2 rMail w0 BE M va a) (vb : Value) (b : List Mail) (hb : Rd2 rMail w0 BE M vb b) (r : Bool) (hs : way_Same a b = some r) :
    Calls Try.prog 23 #[va, vb] w0 (fun e w' => Grow w0 w' ∧ e = .returned (.bool r)) := by
  refine calls_start (args := [va, vb]) Try.func23 rfl Try.ntmps23 (Nat.le_of_ble_eq_true rfl) ?_
  have h := SH.init hM
  replace h := h.argSr 1 ha none_own
  replace h := h.argSr 2 hb (hupd_own_sr none_own)
  have hl_a := ha.len_le
  have hl_b := hb.len_le
  refine wc_seq ?_
  refine wc_region ?_
  refine wl_ok (r_assign (v := (.bool (false))) rfl) ?_
  refine wl_nil ?_
  refine then_normal ?_
  refine wc_seq ?_
  refine wc_region ?_
  refine wl_ok (r_move (v := va) rfl) ?_
  refine wl_ok (r_move (v := vb) rfl) ?_
  refine w_callIn (args := [va, vb, (.func (.func 66) #[] #[])]) fnOk65 rfl rfl ?_
  refine calls_start (args := [va, vb, (.func (.func 66) #[] #[])]) Try.func65 rfl Try.ntmps65 (Nat.le_of_ble_eq_true rfl) ?_
  refine wc_seq ?_
  refine wc_region ?_
  refine wl_ok (r_assign (v := (.bool (false))) rfl) ?_
  refine wl_nil ?_
  refine then_normal ?_
  refine wc_seq ?_
  refine wc_seq ?_
  refine wc_region ?_
  refine wl_ok (r_move (v := va) rfl) ?_
  refine wl_ok (r_len SliceOf36 rfl (h.srS 1 rfl)) ?_
  refine wl_ok (r_move (v := vb) rfl) ?_
  refine wl_ok (r_len SliceOf36 rfl (h.srS 2 rfl)) ?_
  refine wl_ok (r_neq rfl rfl) ?_
  refine wl_nil ?_
  refine then_normal ?_
  refine wc_ifb hs rfl (fun c1 hs => ?_) (fun c1 hs => ?_)
  · skip
    refine wc_seq ?_
    refine wc_region ?_
    refine wl_ok (r_assign (v := (.bool (false))) rfl) ?_
    refine wl_nil ?_
    refine then_normal ?_
    refine wc_ret ?_
    refine then_ret ?_
    refine fin1 (v := (.bool (false))) Try.results65 rfl ?_
    refine ⟨_, rfl, ?_⟩
    refine wl_ok (r_assign (v := (.bool (false))) rfl) ?_
    refine wl_nil ?_
    refine then_normal ?_
    refine wc_ret ?_
    refine fin1 (v := (.bool (false))) Try.results23 rfl ?_
    obtain rfl := Option.some.inj hs
    exact ⟨h.grown, rfl⟩
  · skip
    refine wc_skip ?_
    refine then_normal ?_
    refine wc_seq ?_
    refine wc_seq ?_
    refine wc_region ?_
    refine wl_ok (r_move (v := va) rfl) ?_
    refine wl_ok (r_len SliceOf36 rfl (h.srS 1 rfl)) ?_
    refine wl_ok (r_move (v := (.int .i64 (0))) rfl) ?_
    refine wl_nil ?_
    refine then_normal ?_
    refine wc_block ?_
    refine wc_lp (σ := Nat × Int) (inl [6, 7, 8, 9, 17, 18, 19, 20, 21, 22, 23, 24, 25, 26, 27, 28, 29, 30, 31]) (fun ⟨k2, i3⟩ => [(17, (.int .i64 (i3)))]) (fun ⟨k2, i3⟩ w => SH w0 M BE w (hset [(1, .sr rMail va a), (2, .sr rMail vb b)]) ∧ i3 = (k2 : Int) ∧ eachI (way_Same_b23 b) way_Same_k24 i3 (a.drop k2) () = some r) (fun ⟨k2, i3⟩ => a.length - k2) ⟨0, 0⟩ ⟨rfl, trivial⟩ ?_ ?_
    · exact ⟨h.cn _, rfl, hs⟩
    · rintro ⟨k2, i3⟩ w junk ⟨h, hik, hs⟩
      refine wc_seq (wc_region ?_)
      refine wl_ok (r_lss rfl rfl) ?_
      refine wl_nil (then_normal ?_)
      refine wc_seq ?_
      refine wc_if rfl (fun e7 => ?_) (fun e7 => ?_)
      · refine wc_skip (then_normal ?_)
        obtain ⟨x4, e8a, e8b⟩ := drop_lt (hik ▸ e7)
        rw [e8b, eachI_cons] at hs
        generalize hnx6 : eachI (way_Same_b23 b) way_Same_k24 (i3 + 1) (a.drop (k2 + 1)) = nx6 at hs
        have e8r := nat_rng ((h.srS 1 rfl)).len_le hik e7
        refine wc_seq ?_
        refine wc_block ?_
        refine wc_seq ?_
        refine wc_region ?_
        refine wl_ok (r_move (v := (.int .i64 (i3))) rfl) ?_
        obtain ⟨b10, o11, cs12, h, r13, i9⟩ := h.ixS 1 3 rfl SliceOf36 rfl (nat_nn hik) (get_nat hik e8a)
        obtain ⟨u14, rfl, g15⟩ := rMail_open r13
        replace h := h.knowRd 4 g15.up
        refine wl_ok (i9 _ _ _ _ _ _ _ _ _ rfl rfl) ?_
        refine wl_ok (r_ldPN (k := 0) (vs := [(.int .i64 (x4.from_)), (.int .i64 (x4.to_)), (.int .i64 (x4.co)), (.int .i64 (x4.epoch)), (.bool (x4.taken)), u14]) h 3 rfl Many38 rfl rfl rfl (Nat.le_of_ble_eq_true rfl)) ?_
        refine w_allocN h 5 Many38 fun w b16 h => ?_
        refine wl_ok (r_assign (v := (.int .i64 (i3))) rfl) ?_
        refine w_stN (vs := [(.int .i64 (x4.from_)), (.int .i64 (x4.to_)), (.int .i64 (x4.co)), (.int .i64 (x4.epoch)), (.bool (x4.taken)), u14]) h 5 [(.int .i64 (x4.from_)), (.int .i64 (x4.to_)), (.int .i64 (x4.co)), (.int .i64 (x4.epoch)), (.bool (x4.taken)), u14] rfl Many38 rfl rfl rfl rfl rfl (ones_cons rfl (ones_cons rfl (ones_cons rfl (ones_cons rfl (ones_cons rfl (ones_cons (h.rdAt 4 rfl).one ones_nil)))))) fun w h => ?_
        refine wl_nil ?_
        refine then_normal ?_
        refine wc_seq ?_
        refine wc_region ?_
        refine wl_ok (r_move (v := vb) rfl) ?_
        refine wl_ok (r_move (v := (.int .i64 (i3))) rfl) ?_
        obtain ⟨x17, e18, hs⟩ := o_bind hs
        obtain ⟨b20, o21, cs22, h, r23, i19⟩ := h.ixS 2 6 rfl SliceOf36 rfl (o_idx e18).1 (o_idx e18).2
        obtain ⟨u24, rfl, g25⟩ := rMail_open r23
        replace h := h.knowRd 7 g25.up
        refine wl_ok (i19 _ _ _ _ _ _ _ _ _ rfl rfl) ?_
        refine wl_ok (r_ldPN (k := 0) (vs := [(.int .i64 (x17.from_)), (.int .i64 (x17.to_)), (.int .i64 (x17.co)), (.int .i64 (x17.epoch)), (.bool (x17.taken)), u24]) h 6 rfl Many38 rfl rfl rfl (Nat.le_of_ble_eq_true rfl)) ?_
        refine w_allocN h 8 Many38 fun w b26 h => ?_
        refine w_stN (vs := [(.int .i64 (x17.from_)), (.int .i64 (x17.to_)), (.int .i64 (x17.co)), (.int .i64 (x17.epoch)), (.bool (x17.taken)), u24]) h 8 [(.int .i64 (x17.from_)), (.int .i64 (x17.to_)), (.int .i64 (x17.co)), (.int .i64 (x17.epoch)), (.bool (x17.taken)), u24] rfl Many38 rfl rfl rfl rfl rfl (ones_cons rfl (ones_cons rfl (ones_cons rfl (ones_cons rfl (ones_cons rfl (ones_cons (h.rdAt 7 rfl).one ones_nil)))))) fun w h => ?_
        refine wl_nil ?_
        refine then_normal ?_
        refine wc_join (σ := Bool) (inl [26, 27, 28, 29, 30]) (fun x27 => [(30, (.bool (x27)))]) (fun x27 w => SH w0 M BE w (hset [(1, .sr rMail va a), (2, .sr rMail vb b)]) ∧ way_Same_j22 nx6 x27 = some r) ?_ ?_
        · rintro x27 w junk ⟨h, hs⟩
          refine wc_ifb hs rfl (fun c28 hs => ?_) (fun c28 hs => ?_)
          · skip
            refine wc_seq ?_
            refine wc_region ?_
            refine wl_ok (r_assign (v := (.bool (false))) rfl) ?_
            refine wl_nil ?_
            refine then_normal ?_
            refine wc_ret ?_
            refine inBlock_ret ?_
            refine then_ret ?_
            refine then_ret ?_
            refine inBlock_ret ?_
            refine then_ret ?_
            refine fin1 (v := (.bool (false))) Try.results65 rfl ?_
            refine ⟨_, rfl, ?_⟩
            refine wl_ok (r_assign (v := (.bool (false))) rfl) ?_
            refine wl_nil ?_
            refine then_normal ?_
            refine wc_ret ?_
            refine fin1 (v := (.bool (false))) Try.results23 rfl ?_
            obtain rfl := Option.some.inj hs
            exact ⟨h.grown, rfl⟩
          · skip
            refine wc_skip ?_
            refine inBlock_normal ?_
            refine then_normal ?_
            refine wc_region ?_
            refine wl_ok (r_add rfl rfl e8r) ?_
            refine wl_ok (r_move (v := (.int .i64 ((i3 + 1)))) rfl) ?_
            refine wl_nil ?_
            refine then_loop ?_
            subst hnx6
            exact lend ⟨k2 + 1, i3 + 1⟩ ⟨h.cn _, by omega, hs⟩ (by have := of_decide_eq_true e7; dsimp only; omega)
        · skip
          refine wc_region ?_
          refine wl_ok (r_move (v := (.func (.func 66) #[] #[])) rfl) ?_
          refine wl_ok (r_ldBN (vs := [(.int .i64 (x4.from_)), (.int .i64 (x4.to_)), (.int .i64 (x4.co)), (.int .i64 (x4.epoch)), (.bool (x4.taken)), u14]) h 5 rfl Many38 rfl rfl rfl) ?_
          refine wl_ok (r_ldBN (vs := [(.int .i64 (x17.from_)), (.int .i64 (x17.to_)), (.int .i64 (x17.co)), (.int .i64 (x17.epoch)), (.bool (x17.taken)), u24]) h 8 rfl Many38 rfl rfl rfl) ?_
          refine w_callIn (args := [(.agg #[(.int .i64 (x4.from_)), (.int .i64 (x4.to_)), (.int .i64 (x4.co)), (.int .i64 (x4.epoch)), (.bool (x4.taken)), u14]), (.agg #[(.int .i64 (x17.from_)), (.int .i64 (x17.to_)), (.int .i64 (x17.co)), (.int .i64 (x17.epoch)), (.bool (x17.taken)), u24])]) fnOk66 rfl rfl ?_
          refine calls_start (args := [(.agg #[(.int .i64 (x4.from_)), (.int .i64 (x4.to_)), (.int .i64 (x4.co)), (.int .i64 (x4.epoch)), (.bool (x4.taken)), u14]), (.agg #[(.int .i64 (x17.from_)), (.int .i64 (x17.to_)), (.int .i64 (x17.co)), (.int .i64 (x17.epoch)), (.bool (x17.taken)), u24])]) Try.func66 rfl Try.ntmps66 (Nat.le_of_ble_eq_true rfl) ?_
          refine wc_seq ?_
          refine wc_region ?_
          refine w_box (cs := [(.int .i64 (x4.from_)), (.int .i64 (x4.to_)), (.int .i64 (x4.co)), (.int .i64 (x4.epoch)), (.bool (x4.taken)), u14]) h 9 rfl rfl fun w b29 h => ?_
          refine w_box (cs := [(.int .i64 (x17.from_)), (.int .i64 (x17.to_)), (.int .i64 (x17.co)), (.int .i64 (x17.epoch)), (.bool (x17.taken)), u24]) h 10 rfl rfl fun w b30 h => ?_
          refine wl_ok (r_assign (v := (.bool (false))) rfl) ?_
          refine wl_nil ?_
          refine then_normal ?_
          refine wc_seq ?_
          refine wc_region ?_
          refine wl_ok (r_fieldAddr Fld38x0 rfl) ?_
          refine wl_ok (r_ldB h 9 rfl One3 rfl rfl) ?_
          refine wl_ok (r_fieldAddr Fld38x0 rfl) ?_
          refine wl_ok (r_ldB h 10 rfl One3 rfl rfl) ?_
          refine wl_ok (r_eql rfl rfl) ?_
          refine wl_ok (r_move (v := (.bool (decide ((x4.from_ : Int) = x17.from_)))) rfl) ?_
          refine wl_gd0 rfl rfl (fun q => r_fieldAddr Fld38x1 rfl) ?_
          refine wl_gd0 rfl rfl (fun q => r_ldB h 9 rfl One3 (gvt q) rfl) ?_
          refine wl_gd0 rfl rfl (fun q => r_fieldAddr Fld38x1 rfl) ?_
          refine wl_gd0 rfl rfl (fun q => r_ldB h 10 rfl One3 (gvt q) rfl) ?_
          refine wl_gd0 rfl rfl (fun q => r_eql (gvt q) (gvt q)) ?_
          refine wl_ok (r_pand rfl rfl evc) ?_
          refine wl_ok (r_move (v := (.bool ((decide ((x4.from_ : Int) = x17.from_) && decide ((x4.to_ : Int) = x17.to_))))) rfl) ?_
          refine wl_gd0 rfl rfl (fun q => r_fieldAddr Fld38x2 rfl) ?_
          refine wl_gd0 rfl rfl (fun q => r_ldB h 9 rfl One3 (gvt q) rfl) ?_
          refine wl_gd0 rfl rfl (fun q => r_fieldAddr Fld38x2 rfl) ?_
          refine wl_gd0 rfl rfl (fun q => r_ldB h 10 rfl One3 (gvt q) rfl) ?_
          refine wl_gd0 rfl rfl (fun q => r_eql (gvt q) (gvt q)) ?_
          refine wl_ok (r_pand rfl rfl evc) ?_
          refine wl_ok (r_move (v := (.bool (((decide ((x4.from_ : Int) = x17.from_) && decide ((x4.to_ : Int) = x17.to_)) && decide ((x4.co : Int) = x17.co))))) rfl) ?_
          refine wl_gd0 rfl rfl (fun q => r_fieldAddr Fld38x3 rfl) ?_
          refine wl_gd0 rfl rfl (fun q => r_ldB h 9 rfl One3 (gvt q) rfl) ?_
          refine wl_gd0 rfl rfl (fun q => r_fieldAddr Fld38x3 rfl) ?_
          refine wl_gd0 rfl rfl (fun q => r_ldB h 10 rfl One3 (gvt q) rfl) ?_
          refine wl_gd0 rfl rfl (fun q => r_eql (gvt q) (gvt q)) ?_
          refine wl_ok (r_pand rfl rfl evc) ?_
          refine wl_ok (r_move (v := (.bool ((((decide ((x4.from_ : Int) = x17.from_) && decide ((x4.to_ : Int) = x17.to_)) && decide ((x4.co : Int) = x17.co)) && decide ((x4.epoch : Int) = x17.epoch))))) rfl) ?_
          refine wl_gd0 rfl rfl (fun q => r_fieldAddr Fld38x4 rfl) ?_
          refine wl_gd0 rfl rfl (fun q => r_ldB h 9 rfl One4 (gvt q) rfl) ?_
          refine wl_gd0 rfl rfl (fun q => r_fieldAddr Fld38x4 rfl) ?_
          refine wl_gd0 rfl rfl (fun q => r_ldB h 10 rfl One4 (gvt q) rfl) ?_
          refine wl_gd0 rfl rfl (fun q => r_eqlb Try.underlying4 (gvt q) (gvt q)) ?_
          refine wl_ok (r_pand rfl rfl evc) ?_
          refine wl_ok (r_move (v := (.bool (((((decide ((x4.from_ : Int) = x17.from_) && decide ((x4.to_ : Int) = x17.to_)) && decide ((x4.co : Int) = x17.co)) && decide ((x4.epoch : Int) = x17.epoch)) && (x4.taken == x17.taken))))) rfl) ?_
          refine c_split (b := ((((decide ((x4.from_ : Int) = x17.from_) && decide ((x4.to_ : Int) = x17.to_)) && decide ((x4.co : Int) = x17.co)) && decide ((x4.epoch : Int) = x17.epoch)) && (x4.taken == x17.taken))) hs (fun c31 hs => ?_) (fun c31 hs => ?_)
          · skip
            refine wl_on rfl (congrArg Value.bool c31) ?_
            refine wl_ok (r_fieldAddr Fld38x5 rfl) ?_
            refine wl_on rfl (congrArg Value.bool c31) ?_
            refine wl_ok (r_ldB h 9 rfl One24 rfl rfl) ?_
            refine wl_on rfl (congrArg Value.bool c31) ?_
            refine wl_ok (r_fieldAddr Fld38x5 rfl) ?_
            refine wl_on rfl (congrArg Value.bool c31) ?_
            refine wl_ok (r_ldB h 10 rfl One24 rfl rfl) ?_
            refine wl_on rfl (congrArg Value.bool c31) ?_
            obtain ⟨y32, e33, hs⟩ := o_bind hs
            refine w_call fnOk14 rfl rfl (slices_Equal_int_c _ _ h.lt u14 x4.image (h.rdS 4 rfl) u24 x17.image (h.rdS 7 rfl) _ e33) ?_
            rintro _ w ⟨k34, rfl⟩
            refine ⟨_, rfl, ?_⟩
            replace h := h.grow k34
            refine wl_ok (r_pick (b := true) (v := (.bool (y32))) (congrArg Value.bool c31) rfl) ?_
            refine wl_ok (r_assign (v := (.bool (y32))) rfl) ?_
            refine wl_nil ?_
            refine then_normal ?_
            refine wc_ret ?_
            refine fin1 (v := (.bool (y32))) Try.results66 rfl ?_
            refine ⟨_, rfl, ?_⟩
            refine wl_ok (r_notb rfl) ?_
            refine wl_nil ?_
            refine then_loop ?_
            exact jend (!y32) ⟨h.cn _, hs⟩
          · skip
            refine wl_off (b' := false) rfl (congrArg Value.bool c31) rfl ?_
            refine wl_off (b' := false) rfl (congrArg Value.bool c31) rfl ?_
            refine wl_off (b' := false) rfl (congrArg Value.bool c31) rfl ?_
            refine wl_off (b' := false) rfl (congrArg Value.bool c31) rfl ?_
            refine wl_off (b' := false) rfl (congrArg Value.bool c31) rfl ?_
            refine wl_ok (r_pick (b := false) (v := (.bool (false))) (congrArg Value.bool c31) rfl) ?_
            refine wl_ok (r_assign (v := (.bool (false))) rfl) ?_
            refine wl_nil ?_
            refine then_normal ?_
            refine wc_ret ?_
            refine fin1 (v := (.bool (false))) Try.results66 rfl ?_
            refine ⟨_, rfl, ?_⟩
            refine wl_ok (r_notb rfl) ?_
            refine wl_nil ?_
            refine then_loop ?_
            exact jend true ⟨h.cn _, hs⟩
      · skip
        rw [drop_ge (hik ▸ e7), eachI_nil] at hs
        refine wc_exit ?_
        refine then_exit ?_
        refine then_exit ?_
        refine inBlock_eq ?_
        refine then_normal ?_
        refine wc_seq ?_
        refine wc_region ?_
        refine wl_ok (r_assign (v := (.bool (true))) rfl) ?_
        refine wl_nil ?_
        refine then_normal ?_
        refine wc_ret ?_
        refine fin1 (v := (.bool (true))) Try.results65 rfl ?_
        refine ⟨_, rfl, ?_⟩
        refine wl_ok (r_assign (v := (.bool (true))) rfl) ?_
        refine wl_nil ?_
        refine then_normal ?_
        refine wc_ret ?_
        refine fin1 (v := (.bool (true))) Try.results23 rfl ?_
        obtain rfl := Option.some.inj hs
        exact ⟨h.grown, rfl⟩
def wandererlaw_posted : Option Bool :=
  (way_Send [(⟨0, 1, 0, 2, true, []⟩ : Mail)] (⟨1, 0, 2, 3, false, [4]⟩ : Mail)).bind fun y5 => (way_Take y5.1 0 false).bind fun y11 => (way_Take y11.1 1 true).bind fun y20 => bif (((decide ((y5.2 : Int) = 0) && decide ((y11.2.2 : Int) = 0)) && decide ((y20.2.2 : Int) = 5)) && decide (((y5.1.length : Int) : Int) = 2)) then (way_Same y11.1 [(⟨1, 0, 2, 3, false, [4]⟩ : Mail)]).bind fun y31 => bif y31 then (way_Same [y11.2.1] [(⟨0, 1, 0, 2, true, []⟩ : Mail)]).bind fun y37 => some y37 else some false else some false
theorem wandererlaw_posted_c (w0 : World) (M : BS) (hM : ∀ b, M b → b < w0.heap.size)  (r : Bool) (hs : wandererlaw_posted = some r) :
    Calls Try.prog 21 #[] w0 (fun e w' => Grow w0 w' ∧ e = .returned (.bool r)) := by
  refine calls_start (args := []) Try.func21 rfl Try.ntmps21 (Nat.le_of_ble_eq_true rfl) ?_
  have h := SH.init hM
  refine wc_seq ?_
  refine wc_region ?_
  refine wl_ok (r_assign (v := (.bool (false))) rfl) ?_
  refine wl_nil ?_
  refine then_normal ?_
  refine wc_seq ?_
  refine wc_region ?_
  refine wl_ok (r_build (pv := [(1, (.int .i64 (1))), (3, (.int .i64 (2))), (4, (.bool (true)))]) (out := [(.int .i64 (0)), (.int .i64 (1)), (.int .i64 (0)), (.int .i64 (2)), (.bool (true)), (.slice none 0 0)]) Struct38 rfl ⟨1, 1, [(.int .i64 (1))], rfl, rfl, rfl, Nat.le_of_ble_eq_true rfl, ⟨3, 1, [(.int .i64 (2))], rfl, rfl, rfl, Nat.le_of_ble_eq_true rfl, ⟨4, 1, [(.bool (true))], rfl, rfl, rfl, Nat.le_of_ble_eq_true rfl, rfl⟩⟩⟩) ?_
  refine w_allocN h 1 Many38 fun w b1 h => ?_
  refine w_stN (vs := [(.int .i64 (0)), (.int .i64 (1)), (.int .i64 (0)), (.int .i64 (2)), (.bool (true)), (.slice none 0 0)]) h 1 [(.int .i64 (0)), (.int .i64 (1)), (.int .i64 (0)), (.int .i64 (2)), (.bool (true)), (.slice none 0 0)] rfl Many38 rfl rfl rfl rfl rfl (ones_cons rfl (ones_cons rfl (ones_cons rfl (ones_cons rfl (ones_cons rfl (ones_cons rfl ones_nil)))))) fun w h => ?_
  refine wl_nil ?_
  refine then_normal ?_
  refine wc_seq ?_
  refine wc_region ?_
  refine w_bs (R := rInt) (vs := [(.int .i64 (4))]) (xs := [4]) h 2 ElemOf24 rfl rfl rfl ⟨rfl, trivial⟩ rfl fun w u2 h => ?_
  refine wl_ok (r_build (pv := [(0, (.int .i64 (1))), (2, (.int .i64 (2))), (3, (.int .i64 (3))), (5, u2)]) (out := [(.int .i64 (1)), (.int .i64 (0)), (.int .i64 (2)), (.int .i64 (3)), (.bool (false)), u2]) Struct38 rfl ⟨0, 1, [(.int .i64 (1))], rfl, rfl, rfl, Nat.le_of_ble_eq_true rfl, ⟨2, 1, [(.int .i64 (2))], rfl, rfl, rfl, Nat.le_of_ble_eq_true rfl, ⟨3, 1, [(.int .i64 (3))], rfl, rfl, rfl, Nat.le_of_ble_eq_true rfl, ⟨5, 1, [u2], rfl, (toList_of_one (h.ownAt 2 rfl).one), rfl, Nat.le_of_ble_eq_true rfl, rfl⟩⟩⟩⟩) ?_
  refine w_allocN h 3 Many38 fun w b3 h => ?_
  refine w_stN (vs := [(.int .i64 (1)), (.int .i64 (0)), (.int .i64 (2)), (.int .i64 (3)), (.bool (false)), u2]) h 3 [(.int .i64 (1)), (.int .i64 (0)), (.int .i64 (2)), (.int .i64 (3)), (.bool (false)), u2] rfl Many38 rfl rfl rfl rfl rfl (ones_cons rfl (ones_cons rfl (ones_cons rfl (ones_cons rfl (ones_cons rfl (ones_cons (h.ownAt 2 rfl).one ones_nil)))))) fun w h => ?_
  refine wl_nil ?_
  refine then_normal ?_
  refine wc_seq ?_
  refine wc_region ?_
  refine wl_ok (r_ldBN (vs := [(.int .i64 (0)), (.int .i64 (1)), (.int .i64 (0)), (.int .i64 (2)), (.bool (true)), (.slice none 0 0)]) h 1 rfl Many38 rfl rfl rfl) ?_
  refine w_bs (R := rMail) (vs := [(.agg #[(.int .i64 (0)), (.int .i64 (1)), (.int .i64 (0)), (.int .i64 (2)), (.bool (true)), (.slice none 0 0)])]) (xs := [(⟨0, 1, 0, 2, true, []⟩ : Mail)]) h 4 ElemOf36 rfl rfl rfl ⟨⟨_, rfl, Rd2.nil⟩, trivial⟩ rfl fun w u4 h => ?_
  refine wl_ok (r_ldBN (vs := [(.int .i64 (1)), (.int .i64 (0)), (.int .i64 (2)), (.int .i64 (3)), (.bool (false)), u2]) h 3 rfl Many38 rfl rfl rfl) ?_
  replace h := h.freeze 2 rfl
  obtain ⟨y5, e6, hs⟩ := o_bind hs
  refine w_call fnOk18 rfl rfl (way_Send_c _ _ h.lt u4 [(⟨0, 1, 0, 2, true, []⟩ : Mail)] (h.ownS 4 rfl) (⟨1, 0, 2, 3, false, [4]⟩ : Mail) u2 (h.rdAt 2 rfl) _ e6) ?_
  rintro _ w ⟨k10, u7, rfl, g8, g9⟩
  refine ⟨_, rfl, ?_⟩
  replace h := h.gotOwn 5 k10 g8 g9
  refine wl_ok (r_move (v := (.tuple #[u7, (.int .i64 (y5.2))])) rfl) ?_
  refine wl_ok (r_extract rfl rfl) ?_
  refine wl_ok (r_extract rfl rfl) ?_
  refine wl_ok (r_assign (v := u7) rfl) ?_
  refine wl_ok (r_assign (v := (.int .i64 (y5.2))) rfl) ?_
  refine wl_nil ?_
  refine then_normal ?_
  refine wc_seq ?_
  refine wc_region ?_
  refine wl_ok (r_move (v := u7) rfl) ?_
  obtain ⟨y11, e12, hs⟩ := o_bind hs
  refine w_call fnOk19 rfl rfl (way_Take_c _ _ h.lt u7 y5.1 (h.ownS 5 rfl) 0 false _ e12) ?_
  rintro _ w ⟨k18, u13, u16, rfl, g14, g15, g17⟩
  refine ⟨_, rfl, ?_⟩
  replace h := h.gotOwn 6 k18 g14 g15
  replace h := h.knowRd 7 g17.upO
  refine wl_ok (r_move (v := (.tuple #[u13, (.agg #[(.int .i64 (y11.2.1.from_)), (.int .i64 (y11.2.1.to_)), (.int .i64 (y11.2.1.co)), (.int .i64 (y11.2.1.epoch)), (.bool (y11.2.1.taken)), u16]), (.int .i64 (y11.2.2))])) rfl) ?_
  refine wl_ok (r_extract rfl rfl) ?_
  refine wl_ok (r_extract rfl rfl) ?_
  refine wl_ok (r_extract rfl rfl) ?_
  refine w_allocN h 8 Many38 fun w b19 h => ?_
  refine wl_ok (r_assign (v := u13) rfl) ?_
  refine w_stN (vs := [(.int .i64 (y11.2.1.from_)), (.int .i64 (y11.2.1.to_)), (.int .i64 (y11.2.1.co)), (.int .i64 (y11.2.1.epoch)), (.bool (y11.2.1.taken)), u16]) h 8 [(.int .i64 (y11.2.1.from_)), (.int .i64 (y11.2.1.to_)), (.int .i64 (y11.2.1.co)), (.int .i64 (y11.2.1.epoch)), (.bool (y11.2.1.taken)), u16] rfl Many38 rfl rfl rfl rfl rfl (ones_cons rfl (ones_cons rfl (ones_cons rfl (ones_cons rfl (ones_cons rfl (ones_cons (h.rdAt 7 rfl).one ones_nil)))))) fun w h => ?_
  refine wl_ok (r_assign (v := (.int .i64 (y11.2.2))) rfl) ?_
  refine wl_nil ?_
  refine then_normal ?_
  refine wc_seq ?_
  refine wc_region ?_
  refine wl_ok (r_move (v := u13) rfl) ?_
  obtain ⟨y20, e21, hs⟩ := o_bind hs
  refine w_call fnOk19 rfl rfl (way_Take_c _ _ h.lt u13 y11.1 (h.ownS 6 rfl) 1 true _ e21) ?_
  rintro _ w ⟨k27, u22, u25, rfl, g23, g24, g26⟩
  refine ⟨_, rfl, ?_⟩
  replace h := h.gotOwn 9 k27 g23 g24
  replace h := h.knowRd 10 g26.upO
  refine wl_ok (r_move (v := (.tuple #[u22, (.agg #[(.int .i64 (y20.2.1.from_)), (.int .i64 (y20.2.1.to_)), (.int .i64 (y20.2.1.co)), (.int .i64 (y20.2.1.epoch)), (.bool (y20.2.1.taken)), u25]), (.int .i64 (y20.2.2))])) rfl) ?_
  refine wl_ok (r_extract rfl rfl) ?_
  refine wl_ok (r_extract rfl rfl) ?_
  refine wl_ok (r_extract rfl rfl) ?_
  refine w_allocN h 11 Many38 fun w b28 h => ?_
  refine wl_ok (r_assign (v := u22) rfl) ?_
  refine w_stN (vs := [(.int .i64 (y20.2.1.from_)), (.int .i64 (y20.2.1.to_)), (.int .i64 (y20.2.1.co)), (.int .i64 (y20.2.1.epoch)), (.bool (y20.2.1.taken)), u25]) h 11 [(.int .i64 (y20.2.1.from_)), (.int .i64 (y20.2.1.to_)), (.int .i64 (y20.2.1.co)), (.int .i64 (y20.2.1.epoch)), (.bool (y20.2.1.taken)), u25] rfl Many38 rfl rfl rfl rfl rfl (ones_cons rfl (ones_cons rfl (ones_cons rfl (ones_cons rfl (ones_cons rfl (ones_cons (h.rdAt 10 rfl).one ones_nil)))))) fun w h => ?_
  refine wl_ok (r_assign (v := (.int .i64 (y20.2.2))) rfl) ?_
  refine wl_nil ?_
  refine then_normal ?_
  refine wc_seq ?_
  refine wc_region ?_
  refine wl_ok (r_move (v := (.int .i64 (y5.2))) rfl) ?_
  refine wl_ok (r_eql rfl rfl) ?_
  refine wl_ok (r_move (v := (.bool (decide ((y5.2 : Int) = 0)))) rfl) ?_
  refine wl_gd0 rfl rfl (fun q => r_move (v := (.int .i64 (y11.2.2))) rfl) ?_
  refine wl_gd0 rfl rfl (fun q => r_eql (gvt q) rfl) ?_
  refine wl_ok (r_pand rfl rfl evc) ?_
  refine wl_ok (r_move (v := (.bool ((decide ((y5.2 : Int) = 0) && decide ((y11.2.2 : Int) = 0))))) rfl) ?_
  refine wl_gd0 rfl rfl (fun q => r_move (v := (.int .i64 (y20.2.2))) rfl) ?_
  refine wl_gd0 rfl rfl (fun q => r_eql (gvt q) rfl) ?_
  refine wl_ok (r_pand rfl rfl evc) ?_
  refine wl_ok (r_move (v := (.bool (((decide ((y5.2 : Int) = 0) && decide ((y11.2.2 : Int) = 0)) && decide ((y20.2.2 : Int) = 5))))) rfl) ?_
  refine wl_gd0 rfl rfl (fun q => r_move (v := u7) rfl) ?_
  refine wl_gd0 rfl rfl (fun q => r_len SliceOf36 (gvt q) (h.ownS 5 rfl)) ?_
  refine wl_gd0 rfl rfl (fun q => r_eql (gvt q) rfl) ?_
  refine wl_ok (r_pand rfl rfl evc) ?_
  refine wl_ok (r_move (v := (.bool ((((decide ((y5.2 : Int) = 0) && decide ((y11.2.2 : Int) = 0)) && decide ((y20.2.2 : Int) = 5)) && decide (((y5.1.length : Int) : Int) = 2))))) rfl) ?_
  refine c_split (b := (((decide ((y5.2 : Int) = 0) && decide ((y11.2.2 : Int) = 0)) && decide ((y20.2.2 : Int) = 5)) && decide (((y5.1.length : Int) : Int) = 2))) hs (fun c29 hs => ?_) (fun c29 hs => ?_)
  · skip
    refine wl_on rfl (congrArg Value.bool c29) ?_
    refine wl_ok (r_move (v := u13) rfl) ?_
    refine wl_on rfl (congrArg Value.bool c29) ?_
    refine wl_ok (r_ldBN (vs := [(.int .i64 (1)), (.int .i64 (0)), (.int .i64 (2)), (.int .i64 (3)), (.bool (false)), u2]) h 3 rfl Many38 rfl rfl rfl) ?_
    refine wl_on rfl (congrArg Value.bool c29) ?_
    refine w_bs (R := rMail) (vs := [(.agg #[(.int .i64 (1)), (.int .i64 (0)), (.int .i64 (2)), (.int .i64 (3)), (.bool (false)), u2])]) (xs := [(⟨1, 0, 2, 3, false, [4]⟩ : Mail)]) h 12 ElemOf36 rfl rfl rfl ⟨⟨_, rfl, (h.rdAt 2 rfl)⟩, trivial⟩ rfl fun w u30 h => ?_
    refine wl_on rfl (congrArg Value.bool c29) ?_
    obtain ⟨y31, e32, hs⟩ := o_bind hs
    refine w_call fnOk23 rfl rfl (way_Same_c _ _ h.lt u13 y11.1 (h.ownS 6 rfl) u30 [(⟨1, 0, 2, 3, false, [4]⟩ : Mail)] (h.ownS 12 rfl) _ e32) ?_
    rintro _ w ⟨k33, rfl⟩
    refine ⟨_, rfl, ?_⟩
    replace h := h.grow k33
    refine wl_ok (r_pick (b := true) (v := (.bool (y31))) (congrArg Value.bool c29) rfl) ?_
    refine wl_ok (r_move (v := (.bool (y31))) rfl) ?_
    refine c_split (b := y31) hs (fun c34 hs => ?_) (fun c34 hs => ?_)
    · skip
      refine wl_on rfl (congrArg Value.bool c34) ?_
      refine wl_ok (r_ldBN (vs := [(.int .i64 (y11.2.1.from_)), (.int .i64 (y11.2.1.to_)), (.int .i64 (y11.2.1.co)), (.int .i64 (y11.2.1.epoch)), (.bool (y11.2.1.taken)), u16]) h 8 rfl Many38 rfl rfl rfl) ?_
      refine wl_on rfl (congrArg Value.bool c34) ?_
      refine w_bs (R := rMail) (vs := [(.agg #[(.int .i64 (y11.2.1.from_)), (.int .i64 (y11.2.1.to_)), (.int .i64 (y11.2.1.co)), (.int .i64 (y11.2.1.epoch)), (.bool (y11.2.1.taken)), u16])]) (xs := [y11.2.1]) h 13 ElemOf36 rfl rfl rfl ⟨⟨_, rfl, (h.rdAt 7 rfl)⟩, trivial⟩ rfl fun w u35 h => ?_
      refine wl_on rfl (congrArg Value.bool c34) ?_
      refine wl_ok (r_ldBN (vs := [(.int .i64 (0)), (.int .i64 (1)), (.int .i64 (0)), (.int .i64 (2)), (.bool (true)), (.slice none 0 0)]) h 1 rfl Many38 rfl rfl rfl) ?_
      refine wl_on rfl (congrArg Value.bool c34) ?_
      refine w_bs (R := rMail) (vs := [(.agg #[(.int .i64 (0)), (.int .i64 (1)), (.int .i64 (0)), (.int .i64 (2)), (.bool (true)), (.slice none 0 0)])]) (xs := [(⟨0, 1, 0, 2, true, []⟩ : Mail)]) h 14 ElemOf36 rfl rfl rfl ⟨⟨_, rfl, Rd2.nil⟩, trivial⟩ rfl fun w u36 h => ?_
      refine wl_on rfl (congrArg Value.bool c34) ?_
      obtain ⟨y37, e38, hs⟩ := o_bind hs
      refine w_call fnOk23 rfl rfl (way_Same_c _ _ h.lt u35 [y11.2.1] (h.ownS 13 rfl) u36 [(⟨0, 1, 0, 2, true, []⟩ : Mail)] (h.ownS 14 rfl) _ e38) ?_
      rintro _ w ⟨k39, rfl⟩
      refine ⟨_, rfl, ?_⟩
      replace h := h.grow k39
      refine wl_ok (r_pick (b := true) (v := (.bool (y37))) (congrArg Value.bool c34) rfl) ?_
      refine wl_ok (r_assign (v := (.bool (y37))) rfl) ?_
      refine wl_nil ?_
      refine then_normal ?_
      refine wc_ret ?_
      refine fin1 (v := (.bool (y37))) Try.results21 rfl ?_
      obtain rfl := Option.some.inj hs
      exact ⟨h.grown, rfl⟩
    · skip
      refine wl_off (b' := false) rfl (congrArg Value.bool c34) rfl ?_
      refine wl_off (b' := false) rfl (congrArg Value.bool c34) rfl ?_
      refine wl_off (b' := false) rfl (congrArg Value.bool c34) rfl ?_
      refine wl_off (b' := false) rfl (congrArg Value.bool c34) rfl ?_
      refine wl_off (b' := false) rfl (congrArg Value.bool c34) rfl ?_
      refine wl_ok (r_pick (b := false) (v := (.bool (false))) (congrArg Value.bool c34) rfl) ?_
      refine wl_ok (r_assign (v := (.bool (false))) rfl) ?_
      refine wl_nil ?_
      refine then_normal ?_
      refine wc_ret ?_
      refine fin1 (v := (.bool (false))) Try.results21 rfl ?_
      obtain rfl := Option.some.inj hs
      exact ⟨h.grown, rfl⟩
  · skip
    refine wl_off (b' := false) rfl (congrArg Value.bool c29) rfl ?_
    refine wl_off (b' := false) rfl (congrArg Value.bool c29) rfl ?_
    refine wl_off (b' := false) rfl (congrArg Value.bool c29) rfl ?_
    refine wl_off (b' := false) rfl (congrArg Value.bool c29) rfl ?_
    refine wl_ok (r_pick (b := false) (v := (.bool (false))) (congrArg Value.bool c29) rfl) ?_
    refine wl_ok (r_move (v := (.bool (false))) rfl) ?_
    refine wl_off (b' := false) rfl rfl rfl ?_
    refine wl_off (b' := false) rfl rfl rfl ?_
    refine wl_off (b' := false) rfl rfl rfl ?_
    refine wl_off (b' := false) rfl rfl rfl ?_
    refine wl_off (b' := false) rfl rfl rfl ?_
    refine wl_ok (r_pick (b := false) (v := (.bool (false))) rfl rfl) ?_
    refine wl_ok (r_assign (v := (.bool (false))) rfl) ?_
    refine wl_nil ?_
    refine then_normal ?_
    refine wc_ret ?_
    refine fin1 (v := (.bool (false))) Try.results21 rfl ?_
    obtain rfl := Option.some.inj hs
    exact ⟨h.grown, rfl⟩
def wandererref_SameMail_j22 (nx6 : Unit → Option Bool) (x27 : Bool) : Option Bool :=
  bif x27 then some false else nx6 ()
def wandererref_SameMail_b23 (b : List Mail) (i3 : Int) (x4 : Mail) (s : Unit) (nx6 : Unit → Option Bool) : Option Bool :=
  (idx b i3).bind fun x17 => bif ((((decide ((x4.from_ : Int) = x17.from_) && decide ((x4.to_ : Int) = x17.to_)) && decide ((x4.co : Int) = x17.co)) && decide ((x4.epoch : Int) = x17.epoch)) && (x4.taken == x17.taken)) then (slices_Equal_int x4.image x17.image).bind fun y32 => wandererref_SameMail_j22 nx6 (!y32) else wandererref_SameMail_j22 nx6 true
def wandererref_SameMail_k24 (s : Unit) : Option Bool :=
  some true
def wandererref_SameMail (a : List Mail) (b : List Mail) : Option Bool :=
  bif decide (((a.length : Int) : Int) ≠ (b.length : Int)) then some false else eachI (wandererref_SameMail_b23 b) wandererref_SameMail_k24 0 a ()
theorem wandererref_SameMail_c (w0 : World) (M : BS) (hM : ∀ b, M b → b < w0.heap.size) (va : Value) (a : List Mail) (ha : Rd2 rMail w0 BE M va a) (vb : Value) (b : List Mail) (hb : Rd2 rMail w0 BE M vb b) (r : Bool) (hs : wandererref_SameMail a b = some r) :
    Calls Try.prog 24 #[va, vb] w0 (fun e w' => Grow w0 w' ∧ e = .returned (.bool r)) := by
  refine calls_start (args := [va, vb]) Try.func24 rfl Try.ntmps24 (Nat.le_of_ble_eq_true rfl) ?_
  have h := SH.init hM
  replace h := h.argSr 1 ha none_own
  replace h := h.argSr 2 hb (hupd_own_sr none_own)
  have hl_a := ha.len_le
  have hl_b := hb.len_le
  refine wc_seq ?_
  refine wc_region ?_
  refine wl_ok (r_assign (v := (.bool (false))) rfl) ?_
  refine wl_nil ?_
  refine then_normal ?_
  refine wc_seq ?_
  refine wc_region ?_
  refine wl_ok (r_move (v := va) rfl) ?_
  refine wl_ok (r_move (v := vb) rfl) ?_
  refine w_callIn (args := [va, vb, (.func (.func 67) #[] #[])]) fnOk65 rfl rfl ?_
  refine calls_start (args := [va, vb, (.func (.func 67) #[] #[])]) Try.func65 rfl Try.ntmps65 (Nat.le_of_ble_eq_true rfl) ?_
  refine wc_seq ?_
  refine wc_region ?_
  refine wl_ok (r_assign (v := (.bool (false))) rfl) ?_
  refine wl_nil ?_
  refine then_normal ?_
  refine wc_seq ?_
  refine wc_seq ?_
  refine wc_region ?_
  refine wl_ok (r_move (v := va) rfl) ?_
  refine wl_ok (r_len SliceOf36 rfl (h.srS 1 rfl)) ?_
  refine wl_ok (r_move (v := vb) rfl) ?_
  refine wl_ok (r_len SliceOf36 rfl (h.srS 2 rfl)) ?_
  refine wl_ok (r_neq rfl rfl) ?_
  refine wl_nil ?_
  refine then_normal ?_
  refine wc_ifb hs rfl (fun c1 hs => ?_) (fun c1 hs => ?_)
  · skip
    refine wc_seq ?_
    refine wc_region ?_
    refine wl_ok (r_assign (v := (.bool (false))) rfl) ?_
    refine wl_nil ?_
    refine then_normal ?_
    refine wc_ret ?_
    refine then_ret ?_
    refine fin1 (v := (.bool (false))) Try.results65 rfl ?_
    refine ⟨_, rfl, ?_⟩
    refine wl_ok (r_assign (v := (.bool (false))) rfl) ?_
    refine wl_nil ?_
    refine then_normal ?_
    refine wc_ret ?_
    refine fin1 (v := (.bool (false))) Try.results24 rfl ?_
    obtain rfl := Option.some.inj hs
    exact ⟨h.grown, rfl⟩
  · skip
    refine wc_skip ?_
    refine then_normal ?_
    refine wc_seq ?_
    refine wc_seq ?_
    refine wc_region ?_
    refine wl_ok (r_move (v := va) rfl) ?_
    refine wl_ok (r_len SliceOf36 rfl (h.srS 1 rfl)) ?_
    refine wl_ok (r_move (v := (.int .i64 (0))) rfl) ?_
    refine wl_nil ?_
    refine then_normal ?_
    refine wc_block ?_
    refine wc_lp (σ := Nat × Int) (inl [6, 7, 8, 9, 17, 18, 19, 20, 21, 22, 23, 24, 25, 26, 27, 28, 29, 30, 31]) (fun ⟨k2, i3⟩ => [(17, (.int .i64 (i3)))]) (fun ⟨k2, i3⟩ w => SH w0 M BE w (hset [(1, .sr rMail va a), (2, .sr rMail vb b)]) ∧ i3 = (k2 : Int) ∧ eachI (wandererref_SameMail_b23 b) wandererref_SameMail_k24 i3 (a.drop k2) () = some r) (fun ⟨k2, i3⟩ => a.length - k2) ⟨0, 0⟩ ⟨rfl, trivial⟩ ?_ ?_
    · exact ⟨h.cn _, rfl, hs⟩
    · rintro ⟨k2, i3⟩ w junk ⟨h, hik, hs⟩
      refine wc_seq (wc_region ?_)
      refine wl_ok (r_lss rfl rfl) ?_
      refine wl_nil (then_normal ?_)
      refine wc_seq ?_
      refine wc_if rfl (fun e7 => ?_) (fun e7 => ?_)
      · refine wc_skip (then_normal ?_)
        obtain ⟨x4, e8a, e8b⟩ := drop_lt (hik ▸ e7)
        rw [e8b, eachI_cons] at hs
        generalize hnx6 : eachI (wandererref_SameMail_b23 b) wandererref_SameMail_k24 (i3 + 1) (a.drop (k2 + 1)) = nx6 at hs
        have e8r := nat_rng ((h.srS 1 rfl)).len_le hik e7
        refine wc_seq ?_
        refine wc_block ?_
        refine wc_seq ?_
        refine wc_region ?_
        refine wl_ok (r_move (v := (.int .i64 (i3))) rfl) ?_
        obtain ⟨b10, o11, cs12, h, r13, i9⟩ := h.ixS 1 3 rfl SliceOf36 rfl (nat_nn hik) (get_nat hik e8a)
        obtain ⟨u14, rfl, g15⟩ := rMail_open r13
        replace h := h.knowRd 4 g15.up
        refine wl_ok (i9 _ _ _ _ _ _ _ _ _ rfl rfl) ?_
        refine wl_ok (r_ldPN (k := 0) (vs := [(.int .i64 (x4.from_)), (.int .i64 (x4.to_)), (.int .i64 (x4.co)), (.int .i64 (x4.epoch)), (.bool (x4.taken)), u14]) h 3 rfl Many38 rfl rfl rfl (Nat.le_of_ble_eq_true rfl)) ?_
        refine w_allocN h 5 Many38 fun w b16 h => ?_
        refine wl_ok (r_assign (v := (.int .i64 (i3))) rfl) ?_
        refine w_stN (vs := [(.int .i64 (x4.from_)), (.int .i64 (x4.to_)), (.int .i64 (x4.co)), (.int .i64 (x4.epoch)), (.bool (x4.taken)), u14]) h 5 [(.int .i64 (x4.from_)), (.int .i64 (x4.to_)), (.int .i64 (x4.co)), (.int .i64 (x4.epoch)), (.bool (x4.taken)), u14] rfl Many38 rfl rfl rfl rfl rfl (ones_cons rfl (ones_cons rfl (ones_cons rfl (ones_cons rfl (ones_cons rfl (ones_cons (h.rdAt 4 rfl).one ones_nil)))))) fun w h => ?_
        refine wl_nil ?_
        refine then_normal ?_
        refine wc_seq ?_
        refine wc_region ?_
        refine wl_ok (r_move (v := vb) rfl) ?_
        refine wl_ok (r_move (v := (.int .i64 (i3))) rfl) ?_
        obtain ⟨x17, e18, hs⟩ := o_bind hs
        obtain ⟨b20, o21, cs22, h, r23, i19⟩ := h.ixS 2 6 rfl SliceOf36 rfl (o_idx e18).1 (o_idx e18).2
        obtain ⟨u24, rfl, g25⟩ := rMail_open r23
        replace h := h.knowRd 7 g25.up
        refine wl_ok (i19 _ _ _ _ _ _ _ _ _ rfl rfl) ?_
        refine wl_ok (r_ldPN (k := 0) (vs := [(.int .i64 (x17.from_)), (.int .i64 (x17.to_)), (.int .i64 (x17.co)), (.int .i64 (x17.epoch)), (.bool (x17.taken)), u24]) h 6 rfl Many38 rfl rfl rfl (Nat.le_of_ble_eq_true rfl)) ?_
        refine w_allocN h 8 Many38 fun w b26 h => ?_
        refine w_stN (vs := [(.int .i64 (x17.from_)), (.int .i64 (x17.to_)), (.int .i64 (x17.co)), (.int .i64 (x17.epoch)), (.bool (x17.taken)), u24]) h 8 [(.int .i64 (x17.from_)), (.int .i64 (x17.to_)), (.int .i64 (x17.co)), (.int .i64 (x17.epoch)), (.bool (x17.taken)), u24] rfl Many38 rfl rfl rfl rfl rfl (ones_cons rfl (ones_cons rfl (ones_cons rfl (ones_cons rfl (ones_cons rfl (ones_cons (h.rdAt 7 rfl).one ones_nil)))))) fun w h => ?_
        refine wl_nil ?_
        refine then_normal ?_
        refine wc_join (σ := Bool) (inl [26, 27, 28, 29, 30]) (fun x27 => [(30, (.bool (x27)))]) (fun x27 w => SH w0 M BE w (hset [(1, .sr rMail va a), (2, .sr rMail vb b)]) ∧ wandererref_SameMail_j22 nx6 x27 = some r) ?_ ?_
        · rintro x27 w junk ⟨h, hs⟩
          refine wc_ifb hs rfl (fun c28 hs => ?_) (fun c28 hs => ?_)
          · skip
            refine wc_seq ?_
            refine wc_region ?_
            refine wl_ok (r_assign (v := (.bool (false))) rfl) ?_
            refine wl_nil ?_
            refine then_normal ?_
            refine wc_ret ?_
            refine inBlock_ret ?_
            refine then_ret ?_
            refine then_ret ?_
            refine inBlock_ret ?_
            refine then_ret ?_
            refine fin1 (v := (.bool (false))) Try.results65 rfl ?_
            refine ⟨_, rfl, ?_⟩
            refine wl_ok (r_assign (v := (.bool (false))) rfl) ?_
            refine wl_nil ?_
            refine then_normal ?_
            refine wc_ret ?_
            refine fin1 (v := (.bool (false))) Try.results24 rfl ?_
            obtain rfl := Option.some.inj hs
            exact ⟨h.grown, rfl⟩
          · skip
            refine wc_skip ?_
            refine inBlock_normal ?_
            refine then_normal ?_
            refine wc_region ?_
            refine wl_ok (r_add rfl rfl e8r) ?_
            refine wl_ok (r_move (v := (.int .i64 ((i3 + 1)))) rfl) ?_
            refine wl_nil ?_
            refine then_loop ?_
            subst hnx6
            exact lend ⟨k2 + 1, i3 + 1⟩ ⟨h.cn _, by omega, hs⟩ (by have := of_decide_eq_true e7; dsimp only; omega)
        · skip
          refine wc_region ?_
          refine wl_ok (r_move (v := (.func (.func 67) #[] #[])) rfl) ?_
          refine wl_ok (r_ldBN (vs := [(.int .i64 (x4.from_)), (.int .i64 (x4.to_)), (.int .i64 (x4.co)), (.int .i64 (x4.epoch)), (.bool (x4.taken)), u14]) h 5 rfl Many38 rfl rfl rfl) ?_
          refine wl_ok (r_ldBN (vs := [(.int .i64 (x17.from_)), (.int .i64 (x17.to_)), (.int .i64 (x17.co)), (.int .i64 (x17.epoch)), (.bool (x17.taken)), u24]) h 8 rfl Many38 rfl rfl rfl) ?_
          refine w_callIn (args := [(.agg #[(.int .i64 (x4.from_)), (.int .i64 (x4.to_)), (.int .i64 (x4.co)), (.int .i64 (x4.epoch)), (.bool (x4.taken)), u14]), (.agg #[(.int .i64 (x17.from_)), (.int .i64 (x17.to_)), (.int .i64 (x17.co)), (.int .i64 (x17.epoch)), (.bool (x17.taken)), u24])]) fnOk67 rfl rfl ?_
          refine calls_start (args := [(.agg #[(.int .i64 (x4.from_)), (.int .i64 (x4.to_)), (.int .i64 (x4.co)), (.int .i64 (x4.epoch)), (.bool (x4.taken)), u14]), (.agg #[(.int .i64 (x17.from_)), (.int .i64 (x17.to_)), (.int .i64 (x17.co)), (.int .i64 (x17.epoch)), (.bool (x17.taken)), u24])]) Try.func67 rfl Try.ntmps67 (Nat.le_of_ble_eq_true rfl) ?_
          refine wc_seq ?_
          refine wc_region ?_
          refine w_box (cs := [(.int .i64 (x4.from_)), (.int .i64 (x4.to_)), (.int .i64 (x4.co)), (.int .i64 (x4.epoch)), (.bool (x4.taken)), u14]) h 9 rfl rfl fun w b29 h => ?_
          refine w_box (cs := [(.int .i64 (x17.from_)), (.int .i64 (x17.to_)), (.int .i64 (x17.co)), (.int .i64 (x17.epoch)), (.bool (x17.taken)), u24]) h 10 rfl rfl fun w b30 h => ?_
          refine wl_ok (r_assign (v := (.bool (false))) rfl) ?_
          refine wl_nil ?_
          refine then_normal ?_
          refine wc_seq ?_
          refine wc_region ?_
          refine wl_ok (r_fieldAddr Fld38x0 rfl) ?_
          refine wl_ok (r_ldB h 9 rfl One3 rfl rfl) ?_
          refine wl_ok (r_fieldAddr Fld38x0 rfl) ?_
          refine wl_ok (r_ldB h 10 rfl One3 rfl rfl) ?_
          refine wl_ok (r_eql rfl rfl) ?_
          refine wl_ok (r_move (v := (.bool (decide ((x4.from_ : Int) = x17.from_)))) rfl) ?_
          refine wl_gd0 rfl rfl (fun q => r_fieldAddr Fld38x1 rfl) ?_
          refine wl_gd0 rfl rfl (fun q => r_ldB h 9 rfl One3 (gvt q) rfl) ?_
          refine wl_gd0 rfl rfl (fun q => r_fieldAddr Fld38x1 rfl) ?_
          refine wl_gd0 rfl rfl (fun q => r_ldB h 10 rfl One3 (gvt q) rfl) ?_
          refine wl_gd0 rfl rfl (fun q => r_eql (gvt q) (gvt q)) ?_
          refine wl_ok (r_pand rfl rfl evc) ?_
          refine wl_ok (r_move (v := (.bool ((decide ((x4.from_ : Int) = x17.from_) && decide ((x4.to_ : Int) = x17.to_))))) rfl) ?_
          refine wl_gd0 rfl rfl (fun q => r_fieldAddr Fld38x2 rfl) ?_
          refine wl_gd0 rfl rfl (fun q => r_ldB h 9 rfl One3 (gvt q) rfl) ?_
          refine wl_gd0 rfl rfl (fun q => r_fieldAddr Fld38x2 rfl) ?_
          refine wl_gd0 rfl rfl (fun q => r_ldB h 10 rfl One3 (gvt q) rfl) ?_
          refine wl_gd0 rfl rfl (fun q => r_eql (gvt q) (gvt q)) ?_
          refine wl_ok (r_pand rfl rfl evc) ?_
          refine wl_ok (r_move (v := (.bool (((decide ((x4.from_ : Int) = x17.from_) && decide ((x4.to_ : Int) = x17.to_)) && decide ((x4.co : Int) = x17.co))))) rfl) ?_
          refine wl_gd0 rfl rfl (fun q => r_fieldAddr Fld38x3 rfl) ?_
          refine wl_gd0 rfl rfl (fun q => r_ldB h 9 rfl One3 (gvt q) rfl) ?_
          refine wl_gd0 rfl rfl (fun q => r_fieldAddr Fld38x3 rfl) ?_
          refine wl_gd0 rfl rfl (fun q => r_ldB h 10 rfl One3 (gvt q) rfl) ?_
          refine wl_gd0 rfl rfl (fun q => r_eql (gvt q) (gvt q)) ?_
          refine wl_ok (r_pand rfl rfl evc) ?_
          refine wl_ok (r_move (v := (.bool ((((decide ((x4.from_ : Int) = x17.from_) && decide ((x4.to_ : Int) = x17.to_)) && decide ((x4.co : Int) = x17.co)) && decide ((x4.epoch : Int) = x17.epoch))))) rfl) ?_
          refine wl_gd0 rfl rfl (fun q => r_fieldAddr Fld38x4 rfl) ?_
          refine wl_gd0 rfl rfl (fun q => r_ldB h 9 rfl One4 (gvt q) rfl) ?_
          refine wl_gd0 rfl rfl (fun q => r_fieldAddr Fld38x4 rfl) ?_
          refine wl_gd0 rfl rfl (fun q => r_ldB h 10 rfl One4 (gvt q) rfl) ?_
          refine wl_gd0 rfl rfl (fun q => r_eqlb Try.underlying4 (gvt q) (gvt q)) ?_
          refine wl_ok (r_pand rfl rfl evc) ?_
          refine wl_ok (r_move (v := (.bool (((((decide ((x4.from_ : Int) = x17.from_) && decide ((x4.to_ : Int) = x17.to_)) && decide ((x4.co : Int) = x17.co)) && decide ((x4.epoch : Int) = x17.epoch)) && (x4.taken == x17.taken))))) rfl) ?_
          refine c_split (b := ((((decide ((x4.from_ : Int) = x17.from_) && decide ((x4.to_ : Int) = x17.to_)) && decide ((x4.co : Int) = x17.co)) && decide ((x4.epoch : Int) = x17.epoch)) && (x4.taken == x17.taken))) hs (fun c31 hs => ?_) (fun c31 hs => ?_)
          · skip
            refine wl_on rfl (congrArg Value.bool c31) ?_
            refine wl_ok (r_fieldAddr Fld38x5 rfl) ?_
            refine wl_on rfl (congrArg Value.bool c31) ?_
            refine wl_ok (r_ldB h 9 rfl One24 rfl rfl) ?_
            refine wl_on rfl (congrArg Value.bool c31) ?_
            refine wl_ok (r_fieldAddr Fld38x5 rfl) ?_
            refine wl_on rfl (congrArg Value.bool c31) ?_
            refine wl_ok (r_ldB h 10 rfl One24 rfl rfl) ?_
            refine wl_on rfl (congrArg Value.bool c31) ?_
            obtain ⟨y32, e33, hs⟩ := o_bind hs
            refine w_call fnOk14 rfl rfl (slices_Equal_int_c _ _ h.lt u14 x4.image (h.rdS 4 rfl) u24 x17.image (h.rdS 7 rfl) _ e33) ?_
            rintro _ w ⟨k34, rfl⟩
            refine ⟨_, rfl, ?_⟩
            replace h := h.grow k34
            refine wl_ok (r_pick (b := true) (v := (.bool (y32))) (congrArg Value.bool c31) rfl) ?_
            refine wl_ok (r_assign (v := (.bool (y32))) rfl) ?_
            refine wl_nil ?_
            refine then_normal ?_
            refine wc_ret ?_
            refine fin1 (v := (.bool (y32))) Try.results67 rfl ?_
            refine ⟨_, rfl, ?_⟩
            refine wl_ok (r_notb rfl) ?_
            refine wl_nil ?_
            refine then_loop ?_
            exact jend (!y32) ⟨h.cn _, hs⟩
          · skip
            refine wl_off (b' := false) rfl (congrArg Value.bool c31) rfl ?_
            refine wl_off (b' := false) rfl (congrArg Value.bool c31) rfl ?_
            refine wl_off (b' := false) rfl (congrArg Value.bool c31) rfl ?_
            refine wl_off (b' := false) rfl (congrArg Value.bool c31) rfl ?_
            refine wl_off (b' := false) rfl (congrArg Value.bool c31) rfl ?_
            refine wl_ok (r_pick (b := false) (v := (.bool (false))) (congrArg Value.bool c31) rfl) ?_
            refine wl_ok (r_assign (v := (.bool (false))) rfl) ?_
            refine wl_nil ?_
            refine then_normal ?_
            refine wc_ret ?_
            refine fin1 (v := (.bool (false))) Try.results67 rfl ?_
            refine ⟨_, rfl, ?_⟩
            refine wl_ok (r_notb rfl) ?_
            refine wl_nil ?_
            refine then_loop ?_
            exact jend true ⟨h.cn _, hs⟩
      · skip
        rw [drop_ge (hik ▸ e7), eachI_nil] at hs
        refine wc_exit ?_
        refine then_exit ?_
        refine then_exit ?_
        refine inBlock_eq ?_
        refine then_normal ?_
        refine wc_seq ?_
        refine wc_region ?_
        refine wl_ok (r_assign (v := (.bool (true))) rfl) ?_
        refine wl_nil ?_
        refine then_normal ?_
        refine wc_ret ?_
        refine fin1 (v := (.bool (true))) Try.results65 rfl ?_
        refine ⟨_, rfl, ?_⟩
        refine wl_ok (r_assign (v := (.bool (true))) rfl) ?_
        refine wl_nil ?_
        refine then_normal ?_
        refine wc_ret ?_
        refine fin1 (v := (.bool (true))) Try.results24 rfl ?_
        obtain rfl := Option.some.inj hs
        exact ⟨h.grown, rfl⟩
def wandererlaw_WaySays_j8 (y8 : List Mail × Mail × Int) (c : Int) (a : List Mail) (x40 : List Mail) : Option Bool :=
  bif decide ((y8.2.2 : Int) = 0) then grd (I64 (c + 1)) ((sub? a c (c + 1)).bind fun x43 => (wandererref_SameMail [y8.2.1] x43).bind fun y51 => bif y51 then (wandererref_SameMail y8.1 x40).bind fun y55 => some y55 else some false) else some false
def wandererlaw_WaySays_j7 (y8 : List Mail × Mail × Int) (a : List Mail) (d : Bool) (c : Int) (x25 : Int) : Option Bool :=
  bif decide ((x25 : Int) ≠ 0) then bif (decide ((y8.2.2 : Int) = x25) && decide (((y8.1.length : Int) : Int) = 0)) then (wandererref_SameMail [y8.2.1] [(⟨0, 0, 0, 0, false, []⟩ : Mail)]).bind fun y30 => some y30 else some false else (clone 64 a).bind fun y33 => bif (!d) then grd (I64 (c + 1)) ((del1 y33 c (c + 1)).bind fun y60 => wandererlaw_WaySays_j8 y8 c a y60) else wandererlaw_WaySays_j8 y8 c a y33
def wandererlaw_WaySays_j6 (a : List Mail) (c : Int) (y8 : List Mail × Mail × Int) (d : Bool) (x23 : Bool) : Option Bool :=
  bif x23 then some false else bif (decide (((wandererref_CheckMail a) : Int) = 0) && (decide ((c : Int) < 0) || decide (((a.length : Int) : Int) ≤ c))) then wandererlaw_WaySays_j7 y8 a d c 5 else wandererlaw_WaySays_j7 y8 a d c (wandererref_CheckMail a)
def wandererlaw_WaySays_j4 (y2 : List Mail × Int) (x20 : Int) (a : List Mail) (c : Int) (y8 : List Mail × Mail × Int) (d : Bool) (x22 : List Mail) : Option Bool :=
  bif (decide ((y2.2 : Int) ≠ x20) || (decide ((x20 : Int) ≠ 0) && decide ((0 : Int) < (y2.1.length : Int)))) then wandererlaw_WaySays_j6 a c y8 d true else bif decide ((x20 : Int) = 0) then (wandererref_SameMail y2.1 x22).bind fun y68 => wandererlaw_WaySays_j6 a c y8 d (!y68) else wandererlaw_WaySays_j6 a c y8 d false
def wandererlaw_WaySays_j3 (a : List Mail) (b : Mail) (y2 : List Mail × Int) (c : Int) (y8 : List Mail × Mail × Int) (d : Bool) (x20 : Int) : Option Bool :=
  bif decide (((a.length : Int) : Int) < 40) then (clone 64 a).bind fun y74 => grd (Room 64 y74 [b]) (wandererlaw_WaySays_j4 y2 x20 a c y8 d (y74 ++ [b])) else wandererlaw_WaySays_j4 y2 x20 a c y8 d a
def wandererlaw_WaySays_j2 (a : List Mail) (b : Mail) (y2 : List Mail × Int) (c : Int) (y8 : List Mail × Mail × Int) (d : Bool) (x18 : Bool) : Option Bool :=
  bif x18 then some false else bif decide (((wandererref_CheckMail a) : Int) = 0) then wandererlaw_WaySays_j3 a b y2 c y8 d (wandererref_CheckMail [b]) else wandererlaw_WaySays_j3 a b y2 c y8 d (wandererref_CheckMail a)
def wandererlaw_WaySays (a : List Mail) (b : Mail) (c : Int) (d : Bool) (e : List Mail) : Option Bool :=
  (way_Send a b).bind fun y2 => (way_Take a c d).bind fun y8 => (wandererlaw_posted).bind fun y95 => bif ((!y95) || decide (((way_Check a) : Int) ≠ (wandererref_CheckMail a))) then wandererlaw_WaySays_j2 a b y2 c y8 d true else (way_Same a e).bind fun y100 => (wandererref_SameMail a e).bind fun y103 => wandererlaw_WaySays_j2 a b y2 c y8 d (y100 != y103)
theorem wandererlaw_WaySays_c (w0 : World) (M : BS) (hM : ∀ b, M b → b < w0.heap.size) (va : Value) (a : List Mail) (ha : Rd2 rMail w0 BE M va a) (b : Mail) (vb5 : Value) (hb5 : RdSl rInt w0 M vb5 b.image) (c : Int) (d : Bool) (ve : Value) (e : List Mail) (he : Rd2 rMail w0 BE M ve e) (r : Bool) (hs : wandererlaw_WaySays a b c d e = some r) :
    Calls Try.prog 5 #[va, (.agg #[(.int .i64 (b.from_)), (.int .i64 (b.to_)), (.int .i64 (b.co)), (.int .i64 (b.epoch)), (.bool (b.taken)), vb5]), (.int .i64 (c)), (.bool (d)), ve] w0 (fun e w' => Grow w0 w' ∧ e = .returned (.bool r)) := by
  refine calls_start (args := [va, (.agg #[(.int .i64 (b.from_)), (.int .i64 (b.to_)), (.int .i64 (b.co)), (.int .i64 (b.epoch)), (.bool (b.taken)), vb5]), (.int .i64 (c)), (.bool (d)), ve]) Try.func5 rfl Try.ntmps5 (Nat.le_of_ble_eq_true rfl) ?_
  have h := SH.init hM
  replace h := h.argSr 1 ha none_own
  replace h := h.argRd 2 hb5 (hupd_own_sr none_own)
  replace h := h.argSr 3 he (hupd_own_rd (hupd_own_sr none_own))
  have hl_a := ha.len_le
  have hl_e := he.len_le
  refine wc_seq ?_
  refine wc_region ?_
  refine w_box (cs := [(.int .i64 (b.from_)), (.int .i64 (b.to_)), (.int .i64 (b.co)), (.int .i64 (b.epoch)), (.bool (b.taken)), vb5]) h 4 rfl rfl fun w b1 h => ?_
  refine wl_ok (r_assign (v := (.bool (false))) rfl) ?_
  refine wl_nil ?_
  refine then_normal ?_
  refine wc_seq ?_
  refine wc_region ?_
  refine wl_ok (r_move (v := va) rfl) ?_
  refine wl_ok (r_ldBN (vs := [(.int .i64 (b.from_)), (.int .i64 (b.to_)), (.int .i64 (b.co)), (.int .i64 (b.epoch)), (.bool (b.taken)), vb5]) h 4 rfl Many38 rfl rfl rfl) ?_
  obtain ⟨y2, e3, hs⟩ := o_bind hs
  refine w_call fnOk18 rfl rfl (way_Send_c _ _ h.lt va a (h.srS 1 rfl) b vb5 (h.rdAt 2 rfl) _ e3) ?_
  rintro _ w ⟨k7, u4, rfl, g5, g6⟩
  refine ⟨_, rfl, ?_⟩
  replace h := h.gotOwn 5 k7 g5 g6
  refine wl_ok (r_move (v := (.tuple #[u4, (.int .i64 (y2.2))])) rfl) ?_
  refine wl_ok (r_extract rfl rfl) ?_
  refine wl_ok (r_extract rfl rfl) ?_
  refine wl_ok (r_assign (v := u4) rfl) ?_
  refine wl_ok (r_assign (v := (.int .i64 (y2.2))) rfl) ?_
  refine wl_nil ?_
  refine then_normal ?_
  refine wc_seq ?_
  refine wc_region ?_
  refine wl_ok (r_move (v := va) rfl) ?_
  refine wl_ok (r_move (v := (.int .i64 (c))) rfl) ?_
  refine wl_ok (r_move (v := (.bool (d))) rfl) ?_
  obtain ⟨y8, e9, hs⟩ := o_bind hs
  refine w_call fnOk19 rfl rfl (way_Take_c _ _ h.lt va a (h.srS 1 rfl) c d _ e9) ?_
  rintro _ w ⟨k15, u10, u13, rfl, g11, g12, g14⟩
  refine ⟨_, rfl, ?_⟩
  replace h := h.gotOwn 6 k15 g11 g12
  replace h := h.knowRd 7 g14.upO
  refine wl_ok (r_move (v := (.tuple #[u10, (.agg #[(.int .i64 (y8.2.1.from_)), (.int .i64 (y8.2.1.to_)), (.int .i64 (y8.2.1.co)), (.int .i64 (y8.2.1.epoch)), (.bool (y8.2.1.taken)), u13]), (.int .i64 (y8.2.2))])) rfl) ?_
  refine wl_ok (r_extract rfl rfl) ?_
  refine wl_ok (r_extract rfl rfl) ?_
  refine wl_ok (r_extract rfl rfl) ?_
  refine w_allocN h 8 Many38 fun w b16 h => ?_
  refine wl_ok (r_assign (v := u10) rfl) ?_
  refine w_stN (vs := [(.int .i64 (y8.2.1.from_)), (.int .i64 (y8.2.1.to_)), (.int .i64 (y8.2.1.co)), (.int .i64 (y8.2.1.epoch)), (.bool (y8.2.1.taken)), u13]) h 8 [(.int .i64 (y8.2.1.from_)), (.int .i64 (y8.2.1.to_)), (.int .i64 (y8.2.1.co)), (.int .i64 (y8.2.1.epoch)), (.bool (y8.2.1.taken)), u13] rfl Many38 rfl rfl rfl rfl rfl (ones_cons rfl (ones_cons rfl (ones_cons rfl (ones_cons rfl (ones_cons rfl (ones_cons (h.rdAt 7 rfl).one ones_nil)))))) fun w h => ?_
  refine wl_ok (r_assign (v := (.int .i64 (y8.2.2))) rfl) ?_
  refine wl_nil ?_
  refine then_normal ?_
  refine wc_seq ?_
  refine wc_region ?_
  refine wl_ok (r_move (v := va) rfl) ?_
  refine w_call fnOk20 rfl rfl (wandererref_CheckMail_c _ _ h.lt va a (h.srS 1 rfl) _ rfl) ?_
  rintro _ w ⟨k17, rfl⟩
  refine ⟨_, rfl, ?_⟩
  replace h := h.grow k17
  refine wl_ok (r_assign (v := (.int .i64 ((wandererref_CheckMail a)))) rfl) ?_
  refine wl_nil ?_
  refine then_normal ?_
  refine wc_seq ?_
  refine wc_join (σ := Bool) (inl [36, 37, 38, 39, 40, 41, 42, 43, 44, 45, 46, 47, 48, 49, 50, 51, 52]) (fun x18 => [(52, (.bool (x18)))]) (fun x18 w => SH w0 M BE w (hset [(1, .sr rMail va a), (2, .rd rInt vb5 b.image), (4, .blk b1 [(.int .i64 (b.from_)), (.int .i64 (b.to_)), (.int .i64 (b.co)), (.int .i64 (b.epoch)), (.bool (b.taken)), vb5]), (5, .own rMail 38 u4 y2.1), (6, .own rMail 38 u10 y8.1), (7, .rd rInt u13 y8.2.1.image), (8, .blk b16 [(.int .i64 (y8.2.1.from_)), (.int .i64 (y8.2.1.to_)), (.int .i64 (y8.2.1.co)), (.int .i64 (y8.2.1.epoch)), (.bool (y8.2.1.taken)), u13])]) ∧ wandererlaw_WaySays_j2 a b y2 c y8 d x18 = some r) ?_ ?_
  · rintro x18 w junk ⟨h, hs⟩
    refine wc_ifb hs rfl (fun c19 hs => ?_) (fun c19 hs => ?_)
    · skip
      refine wc_seq ?_
      refine wc_region ?_
      refine wl_ok (r_assign (v := (.bool (false))) rfl) ?_
      refine wl_nil ?_
      refine then_normal ?_
      refine wc_ret ?_
      refine then_ret ?_
      refine fin1 (v := (.bool (false))) Try.results5 rfl ?_
      obtain rfl := Option.some.inj hs
      exact ⟨h.grown, rfl⟩
    · skip
      refine wc_skip ?_
      refine then_normal ?_
      refine wc_seq ?_
      refine wc_region ?_
      refine wl_ok (r_move (v := (.int .i64 ((wandererref_CheckMail a)))) rfl) ?_
      refine wl_ok (r_assign (v := (.int .i64 ((wandererref_CheckMail a)))) rfl) ?_
      refine wl_nil ?_
      refine then_normal ?_
      refine wc_join (σ := Int) (inl [17, 54, 55, 56, 57, 58]) (fun x20 => [(17, (.int .i64 (x20)))]) (fun x20 w => SH w0 M BE w (hset [(1, .sr rMail va a), (2, .rd rInt vb5 b.image), (4, .blk b1 [(.int .i64 (b.from_)), (.int .i64 (b.to_)), (.int .i64 (b.co)), (.int .i64 (b.epoch)), (.bool (b.taken)), vb5]), (5, .own rMail 38 u4 y2.1), (6, .own rMail 38 u10 y8.1), (7, .rd rInt u13 y8.2.1.image), (8, .blk b16 [(.int .i64 (y8.2.1.from_)), (.int .i64 (y8.2.1.to_)), (.int .i64 (y8.2.1.co)), (.int .i64 (y8.2.1.epoch)), (.bool (y8.2.1.taken)), u13])]) ∧ wandererlaw_WaySays_j3 a b y2 c y8 d x20 = some r) ?_ ?_
      · rintro x20 w junk ⟨h, hs⟩
        refine wc_seq ?_
        refine wc_region ?_
        refine wl_ok (r_move (v := va) rfl) ?_
        refine wl_ok (r_assign (v := va) rfl) ?_
        refine wl_nil ?_
        refine then_normal ?_
        refine wc_join (σ := Value × List Mail) (inl [18, 60, 61, 62, 63, 64, 65, 66, 67]) (fun ⟨v21, x22⟩ => [(18, v21)]) (fun ⟨v21, x22⟩ w => SH w0 M BE w (hset [(1, .sr rMail va a), (5, .own rMail 38 u4 y2.1), (6, .own rMail 38 u10 y8.1), (7, .rd rInt u13 y8.2.1.image), (8, .blk b16 [(.int .i64 (y8.2.1.from_)), (.int .i64 (y8.2.1.to_)), (.int .i64 (y8.2.1.co)), (.int .i64 (y8.2.1.epoch)), (.bool (y8.2.1.taken)), u13]), (9, .sr rMail v21 x22)]) ∧ wandererlaw_WaySays_j4 y2 x20 a c y8 d x22 = some r) ?_ ?_
        · rintro ⟨v21, x22⟩ w junk ⟨h, hs⟩
          refine wc_seq ?_
          refine wc_join (σ := Bool) (inl [68, 69, 70, 71, 72, 73, 74, 75, 76, 77, 78, 79, 80, 81, 82, 83, 84, 85, 86, 87, 88, 89]) (fun x23 => [(89, (.bool (x23)))]) (fun x23 w => SH w0 M BE w (hset [(1, .sr rMail va a), (6, .own rMail 38 u10 y8.1), (7, .rd rInt u13 y8.2.1.image), (8, .blk b16 [(.int .i64 (y8.2.1.from_)), (.int .i64 (y8.2.1.to_)), (.int .i64 (y8.2.1.co)), (.int .i64 (y8.2.1.epoch)), (.bool (y8.2.1.taken)), u13])]) ∧ wandererlaw_WaySays_j6 a c y8 d x23 = some r) ?_ ?_
          · rintro x23 w junk ⟨h, hs⟩
            refine wc_ifb hs rfl (fun c24 hs => ?_) (fun c24 hs => ?_)
            · skip
              refine wc_seq ?_
              refine wc_region ?_
              refine wl_ok (r_assign (v := (.bool (false))) rfl) ?_
              refine wl_nil ?_
              refine then_normal ?_
              refine wc_ret ?_
              refine then_ret ?_
              refine fin1 (v := (.bool (false))) Try.results5 rfl ?_
              obtain rfl := Option.some.inj hs
              exact ⟨h.grown, rfl⟩
            · skip
              refine wc_skip ?_
              refine then_normal ?_
              refine wc_join (σ := Int) (inl [16, 90, 91, 92, 93, 94, 95, 96, 97, 98, 99, 100, 101]) (fun x25 => [(16, (.int .i64 (x25)))]) (fun x25 w => SH w0 M BE w (hset [(1, .sr rMail va a), (6, .own rMail 38 u10 y8.1), (7, .rd rInt u13 y8.2.1.image), (8, .blk b16 [(.int .i64 (y8.2.1.from_)), (.int .i64 (y8.2.1.to_)), (.int .i64 (y8.2.1.co)), (.int .i64 (y8.2.1.epoch)), (.bool (y8.2.1.taken)), u13])]) ∧ wandererlaw_WaySays_j7 y8 a d c x25 = some r) ?_ ?_
              · rintro x25 w junk ⟨h, hs⟩
                refine wc_seq ?_
                refine wc_seq ?_
                refine wc_region ?_
                refine wl_ok (r_move (v := (.int .i64 (x25))) rfl) ?_
                refine wl_ok (r_neq rfl rfl) ?_
                refine wl_nil ?_
                refine then_normal ?_
                refine wc_ifb hs rfl (fun c26 hs => ?_) (fun c26 hs => ?_)
                · skip
                  refine wc_seq ?_
                  refine wc_region ?_
                  refine wl_ok (r_move (v := (.int .i64 (y8.2.2))) rfl) ?_
                  refine wl_ok (r_move (v := (.int .i64 (x25))) rfl) ?_
                  refine wl_ok (r_eql rfl rfl) ?_
                  refine wl_ok (r_move (v := (.bool (decide ((y8.2.2 : Int) = x25)))) rfl) ?_
                  refine wl_gd0 rfl rfl (fun q => r_move (v := u10) rfl) ?_
                  refine wl_gd0 rfl rfl (fun q => r_len SliceOf36 (gvt q) (h.ownS 6 rfl)) ?_
                  refine wl_gd0 rfl rfl (fun q => r_eql (gvt q) rfl) ?_
                  refine wl_ok (r_pand rfl rfl evc) ?_
                  refine wl_ok (r_move (v := (.bool ((decide ((y8.2.2 : Int) = x25) && decide (((y8.1.length : Int) : Int) = 0))))) rfl) ?_
                  refine c_split (b := (decide ((y8.2.2 : Int) = x25) && decide (((y8.1.length : Int) : Int) = 0))) hs (fun c27 hs => ?_) (fun c27 hs => ?_)
                  · skip
                    refine wl_on rfl (congrArg Value.bool c27) ?_
                    refine wl_ok (r_ldBN (vs := [(.int .i64 (y8.2.1.from_)), (.int .i64 (y8.2.1.to_)), (.int .i64 (y8.2.1.co)), (.int .i64 (y8.2.1.epoch)), (.bool (y8.2.1.taken)), u13]) h 8 rfl Many38 rfl rfl rfl) ?_
                    refine wl_on rfl (congrArg Value.bool c27) ?_
                    refine w_bs (R := rMail) (vs := [(.agg #[(.int .i64 (y8.2.1.from_)), (.int .i64 (y8.2.1.to_)), (.int .i64 (y8.2.1.co)), (.int .i64 (y8.2.1.epoch)), (.bool (y8.2.1.taken)), u13])]) (xs := [y8.2.1]) h 10 ElemOf36 rfl rfl rfl ⟨⟨_, rfl, (h.rdAt 7 rfl)⟩, trivial⟩ rfl fun w u28 h => ?_
                    refine wl_on rfl (congrArg Value.bool c27) ?_
                    refine wl_ok (r_build (pv := []) (out := [(.int .i64 (0)), (.int .i64 (0)), (.int .i64 (0)), (.int .i64 (0)), (.bool (false)), (.slice none 0 0)]) Struct38 rfl rfl) ?_
                    refine wl_on rfl (congrArg Value.bool c27) ?_
                    refine w_bs (R := rMail) (vs := [(.agg #[(.int .i64 (0)), (.int .i64 (0)), (.int .i64 (0)), (.int .i64 (0)), (.bool (false)), (.slice none 0 0)])]) (xs := [(⟨0, 0, 0, 0, false, []⟩ : Mail)]) h 11 ElemOf36 rfl rfl rfl ⟨⟨_, rfl, Rd2.nil⟩, trivial⟩ rfl fun w u29 h => ?_
                    refine wl_on rfl (congrArg Value.bool c27) ?_
                    obtain ⟨y30, e31, hs⟩ := o_bind hs
                    refine w_call fnOk24 rfl rfl (wandererref_SameMail_c _ _ h.lt u28 [y8.2.1] (h.ownS 10 rfl) u29 [(⟨0, 0, 0, 0, false, []⟩ : Mail)] (h.ownS 11 rfl) _ e31) ?_
                    rintro _ w ⟨k32, rfl⟩
                    refine ⟨_, rfl, ?_⟩
                    replace h := h.grow k32
                    refine wl_ok (r_pick (b := true) (v := (.bool (y30))) (congrArg Value.bool c27) rfl) ?_
                    refine wl_ok (r_assign (v := (.bool (y30))) rfl) ?_
                    refine wl_nil ?_
                    refine then_normal ?_
                    refine wc_ret ?_
                    refine then_ret ?_
                    refine fin1 (v := (.bool (y30))) Try.results5 rfl ?_
                    obtain rfl := Option.some.inj hs
                    exact ⟨h.grown, rfl⟩
                  · skip
                    refine wl_off (b' := false) rfl (congrArg Value.bool c27) rfl ?_
                    refine wl_off (b' := false) rfl (congrArg Value.bool c27) rfl ?_
                    refine wl_off (b' := false) rfl (congrArg Value.bool c27) rfl ?_
                    refine wl_off (b' := false) rfl (congrArg Value.bool c27) rfl ?_
                    refine wl_off (b' := false) rfl (congrArg Value.bool c27) rfl ?_
                    refine wl_ok (r_pick (b := false) (v := (.bool (false))) (congrArg Value.bool c27) rfl) ?_
                    refine wl_ok (r_assign (v := (.bool (false))) rfl) ?_
                    refine wl_nil ?_
                    refine then_normal ?_
                    refine wc_ret ?_
                    refine then_ret ?_
                    refine fin1 (v := (.bool (false))) Try.results5 rfl ?_
                    obtain rfl := Option.some.inj hs
                    exact ⟨h.grown, rfl⟩
                · skip
                  refine wc_skip ?_
                  refine then_normal ?_
                  refine wc_seq ?_
                  refine wc_region ?_
                  refine wl_ok (r_move (v := va) rfl) ?_
                  obtain ⟨y33, e34, hs⟩ := o_bind hs
                  refine w_call fnOk25 rfl rfl (slices_Clone_Mail_c _ _ h.lt va a (h.srS 1 rfl) _ e34) ?_
                  rintro _ w ⟨k38, u35, rfl, g36, g37⟩
                  refine ⟨_, rfl, ?_⟩
                  replace h := h.gotOwn 12 k38 g36 g37
                  refine wl_ok (r_assign (v := u35) rfl) ?_
                  refine wl_nil ?_
                  refine then_normal ?_
                  refine wc_join (σ := Value × List Mail) (inl [19, 121, 122, 123, 124, 125, 126, 127]) (fun ⟨v39, x40⟩ => [(19, v39)]) (fun ⟨v39, x40⟩ w => SH w0 M BE w (hset [(1, .sr rMail va a), (6, .own rMail 38 u10 y8.1), (7, .rd rInt u13 y8.2.1.image), (8, .blk b16 [(.int .i64 (y8.2.1.from_)), (.int .i64 (y8.2.1.to_)), (.int .i64 (y8.2.1.co)), (.int .i64 (y8.2.1.epoch)), (.bool (y8.2.1.taken)), u13]), (12, .own rMail 38 v39 x40)]) ∧ wandererlaw_WaySays_j8 y8 c a x40 = some r) ?_ ?_
                  · rintro ⟨v39, x40⟩ w junk ⟨h, hs⟩
                    refine wc_seq ?_
                    refine wc_held mixed h fun w h => ?_
                    refine wh_ok 0 (Keep.refl BE _) rfl want_none (by kernel_rfl) (by kernel_rfl) (by kernel_rfl) (fun w hk => r_move (v := (.int .i64 (y8.2.2))) rfl) ?_
                    refine wh_ok 1 (Keep.refl BE _) rfl want_none (by kernel_rfl) (by kernel_rfl) (by kernel_rfl) (fun w hk => r_eql rfl rfl) ?_
                    refine wh_ok 2 (Keep.refl BE _) rfl want_none (by kernel_rfl) (by kernel_rfl) (by kernel_rfl) (fun w hk => r_move (v := (.bool (decide ((y8.2.2 : Int) = 0)))) rfl) ?_
                    refine c_split (b := decide ((y8.2.2 : Int) = 0)) hs (fun c41 hs => ?_) (fun c41 hs => ?_)
                    · skip
                      refine wh_ok 3 (Keep.refl BE _) rfl (want_on rfl (congrArg Value.bool c41)) (by kernel_rfl) (by kernel_rfl) (by kernel_rfl) (fun w hk => have h := h.grow hk; r_ldBN (vs := [(.int .i64 (y8.2.1.from_)), (.int .i64 (y8.2.1.to_)), (.int .i64 (y8.2.1.co)), (.int .i64 (y8.2.1.epoch)), (.bool (y8.2.1.taken)), u13]) h 8 rfl Many38 rfl rfl rfl) ?_
                      refine wh_ok 5 (Keep.refl BE _) rfl (want_on rfl (congrArg Value.bool c41)) (by kernel_rfl) (by kernel_rfl) (by kernel_rfl) (fun w hk => r_move (v := va) rfl) ?_
                      refine wh_ok 6 (Keep.refl BE _) rfl (want_on rfl (congrArg Value.bool c41)) (by kernel_rfl) (by kernel_rfl) (by kernel_rfl) (fun w hk => r_move (v := (.int .i64 (c))) rfl) ?_
                      refine wh_ok 7 (Keep.refl BE _) rfl (want_on rfl (congrArg Value.bool c41)) (by kernel_rfl) (by kernel_rfl) (by kernel_rfl) (fun w hk => r_move (v := (.int .i64 (c))) rfl) ?_
                      obtain ⟨a42, hs⟩ := o_grd hs
                      refine wh_ok 8 (Keep.refl BE _) rfl (want_on rfl (congrArg Value.bool c41)) (by kernel_rfl) (by kernel_rfl) (by kernel_rfl) (fun w hk => r_add rfl rfl a42) ?_
                      obtain ⟨x43, e44, hs⟩ := o_bind hs
                      obtain ⟨e47, e47a, e47b, e47c⟩ := o_sub e44
                      obtain ⟨u45, h, i46⟩ := h.slS 1 13 rfl SliceOf36 rfl e47a e47b e47c
                      rw [← e47] at h
                      refine wh_ok 9 (Keep.refl BE _) rfl (want_on rfl (congrArg Value.bool c41)) (by kernel_rfl) (by kernel_rfl) (by kernel_rfl) (fun w hk => i46 _ _ _ _ _ _ _ _ _ _ rfl (.inr (congrArg some rfl)) (.inr (congrArg some rfl))) ?_
                      obtain ⟨ws48, ws48e⟩ : ∃ x, x = w := ⟨_, rfl⟩
                      have hg49 : Grow ws48 w := ws48e ▸ Keep.refl BE w
                      refine wh_at ws48e.symm ?_
                      refine wh_eff 4 (by kernel_rfl) rfl (want_on rfl (congrArg Value.bool c41)) ?_
                      refine w_bsG (R := rMail) (vs := [(.agg #[(.int .i64 (y8.2.1.from_)), (.int .i64 (y8.2.1.to_)), (.int .i64 (y8.2.1.co)), (.int .i64 (y8.2.1.epoch)), (.bool (y8.2.1.taken)), u13])]) (xs := [y8.2.1]) h 14 ElemOf36 rfl rfl rfl ⟨⟨_, rfl, (h.rdAt 7 rfl)⟩, trivial⟩ rfl fun w u50 h u50k u50f => ?_
                      have u50q : ∀ b, ob u50 b → ws48.heap.size ≤ b := fun b hb => Nat.le_trans hg49.size (u50f b hb)
                      replace hg49 := hg49.trans u50k
                      refine wl_nil ?_
                      refine wh_back hg49 ?_
                      refine wh_eff 10 (by kernel_rfl) rfl (want_on rfl (congrArg Value.bool c41)) ?_
                      obtain ⟨y51, e52, hs⟩ := o_bind hs
                      refine w_call fnOk24 rfl rfl (wandererref_SameMail_c _ _ h.lt u50 [y8.2.1] (h.ownS 14 rfl) u45 x43 (h.srS 13 rfl) _ e52) ?_
                      rintro _ w ⟨k53, rfl⟩
                      refine ⟨_, rfl, ?_⟩
                      replace h := h.grow k53
                      replace hg49 := hg49.trans k53
                      refine wl_nil ?_
                      refine wh_back hg49 ?_
                      refine wh_ok 11 hg49 rfl want_none (by kernel_rfl) (by kernel_rfl) (by kernel_rfl) (fun w hk => r_pick (b := true) (v := (.bool (y51))) (congrArg Value.bool c41) rfl) ?_
                      refine wh_ok 12 hg49 rfl want_none (by kernel_rfl) (by kernel_rfl) (by kernel_rfl) (fun w hk => r_move (v := (.bool (y51))) rfl) ?_
                      refine c_split (b := y51) hs (fun c54 hs => ?_) (fun c54 hs => ?_)
                      · skip
                        refine wh_ok 13 hg49 rfl (want_on rfl (congrArg Value.bool c54)) (by kernel_rfl) (by kernel_rfl) (by kernel_rfl) (fun w hk => r_move (v := u10) rfl) ?_
                        refine wh_ok 14 hg49 rfl (want_on rfl (congrArg Value.bool c54)) (by kernel_rfl) (by kernel_rfl) (by kernel_rfl) (fun w hk => r_move (v := v39) rfl) ?_
                        refine wh_eff 15 (by kernel_rfl) rfl (want_on rfl (congrArg Value.bool c54)) ?_
                        obtain ⟨y55, e56, hs⟩ := o_bind hs
                        refine w_call fnOk24 rfl rfl (wandererref_SameMail_c _ _ h.lt u10 y8.1 (h.ownS 6 rfl) v39 x40 (h.ownS 12 rfl) _ e56) ?_
                        rintro _ w ⟨k57, rfl⟩
                        refine ⟨_, rfl, ?_⟩
                        replace h := h.grow k57
                        replace hg49 := hg49.trans k57
                        refine wl_nil ?_
                        refine wh_back hg49 ?_
                        refine wh_ok 16 hg49 rfl want_none (by kernel_rfl) (by kernel_rfl) (by kernel_rfl) (fun w hk => r_pick (b := true) (v := (.bool (y55))) (congrArg Value.bool c54) rfl) ?_
                        refine wh_ok 17 hg49 rfl want_none (by kernel_rfl) (by kernel_rfl) (by kernel_rfl) (fun w hk => r_assign (v := (.bool (y55))) rfl) ?_
                        refine wh_done (by kernel_rfl) ?_
                        refine then_normal ?_
                        refine wc_ret ?_
                        refine fin1 (v := (.bool (y55))) Try.results5 rfl ?_
                        obtain rfl := Option.some.inj hs
                        exact ⟨h.grown, rfl⟩
                      · skip
                        refine wh_skip 13 hg49 rfl (want_off (b' := false) rfl (congrArg Value.bool c54) rfl) (by kernel_rfl) (by kernel_rfl) (by kernel_rfl) ?_
                        refine wh_skip 14 hg49 rfl (want_off (b' := false) rfl (congrArg Value.bool c54) rfl) (by kernel_rfl) (by kernel_rfl) (by kernel_rfl) ?_
                        refine wh_skip 15 hg49 rfl (want_off (b' := false) rfl (congrArg Value.bool c54) rfl) (by kernel_rfl) (by kernel_rfl) (by kernel_rfl) ?_
                        refine wh_ok 16 hg49 rfl want_none (by kernel_rfl) (by kernel_rfl) (by kernel_rfl) (fun w hk => r_pick (b := false) (v := (.bool (false))) (congrArg Value.bool c54) rfl) ?_
                        refine wh_ok 17 hg49 rfl want_none (by kernel_rfl) (by kernel_rfl) (by kernel_rfl) (fun w hk => r_assign (v := (.bool (false))) rfl) ?_
                        refine wh_done (by kernel_rfl) ?_
                        refine then_normal ?_
                        refine wc_ret ?_
                        refine fin1 (v := (.bool (false))) Try.results5 rfl ?_
                        obtain rfl := Option.some.inj hs
                        exact ⟨h.grown, rfl⟩
                    · skip
                      refine wh_skip 3 (Keep.refl BE _) rfl (want_off (b' := false) rfl (congrArg Value.bool c41) rfl) (by kernel_rfl) (by kernel_rfl) (by kernel_rfl) ?_
                      refine wh_skip 4 (Keep.refl BE _) rfl (want_off (b' := false) rfl (congrArg Value.bool c41) rfl) (by kernel_rfl) (by kernel_rfl) (by kernel_rfl) ?_
                      refine wh_skip 5 (Keep.refl BE _) rfl (want_off (b' := false) rfl (congrArg Value.bool c41) rfl) (by kernel_rfl) (by kernel_rfl) (by kernel_rfl) ?_
                      refine wh_skip 6 (Keep.refl BE _) rfl (want_off (b' := false) rfl (congrArg Value.bool c41) rfl) (by kernel_rfl) (by kernel_rfl) (by kernel_rfl) ?_
                      refine wh_skip 7 (Keep.refl BE _) rfl (want_off (b' := false) rfl (congrArg Value.bool c41) rfl) (by kernel_rfl) (by kernel_rfl) (by kernel_rfl) ?_
                      refine wh_skip 8 (Keep.refl BE _) rfl (want_off (b' := false) rfl (congrArg Value.bool c41) rfl) (by kernel_rfl) (by kernel_rfl) (by kernel_rfl) ?_
                      refine wh_skip 9 (Keep.refl BE _) rfl (want_off (b' := false) rfl (congrArg Value.bool c41) rfl) (by kernel_rfl) (by kernel_rfl) (by kernel_rfl) ?_
                      refine wh_skip 10 (Keep.refl BE _) rfl (want_off (b' := false) rfl (congrArg Value.bool c41) rfl) (by kernel_rfl) (by kernel_rfl) (by kernel_rfl) ?_
                      refine wh_ok 11 (Keep.refl BE _) rfl want_none (by kernel_rfl) (by kernel_rfl) (by kernel_rfl) (fun w hk => r_pick (b := false) (v := (.bool (false))) (congrArg Value.bool c41) rfl) ?_
                      refine wh_ok 12 (Keep.refl BE _) rfl want_none (by kernel_rfl) (by kernel_rfl) (by kernel_rfl) (fun w hk => r_move (v := (.bool (false))) rfl) ?_
                      refine wh_skip 13 (Keep.refl BE _) rfl (want_off (b' := false) rfl rfl rfl) (by kernel_rfl) (by kernel_rfl) (by kernel_rfl) ?_
                      refine wh_skip 14 (Keep.refl BE _) rfl (want_off (b' := false) rfl rfl rfl) (by kernel_rfl) (by kernel_rfl) (by kernel_rfl) ?_
                      refine wh_skip 15 (Keep.refl BE _) rfl (want_off (b' := false) rfl rfl rfl) (by kernel_rfl) (by kernel_rfl) (by kernel_rfl) ?_
                      refine wh_ok 16 (Keep.refl BE _) rfl want_none (by kernel_rfl) (by kernel_rfl) (by kernel_rfl) (fun w hk => r_pick (b := false) (v := (.bool (false))) rfl rfl) ?_
                      refine wh_ok 17 (Keep.refl BE _) rfl want_none (by kernel_rfl) (by kernel_rfl) (by kernel_rfl) (fun w hk => r_assign (v := (.bool (false))) rfl) ?_
                      refine wh_done (by kernel_rfl) ?_
                      refine then_normal ?_
                      refine wc_ret ?_
                      refine fin1 (v := (.bool (false))) Try.results5 rfl ?_
                      obtain rfl := Option.some.inj hs
                      exact ⟨h.grown, rfl⟩
                  · skip
                    refine wc_seq ?_
                    refine wc_region ?_
                    refine wl_ok (r_move (v := (.bool (d))) rfl) ?_
                    refine wl_ok (r_notb rfl) ?_
                    refine wl_nil ?_
                    refine then_normal ?_
                    refine wc_ifb hs rfl (fun c58 hs => ?_) (fun c58 hs => ?_)
                    · skip
                      refine wc_region ?_
                      refine wl_ok (r_move (v := u35) rfl) ?_
                      refine wl_ok (r_move (v := (.int .i64 (c))) rfl) ?_
                      refine wl_ok (r_move (v := (.int .i64 (c))) rfl) ?_
                      obtain ⟨a59, hs⟩ := o_grd hs
                      refine wl_ok (r_add rfl rfl a59) ?_
                      obtain ⟨y60, e61, hs⟩ := o_bind hs
                      obtain ⟨n63, n64, e61a, e61b, e61c, e61d, e61e⟩ := o_del e61
                      refine w_call fnOk26 rfl (la_cons rfl (la_cons (congrArg (Value.int .i64) e61a) (la_cons (congrArg (Value.int .i64) e61b) rfl))) (slices_Delete_Mail_c _ _ u35 y33 n63 n64 (h.giveO 12 rfl) e61c e61d) ?_
                      rintro _ w ⟨u62, rfl, e61f, e61g, e61h⟩
                      refine ⟨_, rfl, ?_⟩
                      replace h := h.given 12 rfl e61f e61g e61h
                      rw [← e61e] at h
                      refine wl_ok (r_assign (v := u62) rfl) ?_
                      refine wl_nil ?_
                      refine then_loop ?_
                      exact jend (u62, y60) ⟨h.cn _, hs⟩
                    · skip
                      refine wc_skip ?_
                      refine then_loop ?_
                      exact jend (u35, y33) ⟨h.cn _, hs⟩
              · skip
                refine wc_seq ?_
                refine wc_region ?_
                refine wl_ok (r_move (v := (.int .i64 ((wandererref_CheckMail a)))) rfl) ?_
                refine wl_ok (r_eql rfl rfl) ?_
                refine wl_ok (r_move (v := (.bool (decide (((wandererref_CheckMail a) : Int) = 0)))) rfl) ?_
                refine wl_gd0 rfl rfl (fun q => r_move (v := (.int .i64 (c))) rfl) ?_
                refine wl_gd0 rfl rfl (fun q => r_lss (gvt q) rfl) ?_
                refine wl_gd0 rfl rfl (fun q => r_move (v := (.bool (decide ((c : Int) < 0)))) (gvt q)) ?_
                refine wl_gd (decide (((wandererref_CheckMail a) : Int) = 0) == true) rfl rfl (fun q => r_move (v := (.int .i64 (c))) rfl) ?_
                refine wl_gd (decide (((wandererref_CheckMail a) : Int) = 0) == true) rfl rfl (fun q => r_move (v := va) rfl) ?_
                refine wl_gd (decide (((wandererref_CheckMail a) : Int) = 0) == true) rfl rfl (fun q => r_len SliceOf36 (gvt q) (h.srS 1 rfl)) ?_
                refine wl_gd (decide (((wandererref_CheckMail a) : Int) = 0) == true) rfl rfl (fun q => r_geq (gvt q) (gvt q)) ?_
                refine wl_gd0 rfl rfl (fun q => r_por (gvt q) (gvn q) evc) ?_
                refine wl_ok (r_pand rfl rfl evc) ?_
                refine wl_nil ?_
                refine then_normal ?_
                refine wc_ifb hs rfl (fun c65 hs => ?_) (fun c65 hs => ?_)
                · skip
                  refine wc_region ?_
                  refine wl_ok (r_assign (v := (.int .i64 (5))) rfl) ?_
                  refine wl_nil ?_
                  refine then_loop ?_
                  exact jend 5 ⟨h.cn _, hs⟩
                · skip
                  refine wc_skip ?_
                  refine then_loop ?_
                  exact jend (wandererref_CheckMail a) ⟨h.cn _, hs⟩
          · skip
            refine wc_region ?_
            refine wl_ok (r_move (v := (.int .i64 (y2.2))) rfl) ?_
            refine wl_ok (r_move (v := (.int .i64 (x20))) rfl) ?_
            refine wl_ok (r_neq rfl rfl) ?_
            refine wl_ok (r_move (v := (.bool (decide ((y2.2 : Int) ≠ x20)))) rfl) ?_
            refine wl_gd0 rfl rfl (fun q => r_move (v := (.int .i64 (x20))) rfl) ?_
            refine wl_gd0 rfl rfl (fun q => r_neq (gvt q) rfl) ?_
            refine wl_gd0 rfl rfl (fun q => r_move (v := (.bool (decide ((x20 : Int) ≠ 0)))) (gvt q)) ?_
            refine wl_gd (decide ((y2.2 : Int) ≠ x20) == false) rfl rfl (fun q => r_move (v := u4) rfl) ?_
            refine wl_gd (decide ((y2.2 : Int) ≠ x20) == false) rfl rfl (fun q => r_len SliceOf36 (gvt q) (h.ownS 5 rfl)) ?_
            refine wl_gd (decide ((y2.2 : Int) ≠ x20) == false) rfl rfl (fun q => r_gtr (gvt q) rfl) ?_
            refine wl_gd0 rfl rfl (fun q => r_pand (gvt q) (gvn q) evc) ?_
            refine wl_ok (r_por rfl rfl evc) ?_
            refine wl_ok (r_move (v := (.bool ((decide ((y2.2 : Int) ≠ x20) || (decide ((x20 : Int) ≠ 0) && decide ((0 : Int) < (y2.1.length : Int))))))) rfl) ?_
            refine c_split (b := (decide ((y2.2 : Int) ≠ x20) || (decide ((x20 : Int) ≠ 0) && decide ((0 : Int) < (y2.1.length : Int))))) hs (fun c66 hs => ?_) (fun c66 hs => ?_)
            · skip
              refine wl_off (b' := true) rfl (congrArg Value.bool c66) rfl ?_
              refine wl_off (b' := true) rfl (congrArg Value.bool c66) rfl ?_
              refine wl_off (b' := true) rfl (congrArg Value.bool c66) rfl ?_
              refine wl_offU rfl rfl ?_
              refine wl_offU rfl rfl ?_
              refine wl_offU rfl rfl ?_
              refine wl_offU rfl rfl ?_
              refine wl_off (b' := true) rfl (congrArg Value.bool c66) rfl ?_
              refine wl_ok (r_pick (b := true) (v := (.bool (true))) (congrArg Value.bool c66) rfl) ?_
              refine wl_nil ?_
              refine then_loop ?_
              exact jend true ⟨h.cn _, hs⟩
            · skip
              refine wl_on rfl (congrArg Value.bool c66) ?_
              refine wl_ok (r_move (v := (.int .i64 (x20))) rfl) ?_
              refine wl_on rfl (congrArg Value.bool c66) ?_
              refine wl_ok (r_eql rfl rfl) ?_
              refine wl_on rfl (congrArg Value.bool c66) ?_
              refine wl_ok (r_move (v := (.bool (decide ((x20 : Int) = 0)))) rfl) ?_
              refine c_split (b := decide ((x20 : Int) = 0)) hs (fun c67 hs => ?_) (fun c67 hs => ?_)
              · skip
                refine wl_on rfl (congrArg Value.bool c67) ?_
                refine wl_ok (r_move (v := u4) rfl) ?_
                refine wl_on rfl (congrArg Value.bool c67) ?_
                refine wl_ok (r_move (v := v21) rfl) ?_
                refine wl_on rfl (congrArg Value.bool c67) ?_
                obtain ⟨y68, e69, hs⟩ := o_bind hs
                refine w_call fnOk24 rfl rfl (wandererref_SameMail_c _ _ h.lt u4 y2.1 (h.ownS 5 rfl) v21 x22 (h.srS 9 rfl) _ e69) ?_
                rintro _ w ⟨k70, rfl⟩
                refine ⟨_, rfl, ?_⟩
                replace h := h.grow k70
                refine wl_on rfl (congrArg Value.bool c67) ?_
                refine wl_ok (r_notb rfl) ?_
                refine wl_on rfl (congrArg Value.bool c66) ?_
                refine wl_ok (r_pick (b := true) (v := (.bool ((!y68)))) (congrArg Value.bool c67) rfl) ?_
                refine wl_ok (r_pick (b := false) (v := (.bool ((!y68)))) (congrArg Value.bool c66) rfl) ?_
                refine wl_nil ?_
                refine then_loop ?_
                exact jend (!y68) ⟨h.cn _, hs⟩
              · skip
                refine wl_off (b' := false) rfl (congrArg Value.bool c67) rfl ?_
                refine wl_off (b' := false) rfl (congrArg Value.bool c67) rfl ?_
                refine wl_off (b' := false) rfl (congrArg Value.bool c67) rfl ?_
                refine wl_off (b' := false) rfl (congrArg Value.bool c67) rfl ?_
                refine wl_on rfl (congrArg Value.bool c66) ?_
                refine wl_ok (r_pick (b := false) (v := (.bool (false))) (congrArg Value.bool c67) rfl) ?_
                refine wl_ok (r_pick (b := false) (v := (.bool (false))) (congrArg Value.bool c66) rfl) ?_
                refine wl_nil ?_
                refine then_loop ?_
                exact jend false ⟨h.cn _, hs⟩
        · skip
          refine wc_seq ?_
          refine wc_region ?_
          refine wl_ok (r_move (v := va) rfl) ?_
          refine wl_ok (r_len SliceOf36 rfl (h.srS 1 rfl)) ?_
          refine wl_ok (r_lss rfl rfl) ?_
          refine wl_nil ?_
          refine then_normal ?_
          refine wc_ifb hs rfl (fun c71 hs => ?_) (fun c71 hs => ?_)
          · skip
            refine wc_held mixed h fun w h => ?_
            refine wh_ok 0 (Keep.refl BE _) rfl want_none (by kernel_rfl) (by kernel_rfl) (by kernel_rfl) (fun w hk => r_move (v := va) rfl) ?_
            refine wh_ok 2 (Keep.refl BE _) rfl want_none (by kernel_rfl) (by kernel_rfl) (by kernel_rfl) (fun w hk => have h := h.grow hk; r_ldBN (vs := [(.int .i64 (b.from_)), (.int .i64 (b.to_)), (.int .i64 (b.co)), (.int .i64 (b.epoch)), (.bool (b.taken)), vb5]) h 4 rfl Many38 rfl rfl rfl) ?_
            obtain ⟨ws72, ws72e⟩ : ∃ x, x = w := ⟨_, rfl⟩
            have hg73 : Grow ws72 w := ws72e ▸ Keep.refl BE w
            refine wh_at ws72e.symm ?_
            refine wh_eff2 1 3 (by kernel_rfl) rfl want_none rfl want_none ?_ ?_
            · skip
              obtain ⟨y74, e75, hs⟩ := o_bind hs
              refine w_call fnOk25 rfl rfl (slices_Clone_Mail_c _ _ h.lt va a (h.srS 1 rfl) _ e75) ?_
              rintro _ w ⟨k79, u76, rfl, g77, g78⟩
              refine ⟨_, rfl, ?_⟩
              replace h := h.gotOwn 15 k79 g77 g78
              have u76q : ∀ b, ob u76 b → ws72.heap.size ≤ b := fun b hb => Nat.le_trans hg73.size (g78 b hb)
              replace hg73 := hg73.trans k79
              refine wl_nil ?_
              refine wh_back hg73 ?_
              refine wh_eff 3 (by kernel_rfl) rfl want_none ?_
              refine w_bsG (R := rMail) (vs := [(.agg #[(.int .i64 (b.from_)), (.int .i64 (b.to_)), (.int .i64 (b.co)), (.int .i64 (b.epoch)), (.bool (b.taken)), vb5])]) (xs := [b]) h 16 ElemOf36 rfl rfl rfl ⟨⟨_, rfl, (h.rdAt 2 rfl)⟩, trivial⟩ rfl fun w u80 h u80k u80f => ?_
              have u80q : ∀ b, ob u80 b → ws72.heap.size ≤ b := fun b hb => Nat.le_trans hg73.size (u80f b hb)
              replace hg73 := hg73.trans u80k
              refine wl_nil ?_
              refine wh_back hg73 ?_
              refine wh_eff 4 (by kernel_rfl) rfl want_none ?_
              obtain ⟨a81, hs⟩ := o_grd hs
              refine w_appG (R := rMail) (m := [b]) h 15 rfl (h.ownS 16 rfl) ElemOf36 rfl rfl rfl a81.1 a81.2 fun w u82 h u82k => ?_
              replace hg73 := hg73.fresh u82k u76q
              refine wl_nil ?_
              refine wh_back hg73 ?_
              refine wh_ok 5 hg73 rfl want_none (by kernel_rfl) (by kernel_rfl) (by kernel_rfl) (fun w hk => r_assign (v := u82) rfl) ?_
              refine wh_done (by kernel_rfl) ?_
              refine then_loop ?_
              replace h := h.freeze 15 rfl
              replace h := h.toSr 15 9 rfl
              exact jend (u82, (y74 ++ [b])) ⟨h.cn _, hs⟩
            · skip
              refine w_bsG (R := rMail) (vs := [(.agg #[(.int .i64 (b.from_)), (.int .i64 (b.to_)), (.int .i64 (b.co)), (.int .i64 (b.epoch)), (.bool (b.taken)), vb5])]) (xs := [b]) h 17 ElemOf36 rfl rfl rfl ⟨⟨_, rfl, (h.rdAt 2 rfl)⟩, trivial⟩ rfl fun w u83 h u83k u83f => ?_
              have u83q : ∀ b, ob u83 b → ws72.heap.size ≤ b := fun b hb => Nat.le_trans hg73.size (u83f b hb)
              replace hg73 := hg73.trans u83k
              refine wl_nil ?_
              refine wh_back hg73 ?_
              refine wh_eff 1 (by kernel_rfl) rfl want_none ?_
              obtain ⟨y84, e85, hs⟩ := o_bind hs
              refine w_call fnOk25 rfl rfl (slices_Clone_Mail_c _ _ h.lt va a (h.srS 1 rfl) _ e85) ?_
              rintro _ w ⟨k89, u86, rfl, g87, g88⟩
              refine ⟨_, rfl, ?_⟩
              replace h := h.gotOwn 18 k89 g87 g88
              have u86q : ∀ b, ob u86 b → ws72.heap.size ≤ b := fun b hb => Nat.le_trans hg73.size (g88 b hb)
              replace hg73 := hg73.trans k89
              refine wl_nil ?_
              refine wh_back hg73 ?_
              refine wh_eff 4 (by kernel_rfl) rfl want_none ?_
              obtain ⟨a90, hs⟩ := o_grd hs
              refine w_appG (R := rMail) (m := [b]) h 18 rfl (h.ownS 17 rfl) ElemOf36 rfl rfl rfl a90.1 a90.2 fun w u91 h u91k => ?_
              replace hg73 := hg73.fresh u91k u86q
              refine wl_nil ?_
              refine wh_back hg73 ?_
              refine wh_ok 5 hg73 rfl want_none (by kernel_rfl) (by kernel_rfl) (by kernel_rfl) (fun w hk => r_assign (v := u91) rfl) ?_
              refine wh_done (by kernel_rfl) ?_
              refine then_loop ?_
              replace h := h.freeze 18 rfl
              replace h := h.toSr 18 9 rfl
              exact jend (u91, (y84 ++ [b])) ⟨h.cn _, hs⟩
          · skip
            refine wc_skip ?_
            refine then_loop ?_
            replace h := h.copyS 1 9 rfl
            exact jend (va, a) ⟨h.cn _, hs⟩
      · skip
        refine wc_seq ?_
        refine wc_region ?_
        refine wl_ok (r_move (v := (.int .i64 ((wandererref_CheckMail a)))) rfl) ?_
        refine wl_ok (r_eql rfl rfl) ?_
        refine wl_nil ?_
        refine then_normal ?_
        refine wc_ifb hs rfl (fun c92 hs => ?_) (fun c92 hs => ?_)
        · skip
          refine wc_region ?_
          refine wl_ok (r_ldBN (vs := [(.int .i64 (b.from_)), (.int .i64 (b.to_)), (.int .i64 (b.co)), (.int .i64 (b.epoch)), (.bool (b.taken)), vb5]) h 4 rfl Many38 rfl rfl rfl) ?_
          refine w_bs (R := rMail) (vs := [(.agg #[(.int .i64 (b.from_)), (.int .i64 (b.to_)), (.int .i64 (b.co)), (.int .i64 (b.epoch)), (.bool (b.taken)), vb5])]) (xs := [b]) h 19 ElemOf36 rfl rfl rfl ⟨⟨_, rfl, (h.rdAt 2 rfl)⟩, trivial⟩ rfl fun w u93 h => ?_
          refine w_call fnOk20 rfl rfl (wandererref_CheckMail_c _ _ h.lt u93 [b] (h.ownS 19 rfl) _ rfl) ?_
          rintro _ w ⟨k94, rfl⟩
          refine ⟨_, rfl, ?_⟩
          replace h := h.grow k94
          refine wl_ok (r_assign (v := (.int .i64 ((wandererref_CheckMail [b])))) rfl) ?_
          refine wl_nil ?_
          refine then_loop ?_
          exact jend (wandererref_CheckMail [b]) ⟨h.cn _, hs⟩
        · skip
          refine wc_skip ?_
          refine then_loop ?_
          exact jend (wandererref_CheckMail a) ⟨h.cn _, hs⟩
  · skip
    refine wc_region ?_
    obtain ⟨y95, e96, hs⟩ := o_bind hs
    refine w_call fnOk21 rfl rfl (wandererlaw_posted_c _ _ h.lt  _ e96) ?_
    rintro _ w ⟨k97, rfl⟩
    refine ⟨_, rfl, ?_⟩
    replace h := h.grow k97
    refine wl_ok (r_notb rfl) ?_
    refine wl_ok (r_move (v := (.bool ((!y95)))) rfl) ?_
    refine wl_gd0 rfl rfl (fun q => r_move (v := va) rfl) ?_
    refine w_callG0 rfl rfl fnOk22 rfl (fun q => la_cons (gvt q) rfl) (way_Check_c _ _ h.lt va a (h.srS 1 rfl) _ rfl) fun w k98 => ?_
    replace h := h.grow k98
    refine wl_gd0 rfl rfl (fun q => r_move (v := (.int .i64 ((wandererref_CheckMail a)))) rfl) ?_
    refine wl_gd0 rfl rfl (fun q => r_neq (gvt q) (gvt q)) ?_
    refine wl_ok (r_por rfl rfl evc) ?_
    refine wl_ok (r_move (v := (.bool (((!y95) || decide (((way_Check a) : Int) ≠ (wandererref_CheckMail a)))))) rfl) ?_
    refine c_split (b := ((!y95) || decide (((way_Check a) : Int) ≠ (wandererref_CheckMail a)))) hs (fun c99 hs => ?_) (fun c99 hs => ?_)
    · skip
      refine wl_off (b' := true) rfl (congrArg Value.bool c99) rfl ?_
      refine wl_off (b' := true) rfl (congrArg Value.bool c99) rfl ?_
      refine wl_off (b' := true) rfl (congrArg Value.bool c99) rfl ?_
      refine wl_off (b' := true) rfl (congrArg Value.bool c99) rfl ?_
      refine wl_off (b' := true) rfl (congrArg Value.bool c99) rfl ?_
      refine wl_off (b' := true) rfl (congrArg Value.bool c99) rfl ?_
      refine wl_off (b' := true) rfl (congrArg Value.bool c99) rfl ?_
      refine wl_ok (r_pick (b := true) (v := (.bool (true))) (congrArg Value.bool c99) rfl) ?_
      refine wl_nil ?_
      refine then_loop ?_
      exact jend true ⟨h.cn _, hs⟩
    · skip
      refine wl_on rfl (congrArg Value.bool c99) ?_
      refine wl_ok (r_move (v := va) rfl) ?_
      refine wl_on rfl (congrArg Value.bool c99) ?_
      refine wl_ok (r_move (v := ve) rfl) ?_
      refine wl_on rfl (congrArg Value.bool c99) ?_
      obtain ⟨y100, e101, hs⟩ := o_bind hs
      refine w_call fnOk23 rfl rfl (way_Same_c _ _ h.lt va a (h.srS 1 rfl) ve e (h.srS 3 rfl) _ e101) ?_
      rintro _ w ⟨k102, rfl⟩
      refine ⟨_, rfl, ?_⟩
      replace h := h.grow k102
      refine wl_on rfl (congrArg Value.bool c99) ?_
      refine wl_ok (r_move (v := va) rfl) ?_
      refine wl_on rfl (congrArg Value.bool c99) ?_
      refine wl_ok (r_move (v := ve) rfl) ?_
      refine wl_on rfl (congrArg Value.bool c99) ?_
      obtain ⟨y103, e104, hs⟩ := o_bind hs
      refine w_call fnOk24 rfl rfl (wandererref_SameMail_c _ _ h.lt va a (h.srS 1 rfl) ve e (h.srS 3 rfl) _ e104) ?_
      rintro _ w ⟨k105, rfl⟩
      refine ⟨_, rfl, ?_⟩
      replace h := h.grow k105
      refine wl_on rfl (congrArg Value.bool c99) ?_
      refine wl_ok (r_neqb Try.underlying4 rfl rfl) ?_
      refine wl_ok (r_pick (b := false) (v := (.bool ((y100 != y103)))) (congrArg Value.bool c99) rfl) ?_
      refine wl_nil ?_
      refine then_loop ?_
      exact jend (y100 != y103) ⟨h.cn _, hs⟩
def wandererlaw_at (a : Int) (b : Int) : Option Int :=
  grd (0 < b) (bif decide (((Int.tmod a b) : Int) < 0) then grd (I64 ((Int.tmod a b) + b)) (some ((Int.tmod a b) + b)) else some (Int.tmod a b))
theorem wandererlaw_at_c (w0 : World) (M : BS) (hM : ∀ b, M b → b < w0.heap.size) (a : Int) (b : Int) (r : Int) (hs : wandererlaw_at a b = some r) :
    Calls Try.prog 27 #[(.int .i64 (a)), (.int .i64 (b))] w0 (fun e w' => Grow w0 w' ∧ e = .returned (.int .i64 r)) := by
  refine calls_start (args := [(.int .i64 (a)), (.int .i64 (b))]) Try.func27 rfl Try.ntmps27 (Nat.le_of_ble_eq_true rfl) ?_
  have h := SH.init hM
  refine wc_seq ?_
  refine wc_region ?_
  refine wl_ok (r_assign (v := (.int .i64 (0))) rfl) ?_
  refine wl_nil ?_
  refine then_normal ?_
  refine wc_seq ?_
  refine wc_region ?_
  refine wl_ok (r_move (v := (.int .i64 (a))) rfl) ?_
  refine wl_ok (r_move (v := (.int .i64 (b))) rfl) ?_
  obtain ⟨a1, hs⟩ := o_grd hs
  refine wl_ok (r_rem rfl rfl a1) ?_
  refine wl_ok (r_assign (v := (.int .i64 ((Int.tmod a b)))) rfl) ?_
  refine wl_nil ?_
  refine then_normal ?_
  refine wc_seq ?_
  refine wc_seq ?_
  refine wc_region ?_
  refine wl_ok (r_move (v := (.int .i64 ((Int.tmod a b)))) rfl) ?_
  refine wl_ok (r_lss rfl rfl) ?_
  refine wl_nil ?_
  refine then_normal ?_
  refine wc_ifb hs rfl (fun c2 hs => ?_) (fun c2 hs => ?_)
  · skip
    refine wc_region ?_
    refine wl_ok (r_move (v := (.int .i64 ((Int.tmod a b)))) rfl) ?_
    refine wl_ok (r_move (v := (.int .i64 (b))) rfl) ?_
    obtain ⟨a3, hs⟩ := o_grd hs
    refine wl_ok (r_add rfl rfl a3) ?_
    refine wl_ok (r_assign (v := (.int .i64 (((Int.tmod a b) + b)))) rfl) ?_
    refine wl_nil ?_
    refine then_normal ?_
    refine wc_seq ?_
    refine wc_region ?_
    refine wl_ok (r_move (v := (.int .i64 (((Int.tmod a b) + b)))) rfl) ?_
    refine wl_ok (r_assign (v := (.int .i64 (((Int.tmod a b) + b)))) rfl) ?_
    refine wl_nil ?_
    refine then_normal ?_
    refine wc_ret ?_
    refine fin1 (v := (.int .i64 (((Int.tmod a b) + b)))) Try.results27 rfl ?_
    obtain rfl := Option.some.inj hs
    exact ⟨h.grown, rfl⟩
  · skip
    refine wc_skip ?_
    refine then_normal ?_
    refine wc_seq ?_
    refine wc_region ?_
    refine wl_ok (r_move (v := (.int .i64 ((Int.tmod a b)))) rfl) ?_
    refine wl_ok (r_assign (v := (.int .i64 ((Int.tmod a b)))) rfl) ?_
    refine wl_nil ?_
    refine then_normal ?_
    refine wc_ret ?_
    refine fin1 (v := (.int .i64 ((Int.tmod a b)))) Try.results27 rfl ?_
    obtain rfl := Option.some.inj hs
    exact ⟨h.grown, rfl⟩
def wandererlaw_WayBack_j2 (c : Int) (y2 : List Mail × Int) (x28 : Bool) : Option Bool :=
  bif x28 then some false else (wandererlaw_at c (y2.1.length : Int)).bind fun y30 => (way_Take y2.1 y30 true).bind fun y33 => bif decide ((y33.2.2 : Int) = 0) then (way_Same y33.1 y2.1).bind fun y45 => bif y45 then grd (I64 (y30 + 1)) ((sub? y2.1 y30 (y30 + 1)).bind fun x52 => (way_Same [y33.2.1] x52).bind fun y60 => some y60) else some false else some false
def wandererlaw_WayBack (a : List Mail) (b : Mail) (c : Int) : Option Bool :=
  (way_Send a b).bind fun y2 => (wandererlaw_posted).bind fun y8 => bif ((!y8) || decide ((y2.2 : Int) ≠ 0)) then (wandererlaw_posted).bind fun y12 => some y12 else bif decide (((a.length : Int) : Int) = 40) then (way_Same y2.1 a).bind fun y16 => some y16 else (way_Take y2.1 (a.length : Int) false).bind fun y19 => bif decide ((y19.2.2 : Int) ≠ 0) then wandererlaw_WayBack_j2 c y2 true else (way_Same y19.1 a).bind fun y64 => bif (!y64) then wandererlaw_WayBack_j2 c y2 true else (way_Same [y19.2.1] [b]).bind fun y70 => wandererlaw_WayBack_j2 c y2 (!y70)
theorem wandererlaw_WayBack_c (w0 : World) (M : BS) (hM : ∀ b, M b → b < w0.heap.size) (va : Value) (a : List Mail) (ha : Rd2 rMail w0 BE M va a) (b : Mail) (vb5 : Value) (hb5 : RdSl rInt w0 M vb5 b.image) (c : Int) (r : Bool) (hs : wandererlaw_WayBack a b c = some r) :
    Calls Try.prog 6 #[va, (.agg #[(.int .i64 (b.from_)), (.int .i64 (b.to_)), (.int .i64 (b.co)), (.int .i64 (b.epoch)), (.bool (b.taken)), vb5]), (.int .i64 (c))] w0 (fun e w' => Grow w0 w' ∧ e = .returned (.bool r)) := by
  refine calls_start (args := [va, (.agg #[(.int .i64 (b.from_)), (.int .i64 (b.to_)), (.int .i64 (b.co)), (.int .i64 (b.epoch)), (.bool (b.taken)), vb5]), (.int .i64 (c))]) Try.func6 rfl Try.ntmps6 (Nat.le_of_ble_eq_true rfl) ?_
  have h := SH.init hM
  replace h := h.argSr 1 ha none_own
  replace h := h.argRd 2 hb5 (hupd_own_sr none_own)
  have hl_a := ha.len_le
  refine wc_seq ?_
  refine wc_region ?_
  refine w_box (cs := [(.int .i64 (b.from_)), (.int .i64 (b.to_)), (.int .i64 (b.co)), (.int .i64 (b.epoch)), (.bool (b.taken)), vb5]) h 3 rfl rfl fun w b1 h => ?_
  refine wl_ok (r_assign (v := (.bool (false))) rfl) ?_
  refine wl_nil ?_
  refine then_normal ?_
  refine wc_seq ?_
  refine wc_region ?_
  refine wl_ok (r_move (v := va) rfl) ?_
  refine wl_ok (r_ldBN (vs := [(.int .i64 (b.from_)), (.int .i64 (b.to_)), (.int .i64 (b.co)), (.int .i64 (b.epoch)), (.bool (b.taken)), vb5]) h 3 rfl Many38 rfl rfl rfl) ?_
  obtain ⟨y2, e3, hs⟩ := o_bind hs
  refine w_call fnOk18 rfl rfl (way_Send_c _ _ h.lt va a (h.srS 1 rfl) b vb5 (h.rdAt 2 rfl) _ e3) ?_
  rintro _ w ⟨k7, u4, rfl, g5, g6⟩
  refine ⟨_, rfl, ?_⟩
  replace h := h.gotOwn 4 k7 g5 g6
  refine wl_ok (r_move (v := (.tuple #[u4, (.int .i64 (y2.2))])) rfl) ?_
  refine wl_ok (r_extract rfl rfl) ?_
  refine wl_ok (r_extract rfl rfl) ?_
  refine wl_ok (r_assign (v := u4) rfl) ?_
  refine wl_ok (r_assign (v := (.int .i64 (y2.2))) rfl) ?_
  refine wl_nil ?_
  refine then_normal ?_
  refine wc_seq ?_
  refine wc_seq ?_
  refine wc_region ?_
  obtain ⟨y8, e9, hs⟩ := o_bind hs
  refine w_call fnOk21 rfl rfl (wandererlaw_posted_c _ _ h.lt  _ e9) ?_
  rintro _ w ⟨k10, rfl⟩
  refine ⟨_, rfl, ?_⟩
  replace h := h.grow k10
  refine wl_ok (r_notb rfl) ?_
  refine wl_ok (r_move (v := (.bool ((!y8)))) rfl) ?_
  refine wl_gd0 rfl rfl (fun q => r_move (v := (.int .i64 (y2.2))) rfl) ?_
  refine wl_gd0 rfl rfl (fun q => r_neq (gvt q) rfl) ?_
  refine wl_ok (r_por rfl rfl evc) ?_
  refine wl_nil ?_
  refine then_normal ?_
  refine wc_ifb hs rfl (fun c11 hs => ?_) (fun c11 hs => ?_)
  · skip
    refine wc_seq ?_
    refine wc_region ?_
    obtain ⟨y12, e13, hs⟩ := o_bind hs
    refine w_call fnOk21 rfl rfl (wandererlaw_posted_c _ _ h.lt  _ e13) ?_
    rintro _ w ⟨k14, rfl⟩
    refine ⟨_, rfl, ?_⟩
    replace h := h.grow k14
    refine wl_ok (r_assign (v := (.bool (y12))) rfl) ?_
    refine wl_nil ?_
    refine then_normal ?_
    refine wc_ret ?_
    refine then_ret ?_
    refine fin1 (v := (.bool (y12))) Try.results6 rfl ?_
    obtain rfl := Option.some.inj hs
    exact ⟨h.grown, rfl⟩
  · skip
    refine wc_skip ?_
    refine then_normal ?_
    refine wc_seq ?_
    refine wc_seq ?_
    refine wc_region ?_
    refine wl_ok (r_move (v := va) rfl) ?_
    refine wl_ok (r_len SliceOf36 rfl (h.srS 1 rfl)) ?_
    refine wl_ok (r_eql rfl rfl) ?_
    refine wl_nil ?_
    refine then_normal ?_
    refine wc_ifb hs rfl (fun c15 hs => ?_) (fun c15 hs => ?_)
    · skip
      refine wc_seq ?_
      refine wc_region ?_
      refine wl_ok (r_move (v := u4) rfl) ?_
      refine wl_ok (r_move (v := va) rfl) ?_
      obtain ⟨y16, e17, hs⟩ := o_bind hs
      refine w_call fnOk23 rfl rfl (way_Same_c _ _ h.lt u4 y2.1 (h.ownS 4 rfl) va a (h.srS 1 rfl) _ e17) ?_
      rintro _ w ⟨k18, rfl⟩
      refine ⟨_, rfl, ?_⟩
      replace h := h.grow k18
      refine wl_ok (r_assign (v := (.bool (y16))) rfl) ?_
      refine wl_nil ?_
      refine then_normal ?_
      refine wc_ret ?_
      refine then_ret ?_
      refine fin1 (v := (.bool (y16))) Try.results6 rfl ?_
      obtain rfl := Option.some.inj hs
      exact ⟨h.grown, rfl⟩
    · skip
      refine wc_skip ?_
      refine then_normal ?_
      refine wc_seq ?_
      refine wc_region ?_
      refine wl_ok (r_move (v := u4) rfl) ?_
      refine wl_ok (r_move (v := va) rfl) ?_
      refine wl_ok (r_len SliceOf36 rfl (h.srS 1 rfl)) ?_
      obtain ⟨y19, e20, hs⟩ := o_bind hs
      refine w_call fnOk19 rfl rfl (way_Take_c _ _ h.lt u4 y2.1 (h.ownS 4 rfl) (a.length : Int) false _ e20) ?_
      rintro _ w ⟨k26, u21, u24, rfl, g22, g23, g25⟩
      refine ⟨_, rfl, ?_⟩
      replace h := h.gotOwn 5 k26 g22 g23
      replace h := h.knowRd 6 g25.upO
      refine wl_ok (r_move (v := (.tuple #[u21, (.agg #[(.int .i64 (y19.2.1.from_)), (.int .i64 (y19.2.1.to_)), (.int .i64 (y19.2.1.co)), (.int .i64 (y19.2.1.epoch)), (.bool (y19.2.1.taken)), u24]), (.int .i64 (y19.2.2))])) rfl) ?_
      refine wl_ok (r_extract rfl rfl) ?_
      refine wl_ok (r_extract rfl rfl) ?_
      refine wl_ok (r_extract rfl rfl) ?_
      refine w_allocN h 7 Many38 fun w b27 h => ?_
      refine wl_ok (r_assign (v := u21) rfl) ?_
      refine w_stN (vs := [(.int .i64 (y19.2.1.from_)), (.int .i64 (y19.2.1.to_)), (.int .i64 (y19.2.1.co)), (.int .i64 (y19.2.1.epoch)), (.bool (y19.2.1.taken)), u24]) h 7 [(.int .i64 (y19.2.1.from_)), (.int .i64 (y19.2.1.to_)), (.int .i64 (y19.2.1.co)), (.int .i64 (y19.2.1.epoch)), (.bool (y19.2.1.taken)), u24] rfl Many38 rfl rfl rfl rfl rfl (ones_cons rfl (ones_cons rfl (ones_cons rfl (ones_cons rfl (ones_cons rfl (ones_cons (h.rdAt 6 rfl).one ones_nil)))))) fun w h => ?_
      refine wl_ok (r_assign (v := (.int .i64 (y19.2.2))) rfl) ?_
      refine wl_nil ?_
      refine then_normal ?_
      refine wc_seq ?_
      refine wc_join (σ := Bool) (inl [40, 41, 42, 43, 44, 45, 46, 47, 48, 49, 50, 51, 52, 53, 54, 55]) (fun x28 => [(55, (.bool (x28)))]) (fun x28 w => SH w0 M BE w (hset [(4, .own rMail 38 u4 y2.1)]) ∧ wandererlaw_WayBack_j2 c y2 x28 = some r) ?_ ?_
      · rintro x28 w junk ⟨h, hs⟩
        refine wc_ifb hs rfl (fun c29 hs => ?_) (fun c29 hs => ?_)
        · skip
          refine wc_seq ?_
          refine wc_region ?_
          refine wl_ok (r_assign (v := (.bool (false))) rfl) ?_
          refine wl_nil ?_
          refine then_normal ?_
          refine wc_ret ?_
          refine then_ret ?_
          refine fin1 (v := (.bool (false))) Try.results6 rfl ?_
          obtain rfl := Option.some.inj hs
          exact ⟨h.grown, rfl⟩
        · skip
          refine wc_skip ?_
          refine then_normal ?_
          refine wc_seq ?_
          refine wc_region ?_
          refine wl_ok (r_move (v := (.int .i64 (c))) rfl) ?_
          refine wl_ok (r_move (v := u4) rfl) ?_
          refine wl_ok (r_len SliceOf36 rfl (h.ownS 4 rfl)) ?_
          obtain ⟨y30, e31, hs⟩ := o_bind hs
          refine w_call fnOk27 rfl rfl (wandererlaw_at_c _ _ h.lt c (y2.1.length : Int) _ e31) ?_
          rintro _ w ⟨k32, rfl⟩
          refine ⟨_, rfl, ?_⟩
          replace h := h.grow k32
          refine wl_ok (r_assign (v := (.int .i64 (y30))) rfl) ?_
          refine wl_nil ?_
          refine then_normal ?_
          refine wc_seq ?_
          refine wc_region ?_
          refine wl_ok (r_move (v := u4) rfl) ?_
          refine wl_ok (r_move (v := (.int .i64 (y30))) rfl) ?_
          obtain ⟨y33, e34, hs⟩ := o_bind hs
          refine w_call fnOk19 rfl rfl (way_Take_c _ _ h.lt u4 y2.1 (h.ownS 4 rfl) y30 true _ e34) ?_
          rintro _ w ⟨k40, u35, u38, rfl, g36, g37, g39⟩
          refine ⟨_, rfl, ?_⟩
          replace h := h.gotOwn 8 k40 g36 g37
          replace h := h.knowRd 9 g39.upO
          refine wl_ok (r_move (v := (.tuple #[u35, (.agg #[(.int .i64 (y33.2.1.from_)), (.int .i64 (y33.2.1.to_)), (.int .i64 (y33.2.1.co)), (.int .i64 (y33.2.1.epoch)), (.bool (y33.2.1.taken)), u38]), (.int .i64 (y33.2.2))])) rfl) ?_
          refine wl_ok (r_extract rfl rfl) ?_
          refine wl_ok (r_extract rfl rfl) ?_
          refine wl_ok (r_extract rfl rfl) ?_
          refine w_allocN h 10 Many38 fun w b41 h => ?_
          refine wl_ok (r_assign (v := u35) rfl) ?_
          refine w_stN (vs := [(.int .i64 (y33.2.1.from_)), (.int .i64 (y33.2.1.to_)), (.int .i64 (y33.2.1.co)), (.int .i64 (y33.2.1.epoch)), (.bool (y33.2.1.taken)), u38]) h 10 [(.int .i64 (y33.2.1.from_)), (.int .i64 (y33.2.1.to_)), (.int .i64 (y33.2.1.co)), (.int .i64 (y33.2.1.epoch)), (.bool (y33.2.1.taken)), u38] rfl Many38 rfl rfl rfl rfl rfl (ones_cons rfl (ones_cons rfl (ones_cons rfl (ones_cons rfl (ones_cons rfl (ones_cons (h.rdAt 9 rfl).one ones_nil)))))) fun w h => ?_
          refine wl_ok (r_assign (v := (.int .i64 (y33.2.2))) rfl) ?_
          refine wl_nil ?_
          refine then_normal ?_
          refine wc_seq ?_
          refine wc_held mixed h fun w h => ?_
          refine wh_ok 0 (Keep.refl BE _) rfl want_none (by kernel_rfl) (by kernel_rfl) (by kernel_rfl) (fun w hk => r_move (v := (.int .i64 (y33.2.2))) rfl) ?_
          refine wh_ok 1 (Keep.refl BE _) rfl want_none (by kernel_rfl) (by kernel_rfl) (by kernel_rfl) (fun w hk => r_eql rfl rfl) ?_
          refine wh_ok 2 (Keep.refl BE _) rfl want_none (by kernel_rfl) (by kernel_rfl) (by kernel_rfl) (fun w hk => r_move (v := (.bool (decide ((y33.2.2 : Int) = 0)))) rfl) ?_
          refine c_split (b := decide ((y33.2.2 : Int) = 0)) hs (fun c42 hs => ?_) (fun c42 hs => ?_)
          · skip
            refine wh_ok 3 (Keep.refl BE _) rfl (want_on rfl (congrArg Value.bool c42)) (by kernel_rfl) (by kernel_rfl) (by kernel_rfl) (fun w hk => r_move (v := u35) rfl) ?_
            refine wh_ok 4 (Keep.refl BE _) rfl (want_on rfl (congrArg Value.bool c42)) (by kernel_rfl) (by kernel_rfl) (by kernel_rfl) (fun w hk => r_move (v := u4) rfl) ?_
            obtain ⟨ws43, ws43e⟩ : ∃ x, x = w := ⟨_, rfl⟩
            have hg44 : Grow ws43 w := ws43e ▸ Keep.refl BE w
            refine wh_at ws43e.symm ?_
            refine wh_eff 5 (by kernel_rfl) rfl (want_on rfl (congrArg Value.bool c42)) ?_
            obtain ⟨y45, e46, hs⟩ := o_bind hs
            refine w_call fnOk23 rfl rfl (way_Same_c _ _ h.lt u35 y33.1 (h.ownS 8 rfl) u4 y2.1 (h.ownS 4 rfl) _ e46) ?_
            rintro _ w ⟨k47, rfl⟩
            refine ⟨_, rfl, ?_⟩
            replace h := h.grow k47
            replace hg44 := hg44.trans k47
            refine wl_nil ?_
            refine wh_back hg44 ?_
            refine wh_ok 6 hg44 rfl want_none (by kernel_rfl) (by kernel_rfl) (by kernel_rfl) (fun w hk => r_pick (b := true) (v := (.bool (y45))) (congrArg Value.bool c42) rfl) ?_
            refine wh_ok 7 hg44 rfl want_none (by kernel_rfl) (by kernel_rfl) (by kernel_rfl) (fun w hk => r_move (v := (.bool (y45))) rfl) ?_
            refine c_split (b := y45) hs (fun c48 hs => ?_) (fun c48 hs => ?_)
            · skip
              refine wh_base hg44 ?_
              obtain ⟨ws49, ws49e⟩ : ∃ x, x = w := ⟨_, rfl⟩
              have hg50 : Grow ws49 w := ws49e ▸ Keep.refl _ _
              refine wh_ok 8 (Keep.refl BE _) rfl (want_on rfl (congrArg Value.bool c48)) (by kernel_rfl) (by kernel_rfl) (by kernel_rfl) (fun w hk => have h := h.grow hk; r_ldBN (vs := [(.int .i64 (y33.2.1.from_)), (.int .i64 (y33.2.1.to_)), (.int .i64 (y33.2.1.co)), (.int .i64 (y33.2.1.epoch)), (.bool (y33.2.1.taken)), u38]) h 10 rfl Many38 rfl rfl rfl) ?_
              refine wh_ok 10 (Keep.refl BE _) rfl (want_on rfl (congrArg Value.bool c48)) (by kernel_rfl) (by kernel_rfl) (by kernel_rfl) (fun w hk => r_move (v := u4) rfl) ?_
              refine wh_ok 11 (Keep.refl BE _) rfl (want_on rfl (congrArg Value.bool c48)) (by kernel_rfl) (by kernel_rfl) (by kernel_rfl) (fun w hk => r_move (v := (.int .i64 (y30))) rfl) ?_
              refine wh_ok 12 (Keep.refl BE _) rfl (want_on rfl (congrArg Value.bool c48)) (by kernel_rfl) (by kernel_rfl) (by kernel_rfl) (fun w hk => r_move (v := (.int .i64 (y30))) rfl) ?_
              obtain ⟨a51, hs⟩ := o_grd hs
              refine wh_ok 13 (Keep.refl BE _) rfl (want_on rfl (congrArg Value.bool c48)) (by kernel_rfl) (by kernel_rfl) (by kernel_rfl) (fun w hk => r_add rfl rfl a51) ?_
              obtain ⟨x52, e53, hs⟩ := o_bind hs
              obtain ⟨e56, e56a, e56b, e56c⟩ := o_sub e53
              obtain ⟨u54, i55, -, i55v⟩ := r_slv SliceOf36 (h.ownS 4 rfl) e56a e56b e56c
              refine wh_ok 14 (Keep.refl BE _) rfl (want_on rfl (congrArg Value.bool c48)) (by kernel_rfl) (by kernel_rfl) (by kernel_rfl) (fun w hk => i55 _ _ _ _ _ _ _ _ _ _ rfl (.inr (congrArg some rfl)) (.inr (congrArg some rfl))) ?_
              obtain ⟨ws57, ws57e⟩ : ∃ x, x = w := ⟨_, rfl⟩
              have hg58 : Grow ws57 w := ws57e ▸ Keep.refl BE w
              refine wh_at ws57e.symm ?_
              refine wh_eff 9 (by kernel_rfl) rfl (want_on rfl (congrArg Value.bool c48)) ?_
              refine w_bsG (R := rMail) (vs := [(.agg #[(.int .i64 (y33.2.1.from_)), (.int .i64 (y33.2.1.to_)), (.int .i64 (y33.2.1.co)), (.int .i64 (y33.2.1.epoch)), (.bool (y33.2.1.taken)), u38])]) (xs := [y33.2.1]) h 12 ElemOf36 rfl rfl rfl ⟨⟨_, rfl, (h.rdAt 9 rfl)⟩, trivial⟩ rfl fun w u59 h u59k u59f => ?_
              have u59q : ∀ b, ob u59 b → ws57.heap.size ≤ b := fun b hb => Nat.le_trans hg58.size (u59f b hb)
              replace hg58 := hg58.trans u59k
              refine wl_nil ?_
              refine wh_back hg58 ?_
              refine wh_eff 15 (by kernel_rfl) rfl (want_on rfl (congrArg Value.bool c48)) ?_
              obtain ⟨y60, e61, hs⟩ := o_bind hs
              refine w_call fnOk23 rfl rfl (way_Same_c _ _ h.lt u59 [y33.2.1] (h.ownS 12 rfl) u54 x52 (by rw [e56]; exact i55v _ _ _ _ (h.ownS 4 rfl) rfl) _ e61) ?_
              rintro _ w ⟨k62, rfl⟩
              refine ⟨_, rfl, ?_⟩
              replace h := h.grow k62
              replace hg58 := hg58.trans k62
              refine wl_nil ?_
              refine wh_back hg58 ?_
              refine wh_ok 16 hg58 rfl want_none (by kernel_rfl) (by kernel_rfl) (by kernel_rfl) (fun w hk => r_pick (b := true) (v := (.bool (y60))) (congrArg Value.bool c48) rfl) ?_
              refine wh_ok 17 hg58 rfl want_none (by kernel_rfl) (by kernel_rfl) (by kernel_rfl) (fun w hk => r_assign (v := (.bool (y60))) rfl) ?_
              refine wh_done (by kernel_rfl) ?_
              refine then_normal ?_
              refine wc_ret ?_
              refine fin1 (v := (.bool (y60))) Try.results6 rfl ?_
              obtain rfl := Option.some.inj hs
              exact ⟨h.grown, rfl⟩
            · skip
              refine wh_skip 8 hg44 rfl (want_off (b' := false) rfl (congrArg Value.bool c48) rfl) (by kernel_rfl) (by kernel_rfl) (by kernel_rfl) ?_
              refine wh_skip 9 hg44 rfl (want_off (b' := false) rfl (congrArg Value.bool c48) rfl) (by kernel_rfl) (by kernel_rfl) (by kernel_rfl) ?_
              refine wh_skip 10 hg44 rfl (want_off (b' := false) rfl (congrArg Value.bool c48) rfl) (by kernel_rfl) (by kernel_rfl) (by kernel_rfl) ?_
              refine wh_skip 11 hg44 rfl (want_off (b' := false) rfl (congrArg Value.bool c48) rfl) (by kernel_rfl) (by kernel_rfl) (by kernel_rfl) ?_
              refine wh_skip 12 hg44 rfl (want_off (b' := false) rfl (congrArg Value.bool c48) rfl) (by kernel_rfl) (by kernel_rfl) (by kernel_rfl) ?_
              refine wh_skip 13 hg44 rfl (want_off (b' := false) rfl (congrArg Value.bool c48) rfl) (by kernel_rfl) (by kernel_rfl) (by kernel_rfl) ?_
              refine wh_skip 14 hg44 rfl (want_off (b' := false) rfl (congrArg Value.bool c48) rfl) (by kernel_rfl) (by kernel_rfl) (by kernel_rfl) ?_
              refine wh_skip 15 hg44 rfl (want_off (b' := false) rfl (congrArg Value.bool c48) rfl) (by kernel_rfl) (by kernel_rfl) (by kernel_rfl) ?_
              refine wh_ok 16 hg44 rfl want_none (by kernel_rfl) (by kernel_rfl) (by kernel_rfl) (fun w hk => r_pick (b := false) (v := (.bool (false))) (congrArg Value.bool c48) rfl) ?_
              refine wh_ok 17 hg44 rfl want_none (by kernel_rfl) (by kernel_rfl) (by kernel_rfl) (fun w hk => r_assign (v := (.bool (false))) rfl) ?_
              refine wh_done (by kernel_rfl) ?_
              refine then_normal ?_
              refine wc_ret ?_
              refine fin1 (v := (.bool (false))) Try.results6 rfl ?_
              obtain rfl := Option.some.inj hs
              exact ⟨h.grown, rfl⟩
          · skip
            refine wh_skip 3 (Keep.refl BE _) rfl (want_off (b' := false) rfl (congrArg Value.bool c42) rfl) (by kernel_rfl) (by kernel_rfl) (by kernel_rfl) ?_
            refine wh_skip 4 (Keep.refl BE _) rfl (want_off (b' := false) rfl (congrArg Value.bool c42) rfl) (by kernel_rfl) (by kernel_rfl) (by kernel_rfl) ?_
            refine wh_skip 5 (Keep.refl BE _) rfl (want_off (b' := false) rfl (congrArg Value.bool c42) rfl) (by kernel_rfl) (by kernel_rfl) (by kernel_rfl) ?_
            refine wh_ok 6 (Keep.refl BE _) rfl want_none (by kernel_rfl) (by kernel_rfl) (by kernel_rfl) (fun w hk => r_pick (b := false) (v := (.bool (false))) (congrArg Value.bool c42) rfl) ?_
            refine wh_ok 7 (Keep.refl BE _) rfl want_none (by kernel_rfl) (by kernel_rfl) (by kernel_rfl) (fun w hk => r_move (v := (.bool (false))) rfl) ?_
            refine wh_skip 8 (Keep.refl BE _) rfl (want_off (b' := false) rfl rfl rfl) (by kernel_rfl) (by kernel_rfl) (by kernel_rfl) ?_
            refine wh_skip 9 (Keep.refl BE _) rfl (want_off (b' := false) rfl rfl rfl) (by kernel_rfl) (by kernel_rfl) (by kernel_rfl) ?_
            refine wh_skip 10 (Keep.refl BE _) rfl (want_off (b' := false) rfl rfl rfl) (by kernel_rfl) (by kernel_rfl) (by kernel_rfl) ?_
            refine wh_skip 11 (Keep.refl BE _) rfl (want_off (b' := false) rfl rfl rfl) (by kernel_rfl) (by kernel_rfl) (by kernel_rfl) ?_
            refine wh_skip 12 (Keep.refl BE _) rfl (want_off (b' := false) rfl rfl rfl) (by kernel_rfl) (by kernel_rfl) (by kernel_rfl) ?_
            refine wh_skip 13 (Keep.refl BE _) rfl (want_off (b' := false) rfl rfl rfl) (by kernel_rfl) (by kernel_rfl) (by kernel_rfl) ?_
            refine wh_skip 14 (Keep.refl BE _) rfl (want_off (b' := false) rfl rfl rfl) (by kernel_rfl) (by kernel_rfl) (by kernel_rfl) ?_
            refine wh_skip 15 (Keep.refl BE _) rfl (want_off (b' := false) rfl rfl rfl) (by kernel_rfl) (by kernel_rfl) (by kernel_rfl) ?_
            refine wh_ok 16 (Keep.refl BE _) rfl want_none (by kernel_rfl) (by kernel_rfl) (by kernel_rfl) (fun w hk => r_pick (b := false) (v := (.bool (false))) rfl rfl) ?_
            refine wh_ok 17 (Keep.refl BE _) rfl want_none (by kernel_rfl) (by kernel_rfl) (by kernel_rfl) (fun w hk => r_assign (v := (.bool (false))) rfl) ?_
            refine wh_done (by kernel_rfl) ?_
            refine then_normal ?_
            refine wc_ret ?_
            refine fin1 (v := (.bool (false))) Try.results6 rfl ?_
            obtain rfl := Option.some.inj hs
            exact ⟨h.grown, rfl⟩
      · skip
        refine wc_region ?_
        refine wl_ok (r_move (v := (.int .i64 (y19.2.2))) rfl) ?_
        refine wl_ok (r_neq rfl rfl) ?_
        refine wl_ok (r_move (v := (.bool (decide ((y19.2.2 : Int) ≠ 0)))) rfl) ?_
        refine c_split (b := decide ((y19.2.2 : Int) ≠ 0)) hs (fun c63 hs => ?_) (fun c63 hs => ?_)
        · skip
          refine wl_off (b' := true) rfl (congrArg Value.bool c63) rfl ?_
          refine wl_off (b' := true) rfl (congrArg Value.bool c63) rfl ?_
          refine wl_off (b' := true) rfl (congrArg Value.bool c63) rfl ?_
          refine wl_off (b' := true) rfl (congrArg Value.bool c63) rfl ?_
          refine wl_ok (r_pick (b := true) (v := (.bool (true))) (congrArg Value.bool c63) rfl) ?_
          refine wl_ok (r_move (v := (.bool (true))) rfl) ?_
          refine wl_off (b' := true) rfl rfl rfl ?_
          refine wl_off (b' := true) rfl rfl rfl ?_
          refine wl_off (b' := true) rfl rfl rfl ?_
          refine wl_off (b' := true) rfl rfl rfl ?_
          refine wl_off (b' := true) rfl rfl rfl ?_
          refine wl_off (b' := true) rfl rfl rfl ?_
          refine wl_ok (r_pick (b := true) (v := (.bool (true))) rfl rfl) ?_
          refine wl_nil ?_
          refine then_loop ?_
          exact jend true ⟨h.cn _, hs⟩
        · skip
          refine wl_on rfl (congrArg Value.bool c63) ?_
          refine wl_ok (r_move (v := u21) rfl) ?_
          refine wl_on rfl (congrArg Value.bool c63) ?_
          refine wl_ok (r_move (v := va) rfl) ?_
          refine wl_on rfl (congrArg Value.bool c63) ?_
          obtain ⟨y64, e65, hs⟩ := o_bind hs
          refine w_call fnOk23 rfl rfl (way_Same_c _ _ h.lt u21 y19.1 (h.ownS 5 rfl) va a (h.srS 1 rfl) _ e65) ?_
          rintro _ w ⟨k66, rfl⟩
          refine ⟨_, rfl, ?_⟩
          replace h := h.grow k66
          refine wl_on rfl (congrArg Value.bool c63) ?_
          refine wl_ok (r_notb rfl) ?_
          refine wl_ok (r_pick (b := false) (v := (.bool ((!y64)))) (congrArg Value.bool c63) rfl) ?_
          refine wl_ok (r_move (v := (.bool ((!y64)))) rfl) ?_
          refine c_split (b := (!y64)) hs (fun c67 hs => ?_) (fun c67 hs => ?_)
          · skip
            refine wl_off (b' := true) rfl (congrArg Value.bool c67) rfl ?_
            refine wl_off (b' := true) rfl (congrArg Value.bool c67) rfl ?_
            refine wl_off (b' := true) rfl (congrArg Value.bool c67) rfl ?_
            refine wl_off (b' := true) rfl (congrArg Value.bool c67) rfl ?_
            refine wl_off (b' := true) rfl (congrArg Value.bool c67) rfl ?_
            refine wl_off (b' := true) rfl (congrArg Value.bool c67) rfl ?_
            refine wl_ok (r_pick (b := true) (v := (.bool (true))) (congrArg Value.bool c67) rfl) ?_
            refine wl_nil ?_
            refine then_loop ?_
            exact jend true ⟨h.cn _, hs⟩
          · skip
            refine wl_on rfl (congrArg Value.bool c67) ?_
            refine wl_ok (r_ldBN (vs := [(.int .i64 (y19.2.1.from_)), (.int .i64 (y19.2.1.to_)), (.int .i64 (y19.2.1.co)), (.int .i64 (y19.2.1.epoch)), (.bool (y19.2.1.taken)), u24]) h 7 rfl Many38 rfl rfl rfl) ?_
            refine wl_on rfl (congrArg Value.bool c67) ?_
            refine w_bs (R := rMail) (vs := [(.agg #[(.int .i64 (y19.2.1.from_)), (.int .i64 (y19.2.1.to_)), (.int .i64 (y19.2.1.co)), (.int .i64 (y19.2.1.epoch)), (.bool (y19.2.1.taken)), u24])]) (xs := [y19.2.1]) h 13 ElemOf36 rfl rfl rfl ⟨⟨_, rfl, (h.rdAt 6 rfl)⟩, trivial⟩ rfl fun w u68 h => ?_
            refine wl_on rfl (congrArg Value.bool c67) ?_
            refine wl_ok (r_ldBN (vs := [(.int .i64 (b.from_)), (.int .i64 (b.to_)), (.int .i64 (b.co)), (.int .i64 (b.epoch)), (.bool (b.taken)), vb5]) h 3 rfl Many38 rfl rfl rfl) ?_
            refine wl_on rfl (congrArg Value.bool c67) ?_
            refine w_bs (R := rMail) (vs := [(.agg #[(.int .i64 (b.from_)), (.int .i64 (b.to_)), (.int .i64 (b.co)), (.int .i64 (b.epoch)), (.bool (b.taken)), vb5])]) (xs := [b]) h 14 ElemOf36 rfl rfl rfl ⟨⟨_, rfl, (h.rdAt 2 rfl)⟩, trivial⟩ rfl fun w u69 h => ?_
            refine wl_on rfl (congrArg Value.bool c67) ?_
            obtain ⟨y70, e71, hs⟩ := o_bind hs
            refine w_call fnOk23 rfl rfl (way_Same_c _ _ h.lt u68 [y19.2.1] (h.ownS 13 rfl) u69 [b] (h.ownS 14 rfl) _ e71) ?_
            rintro _ w ⟨k72, rfl⟩
            refine ⟨_, rfl, ?_⟩
            replace h := h.grow k72
            refine wl_on rfl (congrArg Value.bool c67) ?_
            refine wl_ok (r_notb rfl) ?_
            refine wl_ok (r_pick (b := false) (v := (.bool ((!y70)))) (congrArg Value.bool c67) rfl) ?_
            refine wl_nil ?_
            refine then_loop ?_
            exact jend (!y70) ⟨h.cn _, hs⟩
end Go.Proofs.Ytkjajililnbimaa
