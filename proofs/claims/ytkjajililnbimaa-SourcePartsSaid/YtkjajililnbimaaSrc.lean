/-
  Functions of the program, each as plain Lean, and that the code does just that.
-/
import Derived.Test.YtkjajililnbimaaProg
import Derived.Test.YtkjajililnbimaaLift
import Derived.Test.YtkjajililnbimaaSrcStrs
set_option linter.unusedSimpArgs false
set_option linter.unusedVariables false
set_option maxRecDepth 10000
namespace Go.Proofs.Ytkjajililnbimaa
open Go Go.Proofs Go.LX
theorem Arr2130 : Arr2 Try.prog 130 76 := ⟨Try.underlying130, ⟨(.slice none 0 0), (.slice none 0 0), by kernel_rfl⟩, by kernel_rfl, ⟨_, Try.underlying76⟩⟩
theorem ElemOf132 : ElemOf Try.prog 132 76 1 24 := ⟨Try.underlying132, elem_of (z := (.slice none 0 0)) (by kernel_rfl) rfl⟩
theorem ElemOf24 : ElemOf Try.prog 24 3 1 8 := ⟨Try.underlying24, elem_of (z := (.int .i64 (0))) (by kernel_rfl) rfl⟩
theorem ElemOf70 : ElemOf Try.prog 70 78 3 40 := ⟨Try.underlying70, elem_of (z := (.agg #[(.int .i64 (0)), (.int .i64 (0)), (.slice none 0 0)])) (by kernel_rfl) rfl⟩
theorem ElemOf71 : ElemOf Try.prog 71 112 2 16 := ⟨Try.underlying71, elem_of (z := (.agg #[(.int .i64 (0)), (.int .i64 (0))])) (by kernel_rfl) rfl⟩
theorem ElemOf76 : ElemOf Try.prog 76 82 6 112 := ⟨Try.underlying76, elem_of (z := (.agg #[(.int .i64 (0)), (.int .i64 (0)), (.slice none 0 0), (.slice none 0 0), (.slice none 0 0), (.slice none 0 0)])) (by kernel_rfl) rfl⟩
theorem Fld112x0 : FieldAt Try.prog 112 0 0 := ⟨_, _, 0, Try.underlying112, rfl, rfl, by kernel_rfl⟩
theorem Fld112x1 : FieldAt Try.prog 112 1 1 := ⟨_, _, 0, Try.underlying112, rfl, rfl, by kernel_rfl⟩
theorem Fld78x0 : FieldAt Try.prog 78 0 0 := ⟨_, _, 0, Try.underlying78, rfl, rfl, by kernel_rfl⟩
theorem Fld78x1 : FieldAt Try.prog 78 1 1 := ⟨_, _, 0, Try.underlying78, rfl, rfl, by kernel_rfl⟩
theorem Fld78x2 : FieldAt Try.prog 78 2 2 := ⟨_, _, 0, Try.underlying78, rfl, rfl, by kernel_rfl⟩
theorem Fld82x0 : FieldAt Try.prog 82 0 0 := ⟨_, _, 0, Try.underlying82, rfl, rfl, by kernel_rfl⟩
theorem Fld82x1 : FieldAt Try.prog 82 1 1 := ⟨_, _, 0, Try.underlying82, rfl, rfl, by kernel_rfl⟩
theorem Fld82x2 : FieldAt Try.prog 82 2 2 := ⟨_, _, 0, Try.underlying82, rfl, rfl, by kernel_rfl⟩
theorem Fld82x3 : FieldAt Try.prog 82 3 3 := ⟨_, _, 0, Try.underlying82, rfl, rfl, by kernel_rfl⟩
theorem Fld82x4 : FieldAt Try.prog 82 4 4 := ⟨_, _, 0, Try.underlying82, rfl, rfl, by kernel_rfl⟩
theorem Fld82x5 : FieldAt Try.prog 82 5 5 := ⟨_, _, 0, Try.underlying82, rfl, rfl, by kernel_rfl⟩
theorem fnOk107 : FnOk Try.prog 107 := ⟨_, Try.func107, by kernel_rfl, rfl⟩
theorem fnOk108 : FnOk Try.prog 108 := ⟨_, Try.func108, by kernel_rfl, rfl⟩
theorem fnOk109 : FnOk Try.prog 109 := ⟨_, Try.func109, by kernel_rfl, rfl⟩
theorem fnOk110 : FnOk Try.prog 110 := ⟨_, Try.func110, by kernel_rfl, rfl⟩
theorem fnOk111 : FnOk Try.prog 111 := ⟨_, Try.func111, by kernel_rfl, rfl⟩
theorem fnOk112 : FnOk Try.prog 112 := ⟨_, Try.func112, by kernel_rfl, rfl⟩
theorem fnOk113 : FnOk Try.prog 113 := ⟨_, Try.func113, by kernel_rfl, rfl⟩
theorem fnOk43 : FnOk Try.prog 43 := ⟨_, Try.func43, by kernel_rfl, rfl⟩
theorem fnOk44 : FnOk Try.prog 44 := ⟨_, Try.func44, by kernel_rfl, rfl⟩
theorem fnOk45 : FnOk Try.prog 45 := ⟨_, Try.func45, by kernel_rfl, rfl⟩
theorem fnOk46 : FnOk Try.prog 46 := ⟨_, Try.func46, by kernel_rfl, rfl⟩
theorem fnOk47 : FnOk Try.prog 47 := ⟨_, Try.func47, by kernel_rfl, rfl⟩
theorem fnOk48 : FnOk Try.prog 48 := ⟨_, Try.func48, by kernel_rfl, rfl⟩
theorem fnOk49 : FnOk Try.prog 49 := ⟨_, Try.func49, by kernel_rfl, rfl⟩
theorem fnOk64 : FnOk Try.prog 64 := ⟨_, Try.func64, by kernel_rfl, rfl⟩
theorem fnOk68 : FnOk Try.prog 68 := ⟨_, Try.func68, by kernel_rfl, rfl⟩
theorem fnOk69 : FnOk Try.prog 69 := ⟨_, Try.func69, by kernel_rfl, rfl⟩
theorem fnOk83 : FnOk Try.prog 83 := ⟨_, Try.func83, by kernel_rfl, rfl⟩
theorem fnOk84 : FnOk Try.prog 84 := ⟨_, Try.func84, by kernel_rfl, rfl⟩
theorem fnOk85 : FnOk Try.prog 85 := ⟨_, Try.func85, by kernel_rfl, rfl⟩
theorem fnOk86 : FnOk Try.prog 86 := ⟨_, Try.func86, by kernel_rfl, rfl⟩
theorem fnOk87 : FnOk Try.prog 87 := ⟨_, Try.func87, by kernel_rfl, rfl⟩
theorem fnOk88 : FnOk Try.prog 88 := ⟨_, Try.func88, by kernel_rfl, rfl⟩
theorem fnOk89 : FnOk Try.prog 89 := ⟨_, Try.func89, by kernel_rfl, rfl⟩
theorem fnOk90 : FnOk Try.prog 90 := ⟨_, Try.func90, by kernel_rfl, rfl⟩
theorem fnOk91 : FnOk Try.prog 91 := ⟨_, Try.func91, by kernel_rfl, rfl⟩
theorem fnOk92 : FnOk Try.prog 92 := ⟨_, Try.func92, by kernel_rfl, rfl⟩
theorem fnOk93 : FnOk Try.prog 93 := ⟨_, Try.func93, by kernel_rfl, rfl⟩
theorem fnOk94 : FnOk Try.prog 94 := ⟨_, Try.func94, by kernel_rfl, rfl⟩
theorem fnOk95 : FnOk Try.prog 95 := ⟨_, Try.func95, by kernel_rfl, rfl⟩
theorem fnOk96 : FnOk Try.prog 96 := ⟨_, Try.func96, by kernel_rfl, rfl⟩
theorem fnOk97 : FnOk Try.prog 97 := ⟨_, Try.func97, by kernel_rfl, rfl⟩
theorem Many112 : Many Try.prog 112 [(.int .i64 (0)), (.int .i64 (0))] := ⟨⟨_, Try.underlying112, trivial⟩, by kernel_rfl⟩
theorem Many78 : Many Try.prog 78 [(.int .i64 (0)), (.int .i64 (0)), (.slice none 0 0)] := ⟨⟨_, Try.underlying78, trivial⟩, by kernel_rfl⟩
theorem Many82 : Many Try.prog 82 [(.int .i64 (0)), (.int .i64 (0)), (.slice none 0 0), (.slice none 0 0), (.slice none 0 0), (.slice none 0 0)] := ⟨⟨_, Try.underlying82, trivial⟩, by kernel_rfl⟩
theorem MapOf134 : MapOf Try.prog 134 (strV []) := ⟨_, _, Try.underlying134, Try.underlying3, by kernel_rfl⟩
theorem One3 : One Try.prog 3 (.int .i64 (0)) := ⟨⟨_, Try.underlying3, trivial⟩, by kernel_rfl, rfl⟩
theorem One71 : One Try.prog 71 (.slice none 0 0) := ⟨⟨_, Try.underlying71, trivial⟩, by kernel_rfl, rfl⟩
theorem One76 : One Try.prog 76 (.slice none 0 0) := ⟨⟨_, Try.underlying76, trivial⟩, by kernel_rfl, rfl⟩
theorem One9 : One Try.prog 9 (strV []) := ⟨⟨_, Try.underlying9, trivial⟩, by kernel_rfl, rfl⟩
theorem PairI112 : PairI Try.prog 112 := ⟨⟨_, _, Try.underlying112, by decide, by decide, rfl, rfl, Try.underlying3, Try.underlying3, by kernel_rfl, by kernel_rfl⟩, by kernel_rfl, by kernel_rfl⟩
theorem SliceOf132 : SliceOf Try.prog 132 76 1 := ⟨Try.underlying132, by kernel_rfl⟩
theorem SliceOf24 : SliceOf Try.prog 24 3 1 := ⟨Try.underlying24, by kernel_rfl⟩
theorem SliceOf70 : SliceOf Try.prog 70 78 3 := ⟨Try.underlying70, by kernel_rfl⟩
theorem SliceOf71 : SliceOf Try.prog 71 112 2 := ⟨Try.underlying71, by kernel_rfl⟩
theorem SliceOf76 : SliceOf Try.prog 76 82 6 := ⟨Try.underlying76, by kernel_rfl⟩
theorem Struct112 : Struct Try.prog 112 [(.int .i64 (0)), (.int .i64 (0))] [(0, 1), (1, 1)] := ⟨by kernel_rfl, _, Try.underlying112, by kernel_rfl⟩
theorem Struct78 : Struct Try.prog 78 [(.int .i64 (0)), (.int .i64 (0)), (.slice none 0 0)] [(0, 1), (1, 1), (2, 1)] := ⟨by kernel_rfl, _, Try.underlying78, by kernel_rfl⟩
theorem Struct82 : Struct Try.prog 82 [(.int .i64 (0)), (.int .i64 (0)), (.slice none 0 0), (.slice none 0 0), (.slice none 0 0), (.slice none 0 0)] [(0, 1), (1, 1), (2, 1), (3, 1), (4, 1), (5, 1)] := ⟨by kernel_rfl, _, Try.underlying82, by kernel_rfl⟩
theorem mixed : Try.prog.follows .mixedOrders = true := by kernel_rfl
def source_count_j26 (nx10 : Int → Option (Int × Bool)) (x30 : Int) : Option (Int × Bool) :=
  nx10 x30
def source_count_j25 (F0 : List GStmt → Int → Option (Int × Bool)) (x8 : GStmt) (b : Int) (nx10 : Int → Option (Int × Bool)) (x29 : Int) : Option (Int × Bool) :=
  bif decide (((x8.b.length : Int) : Int) = 0) then source_count_j26 nx10 x29 else grd (I64 (b + 1)) ((F0 x8.b (b + 1)).bind fun y33 => grd (I64 (x29 + y33.1)) (bif ((!y33.2) || decide ((30 : Int) < (x29 + y33.1))) then some (0, false) else source_count_j26 nx10 (x29 + y33.1)))
def source_count_b27 (F0 : List GStmt → Int → Option (Int × Bool)) (a : List GStmt) (b : Int) (x8 : GStmt) (x5 : Int) (nx10 : Int → Option (Int × Bool)) : Option (Int × Bool) :=
  grd (I64 (x5 + 1)) (bif decide ((30 : Int) < (x5 + 1)) then some (0, false) else bif decide (((x8.a.length : Int) : Int) = 0) then source_count_j25 F0 x8 b nx10 (x5 + 1) else grd (I64 (b + 1)) ((F0 x8.a (b + 1)).bind fun y40 => grd (I64 ((x5 + 1) + y40.1)) (bif ((!y40.2) || decide ((30 : Int) < ((x5 + 1) + y40.1))) then some (0, false) else source_count_j25 F0 x8 b nx10 ((x5 + 1) + y40.1))))
def source_count_k28 (x5 : Int) : Option (Int × Bool) :=
  some (x5, true)
def source_count_r (F0 : List GStmt → Int → Option (Int × Bool)) (a : List GStmt) (b : Int) : Option (Int × Bool) :=
  bif decide ((4 : Int) < b) then some (0, false) else each (source_count_b27 F0 a b) source_count_k28 a 0
def source_count : Nat → List GStmt → Int → Option (Int × Bool)
  | 0 => fun _ _ => none
  | N + 1 => source_count_r (source_count N)
theorem source_count_c : ∀ (N : Nat) (w0 : World) (M : BS) (hM : ∀ b, M b → b < w0.heap.size) (va : Value) (a : List GStmt) (ha : Rd2 rStmt w0 BE M va a) (b : Int) (r : Int × Bool) (hs : source_count N a b = some r),
    Calls Try.prog 83 #[va, (.int .i64 (b))] w0 (fun e w' => Grow w0 w' ∧ e = .returned (.tuple #[.int .i64 r.1, .bool r.2])) := by
  intro N
  induction N with
  | zero => intro w0 M hM va a ha b r hs; cases hs
  | succ N ih =>
  intro w0 M hM va a ha b r hs
  replace hs : source_count_r (source_count N) a b = some r := hs
  generalize source_count N = F0 at hs ih
  refine calls_start (args := [va, (.int .i64 (b))]) Try.func83 rfl Try.ntmps83 (Nat.le_of_ble_eq_true rfl) ?_
  have h := SH.init hM
  replace h := h.argSr 1 ha none_own
  have hl_a := ha.len_le
  refine wc_seq (wc_region (wl_ok (r_assign (v := (.int .i64 (0))) rfl) (wl_ok (r_assign (v := (.bool (false))) rfl) (wl_nil (then_normal (wc_seq (wc_seq (wc_region (wl_ok (r_move (v := (.int .i64 (b))) rfl) (wl_ok (r_gtr rfl rfl) (wl_nil (then_normal (wc_ifb hs rfl (fun c1 hs => ?_) (fun c1 hs => ?_))))))))))))))
  ·
   refine wc_seq (wc_region (wl_ok (r_assign (v := (.int .i64 (0))) rfl) (wl_ok (r_assign (v := (.bool (false))) rfl) (wl_nil (then_normal (wc_ret (then_ret (fin2 (v1 := (.int .i64 (0))) (v2 := (.bool (false))) Try.results83 rfl rfl ?_))))))))
   obtain rfl := Option.some.inj hs
   exact ⟨h.grown, rfl⟩
  ·
   refine wc_skip (then_normal (wc_seq (wc_region (wl_ok (r_assign (v := (.int .i64 (0))) rfl) (wl_nil (then_normal (wc_seq (wc_seq (wc_region (wl_ok (r_move (v := va) rfl) (wl_ok (r_len SliceOf76 rfl (h.srS 1 rfl)) (wl_ok (r_move (v := (.int .i64 (0))) rfl) (wl_nil (then_normal (wc_block (wc_lp (σ := Nat × Int × Int) (inl [4, 5, 6, 8, 10, 11, 12, 17, 18, 19, 20, 21, 22, 23, 24, 25, 26, 27, 28, 29, 30, 31, 32, 33, 34, 35, 36, 37, 38, 39, 40, 41, 42, 43, 44, 45, 46, 47, 48, 49, 50, 51, 52, 53]) (fun ⟨k6, i7, x5⟩ => [(6, (.int .i64 (x5))), (17, (.int .i64 (i7)))]) (fun ⟨k6, i7, x5⟩ w => SH w0 M BE w (hset [(1, .sr rStmt va a)]) ∧ i7 = (k6 : Int) ∧ each (source_count_b27 F0 a b) source_count_k28 (a.drop k6) x5 = some r) (fun ⟨k6, i7, x5⟩ => a.length - k6) ⟨0, 0, 0⟩ ⟨rfl, rfl, trivial⟩ ?_ ?_))))))))))))))))
   ·
    exact ⟨h.cn _, rfl, hs⟩
   ·
    rintro ⟨k6, i7, x5⟩ w junk ⟨h, hik, hs⟩
    refine wc_seq (wc_region ?_)
    refine wl_ok (r_lss rfl rfl) (wl_nil (then_normal ?_))
    refine wc_seq (wc_if rfl (fun e11 => ?_) (fun e11 => ?_))
    ·
     refine wc_skip (then_normal ?_)
     obtain ⟨x8, e12a, e12b⟩ := drop_lt (hik ▸ e11)
     rw [e12b, each_cons] at hs
     generalize hnx10 : each (source_count_b27 F0 a b) source_count_k28 (a.drop (k6 + 1)) = nx10 at hs
     have e12r := nat_rng ((h.srS 1 rfl)).len_le hik e11
     refine wc_seq (wc_block (wc_seq (wc_region ?_)))
     obtain ⟨b14, o15, cs16, h, r17, i13⟩ := h.ixS 1 2 rfl SliceOf76 rfl (nat_nn hik) (get_nat hik e12a)
     obtain ⟨u18, u20, u22, u24, rfl, g19, g21, g23, g25⟩ := rStmt_open r17
     replace h := h.knowRd 3 g19.up
     replace h := h.knowRd 4 g21.up.up
     replace h := h.knowRd 5 g23.up.up.up
     replace h := h.knowRd 6 g25.up.up.up.up
     refine wl_ok (i13 _ _ _ _ _ _ _ _ _ rfl rfl) (wl_ok (r_ldPN (k := 0) (vs := [(.int .i64 (x8.kind)), (.int .i64 (x8.n)), u18, u20, u22, u24]) h 2 rfl Many82 rfl rfl rfl (Nat.le_of_ble_eq_true rfl)) (w_allocN h 7 Many82 fun w b26 h => w_stN (vs := [(.int .i64 (x8.kind)), (.int .i64 (x8.n)), u18, u20, u22, u24]) h 7 [(.int .i64 (x8.kind)), (.int .i64 (x8.n)), u18, u20, u22, u24] rfl Many82 rfl rfl rfl rfl rfl (ones_cons rfl (ones_cons rfl (ones_cons (h.rdAt 3 rfl).one (ones_cons (h.rdAt 4 rfl).one (ones_cons (h.rdAt 5 rfl).one (ones_cons (h.rdAt 6 rfl).one ones_nil)))))) fun w h => wl_nil (then_normal (wc_seq (wc_seq (wc_region (wl_ok (r_move (v := (.int .i64 (x5))) rfl) ?_)))))))
     obtain ⟨a27, hs⟩ := o_grd hs
     refine wl_ok (r_add rfl rfl a27) (wl_ok (r_assign (v := (.int .i64 ((x5 + 1)))) rfl) (wl_nil (then_normal (wc_seq (wc_region (wl_ok (r_move (v := (.int .i64 ((x5 + 1)))) rfl) (wl_ok (r_gtr rfl rfl) (wl_nil (then_normal (wc_ifb hs rfl (fun c28 hs => ?_) (fun c28 hs => ?_)))))))))))
     ·
      refine wc_seq (wc_region (wl_ok (r_assign (v := (.int .i64 (0))) rfl) (wl_ok (r_assign (v := (.bool (false))) rfl) (wl_nil (then_normal (wc_ret (then_ret (inBlock_ret (then_ret (then_ret (inBlock_ret (then_ret (fin2 (v1 := (.int .i64 (0))) (v2 := (.bool (false))) Try.results83 rfl rfl ?_)))))))))))))
      obtain rfl := Option.some.inj hs
      exact ⟨h.grown, rfl⟩
     ·
      refine wc_skip (then_normal (wc_seq (wc_region (wl_ok (r_fieldAddr Fld82x4 rfl) (wl_ok (r_ldB h 7 rfl One76 rfl rfl) (wl_ok (r_fieldAddr Fld82x5 rfl) (wl_ok (r_ldB h 7 rfl One76 rfl rfl) (wl_ok (r_build2 Arr2130 rfl rfl (h.rdAt 5 rfl).one (h.rdAt 6 rfl).one) (wl_ok (r_move (v := (.int .i64 (0))) rfl) (wl_nil (then_normal (wc_block (wc_rounds 2 (wc_seq (wc_region (wl_ok (r_lss rfl rfl) (wl_nil (then_normal (wc_seq (wc_ift rfl (wc_skip (then_normal (wc_join (σ := Int) (inl [4, 5, 6, 10, 11, 12, 32, 33, 34, 35, 36, 37, 38, 39, 40, 41, 42, 43, 44, 45, 46, 47, 48, 49, 50, 51]) (fun x29 => [(6, (.int .i64 (x29)))]) (fun x29 w => SH w0 M BE w (hset [(1, .sr rStmt va a), (5, .rd rStmt u22 x8.a), (6, .rd rStmt u24 x8.b)]) ∧ source_count_j25 F0 x8 b nx10 x29 = some r) ?_ ?_)))))))))))))))))))))))
      ·
       rintro x29 w junk ⟨h, hs⟩
       refine wc_region (wl_ok (r_add rfl rfl (by decide)) (wl_ok (r_move (v := (.int .i64 (1))) rfl) (wl_nil (then_round (wc_seq (wc_region (wl_ok (r_lss rfl rfl) (wl_nil (then_normal (wc_seq (wc_ift rfl (wc_skip (then_normal (wc_join (σ := Int) (inl [4, 5, 6, 10, 11, 12, 32, 33, 34, 35, 36, 37, 38, 39, 40, 41, 42, 43, 44, 45, 46, 47, 48, 49, 50, 51]) (fun x30 => [(6, (.int .i64 (x30)))]) (fun x30 w => SH w0 M BE w (hset [(1, .sr rStmt va a), (5, .rd rStmt u22 x8.a), (6, .rd rStmt u24 x8.b)]) ∧ source_count_j26 nx10 x30 = some r) ?_ ?_))))))))))))))
       ·
        rintro x30 w junk ⟨h, hs⟩
        refine wc_region (wl_ok (r_add rfl rfl (by decide)) (wl_ok (r_move (v := (.int .i64 (2))) rfl) (wl_nil (then_round (wc_seq (wc_region (wl_ok (r_lss rfl rfl) (wl_nil (then_normal (wc_seq (wc_iff rfl (wc_exit (then_exit (then_exit (inBlock_eq (inBlock_normal (then_normal (wc_region (wl_ok (r_add rfl rfl e12r) (wl_ok (r_move (v := (.int .i64 ((i7 + 1)))) rfl) (wl_nil (then_loop ?_))))))))))))))))))))))
        subst hnx10
        exact lend ⟨k6 + 1, i7 + 1, x30⟩ ⟨h.cn _, by omega, hs⟩ (by have := of_decide_eq_true e11; dsimp only; omega)
       ·
        refine wc_block (wc_seq (wc_region (wl_ok (r_index2 (k := 1) Arr2130 rfl rfl rfl) (wl_ok (r_assign (v := u24) rfl) (wl_nil (then_normal (wc_seq (wc_seq (wc_region (wl_ok (r_move (v := u24) rfl) (wl_ok (r_len SliceOf76 rfl (h.rdS 6 rfl)) (wl_ok (r_eql rfl rfl) (wl_nil (then_normal (wc_ifb hs rfl (fun c31 hs => ?_) (fun c31 hs => ?_))))))))))))))))
        ·
         refine wc_exit (then_exit (inBlock_eq (then_loop ?_)))
         exact jend x29 ⟨h.cn _, hs⟩
        ·
         refine wc_skip (then_normal (wc_seq (wc_region (wl_ok (r_move (v := u24) rfl) (wl_ok (r_move (v := (.int .i64 (b))) rfl) ?_)))))
         obtain ⟨a32, hs⟩ := o_grd hs
         refine wl_ok (r_add rfl rfl a32) ?_
         obtain ⟨y33, e34, hs⟩ := o_bind hs
         refine w_call fnOk83 rfl rfl (ih _ _ h.lt u24 x8.b (h.rdS 6 rfl) (b + 1) _ e34) ?_
         rintro _ w ⟨k35, rfl⟩
         refine ⟨_, rfl, ?_⟩
         replace h := h.grow k35
         refine wl_ok (r_move (v := (.tuple #[(.int .i64 (y33.1)), (.bool (y33.2))])) rfl) (wl_ok (r_extract rfl rfl) (wl_ok (r_extract rfl rfl) (wl_ok (r_assign (v := (.int .i64 (y33.1))) rfl) (wl_ok (r_assign (v := (.bool (y33.2))) rfl) (wl_nil (then_normal (wc_seq (wc_region (wl_ok (r_move (v := (.int .i64 (x29))) rfl) (wl_ok (r_move (v := (.int .i64 (y33.1))) rfl) ?_))))))))))
         obtain ⟨a36, hs⟩ := o_grd hs
         refine wl_ok (r_add rfl rfl a36) (wl_ok (r_assign (v := (.int .i64 ((x29 + y33.1)))) rfl) (wl_nil (then_normal (wc_seq (wc_region (wl_ok (r_move (v := (.bool (y33.2))) rfl) (wl_ok (r_notb rfl) (wl_ok (r_move (v := (.bool ((!y33.2)))) rfl) (wl_gd0 rfl rfl (fun q => r_move (v := (.int .i64 ((x29 + y33.1)))) rfl) (wl_gd0 rfl rfl (fun q => r_gtr (gvt q) rfl) (wl_ok (r_por rfl rfl evc) (wl_nil (then_normal (wc_ifb hs rfl (fun c37 hs => ?_) (fun c37 hs => ?_)))))))))))))))
         ·
          refine wc_seq (wc_region (wl_ok (r_assign (v := (.int .i64 (0))) rfl) (wl_ok (r_assign (v := (.bool (false))) rfl) (wl_nil (then_normal (wc_ret (inBlock_ret (then_ret (then_ret (inBlock_ret (inBlock_ret (then_ret (then_ret (inBlock_ret (then_ret (fin2 (v1 := (.int .i64 (0))) (v2 := (.bool (false))) Try.results83 rfl rfl ?_))))))))))))))))
          obtain rfl := Option.some.inj hs
          exact ⟨h.grown, rfl⟩
         ·
          refine wc_skip (inBlock_normal (then_loop ?_))
          exact jend (x29 + y33.1) ⟨h.cn _, hs⟩
      ·
       refine wc_block (wc_seq (wc_region (wl_ok (r_index2 (k := 0) Arr2130 rfl rfl rfl) (wl_ok (r_assign (v := u22) rfl) (wl_nil (then_normal (wc_seq (wc_seq (wc_region (wl_ok (r_move (v := u22) rfl) (wl_ok (r_len SliceOf76 rfl (h.rdS 5 rfl)) (wl_ok (r_eql rfl rfl) (wl_nil (then_normal (wc_ifb hs rfl (fun c38 hs => ?_) (fun c38 hs => ?_))))))))))))))))
       ·
        refine wc_exit (then_exit (inBlock_eq (then_loop ?_)))
        exact jend (x5 + 1) ⟨h.cn _, hs⟩
       ·
        refine wc_skip (then_normal (wc_seq (wc_region (wl_ok (r_move (v := u22) rfl) (wl_ok (r_move (v := (.int .i64 (b))) rfl) ?_)))))
        obtain ⟨a39, hs⟩ := o_grd hs
        refine wl_ok (r_add rfl rfl a39) ?_
        obtain ⟨y40, e41, hs⟩ := o_bind hs
        refine w_call fnOk83 rfl rfl (ih _ _ h.lt u22 x8.a (h.rdS 5 rfl) (b + 1) _ e41) ?_
        rintro _ w ⟨k42, rfl⟩
        refine ⟨_, rfl, ?_⟩
        replace h := h.grow k42
        refine wl_ok (r_move (v := (.tuple #[(.int .i64 (y40.1)), (.bool (y40.2))])) rfl) (wl_ok (r_extract rfl rfl) (wl_ok (r_extract rfl rfl) (wl_ok (r_assign (v := (.int .i64 (y40.1))) rfl) (wl_ok (r_assign (v := (.bool (y40.2))) rfl) (wl_nil (then_normal (wc_seq (wc_region (wl_ok (r_move (v := (.int .i64 ((x5 + 1)))) rfl) (wl_ok (r_move (v := (.int .i64 (y40.1))) rfl) ?_))))))))))
        obtain ⟨a43, hs⟩ := o_grd hs
        refine wl_ok (r_add rfl rfl a43) (wl_ok (r_assign (v := (.int .i64 (((x5 + 1) + y40.1)))) rfl) (wl_nil (then_normal (wc_seq (wc_region (wl_ok (r_move (v := (.bool (y40.2))) rfl) (wl_ok (r_notb rfl) (wl_ok (r_move (v := (.bool ((!y40.2)))) rfl) (wl_gd0 rfl rfl (fun q => r_move (v := (.int .i64 (((x5 + 1) + y40.1)))) rfl) (wl_gd0 rfl rfl (fun q => r_gtr (gvt q) rfl) (wl_ok (r_por rfl rfl evc) (wl_nil (then_normal (wc_ifb hs rfl (fun c44 hs => ?_) (fun c44 hs => ?_)))))))))))))))
        ·
         refine wc_seq (wc_region (wl_ok (r_assign (v := (.int .i64 (0))) rfl) (wl_ok (r_assign (v := (.bool (false))) rfl) (wl_nil (then_normal (wc_ret (inBlock_ret (then_ret (then_ret (inBlock_ret (inBlock_ret (then_ret (then_ret (inBlock_ret (then_ret (fin2 (v1 := (.int .i64 (0))) (v2 := (.bool (false))) Try.results83 rfl rfl ?_))))))))))))))))
         obtain rfl := Option.some.inj hs
         exact ⟨h.grown, rfl⟩
        ·
         refine wc_skip (inBlock_normal (then_loop ?_))
         exact jend ((x5 + 1) + y40.1) ⟨h.cn _, hs⟩
    ·
     rw [drop_ge (hik ▸ e11), each_nil] at hs
     refine wc_exit (then_exit (then_exit (inBlock_eq (then_normal (wc_seq (wc_region (wl_ok (r_move (v := (.int .i64 (x5))) rfl) (wl_ok (r_assign (v := (.int .i64 (x5))) rfl) (wl_ok (r_assign (v := (.bool (true))) rfl) (wl_nil (then_normal (wc_ret (fin2 (v1 := (.int .i64 (x5))) (v2 := (.bool (true))) Try.results83 rfl rfl ?_)))))))))))))
     obtain rfl := Option.some.inj hs
     exact ⟨h.grown, rfl⟩
def source_tok_j1 (x2 : Bool) (x3 : Int) : Option (Int × Int) :=
  bif (!x2) then some (0, 3) else some (x3, 0)
def source_tok (a : Tok) (b : List Fun) (c : Int) : Option (Int × Int) :=
  bif decide ((a.kind : Int) = 1) then source_tok_j1 (decide ((-1000000000 : Int) ≤ a.n) && decide ((a.n : Int) ≤ 1000000000)) 0 else bif decide ((a.kind : Int) = 2) then source_tok_j1 (decide ((0 : Int) ≤ a.n) && decide ((a.n : Int) < c)) 0 else bif decide ((a.kind : Int) = 3) then source_tok_j1 (decide ((1 : Int) ≤ a.n) && decide ((a.n : Int) ≤ 5)) 2 else bif decide ((a.kind : Int) = 4) then source_tok_j1 (decide ((0 : Int) ≤ a.n) && decide ((a.n : Int) < 4)) 1 else bif decide ((a.kind : Int) = 5) then source_tok_j1 (decide ((1 : Int) ≤ a.n) && decide ((a.n : Int) ≤ 4)) 0 else bif decide ((a.kind : Int) = 6) then bif (decide ((a.n : Int) < 0) || decide (((b.length : Int) : Int) ≤ a.n)) then some (0, 5) else (idx b a.n).bind fun x12 => some (x12.params, 0) else some (0, 4)
theorem source_tok_c (w0 : World) (M : BS) (hM : ∀ b, M b → b < w0.heap.size) (a : Tok) (vb : Value) (b : List Fun) (hb : Rd2 rFun w0 BE M vb b) (c : Int) (r : Int × Int) (hs : source_tok a b c = some r) :
    Calls Try.prog 94 #[(.agg #[(.int .i64 (a.kind)), (.int .i64 (a.n))]), vb, (.int .i64 (c))] w0 (fun e w' => Grow w0 w' ∧ e = .returned (.tuple #[.int .i64 r.1, .int .i64 r.2])) := by
 refine calls_start (args := [(.agg #[(.int .i64 (a.kind)), (.int .i64 (a.n))]), vb, (.int .i64 (c))]) Try.func94 rfl Try.ntmps94 (Nat.le_of_ble_eq_true rfl) ?_
 have h := SH.init hM
 replace h := h.argSr 1 hb none_own
 have hl_b := hb.len_le
 refine wc_seq (wc_region (w_box (cs := [(.int .i64 (a.kind)), (.int .i64 (a.n))]) h 2 rfl rfl fun w b1 h => wl_ok (r_assign (v := (.int .i64 (0))) rfl) (wl_ok (r_assign (v := (.int .i64 (0))) rfl) (wl_nil (then_normal (wc_seq (wc_region (wl_ok (r_assign (v := (.bool (false))) rfl) (wl_ok (r_assign (v := (.int .i64 (0))) rfl) (wl_nil (then_normal (wc_join (σ := Bool × Int) (inl [6, 7, 8, 9, 10, 11, 12, 13, 14, 15, 16, 17, 18, 19, 20, 21, 22, 23, 24, 25, 26, 27, 28, 29, 30, 31, 32, 33, 34, 35, 36, 37, 38, 39, 40, 41, 42, 43, 44, 45, 46, 47, 48, 49, 50, 51, 52, 53, 54, 55, 56, 57, 58, 59, 60, 61, 62, 63, 64, 65, 66, 67, 68, 69, 70, 71, 72, 73, 74, 75, 76, 77, 78, 79, 80]) (fun ⟨x2, x3⟩ => [(8, (.bool (x2))), (9, (.int .i64 (x3)))]) (fun ⟨x2, x3⟩ w => SH w0 M BE w (hset []) ∧ source_tok_j1 x2 x3 = some r) ?_ ?_))))))))))))
 ·
  rintro ⟨x2, x3⟩ w junk ⟨h, hs⟩
  refine wc_seq (wc_seq (wc_region (wl_ok (r_move (v := (.bool (x2))) rfl) (wl_ok (r_notb rfl) (wl_nil (then_normal (wc_ifb hs rfl (fun c4 hs => ?_) (fun c4 hs => ?_))))))))
  ·
   refine wc_seq (wc_region (wl_ok (r_assign (v := (.int .i64 (0))) rfl) (wl_ok (r_assign (v := (.int .i64 (3))) rfl) (wl_nil (then_normal (wc_ret (then_ret (fin2 (v1 := (.int .i64 (0))) (v2 := (.int .i64 (3))) Try.results94 rfl rfl ?_))))))))
   obtain rfl := Option.some.inj hs
   exact ⟨h.grown, rfl⟩
  ·
   refine wc_skip (then_normal (wc_seq (wc_region (wl_ok (r_move (v := (.int .i64 (x3))) rfl) (wl_ok (r_assign (v := (.int .i64 (x3))) rfl) (wl_ok (r_assign (v := (.int .i64 (0))) rfl) (wl_nil (then_normal (wc_ret (fin2 (v1 := (.int .i64 (x3))) (v2 := (.int .i64 (0))) Try.results94 rfl rfl ?_))))))))))
   obtain rfl := Option.some.inj hs
   exact ⟨h.grown, rfl⟩
 ·
  refine wc_seq (wc_region (wl_ok (r_fieldAddr Fld112x0 rfl) (wl_ok (r_ldB h 2 rfl One3 rfl rfl) (wl_nil (then_normal (wc_block (wc_seq (wc_region (wl_ok (r_eql rfl rfl) (wl_ok (r_assign (v := (.bool (decide ((a.kind : Int) = 1)))) rfl) (wl_nil (then_normal (wc_ifb hs rfl (fun c5 hs => ?_) (fun c5 hs => ?_))))))))))))))
  ·
   refine wc_region (wl_ok (r_fieldAddr Fld112x1 rfl) (wl_ok (r_ldB h 2 rfl One3 rfl rfl) (wl_ok (r_geq rfl rfl) (wl_ok (r_move (v := (.bool (decide ((-1000000000 : Int) ≤ a.n)))) rfl) (wl_gd0 rfl rfl (fun q => r_fieldAddr Fld112x1 rfl) (wl_gd0 rfl rfl (fun q => r_ldB h 2 rfl One3 (gvt q) rfl) (wl_gd0 rfl rfl (fun q => r_leq (gvt q) rfl) (wl_ok (r_pand rfl rfl evc) (wl_ok (r_assign (v := (.bool ((decide ((-1000000000 : Int) ≤ a.n) && decide ((a.n : Int) ≤ 1000000000))))) rfl) (wl_nil (inBlock_normal (then_loop ?_))))))))))))
   exact jend ((decide ((-1000000000 : Int) ≤ a.n) && decide ((a.n : Int) ≤ 1000000000)), 0) ⟨h.cn _, hs⟩
  ·
   refine wc_seq (wc_region (wl_ok (r_eql rfl rfl) (wl_ok (r_assign (v := (.bool (decide ((a.kind : Int) = 2)))) rfl) (wl_nil (then_normal (wc_ifb hs rfl (fun c6 hs => ?_) (fun c6 hs => ?_)))))))
   ·
    refine wc_region (wl_ok (r_fieldAddr Fld112x1 rfl) (wl_ok (r_ldB h 2 rfl One3 rfl rfl) (wl_ok (r_geq rfl rfl) (wl_ok (r_move (v := (.bool (decide ((0 : Int) ≤ a.n)))) rfl) (wl_gd0 rfl rfl (fun q => r_fieldAddr Fld112x1 rfl) (wl_gd0 rfl rfl (fun q => r_ldB h 2 rfl One3 (gvt q) rfl) (wl_gd0 rfl rfl (fun q => r_move (v := (.int .i64 (c))) rfl) (wl_gd0 rfl rfl (fun q => r_lss (gvt q) (gvt q)) (wl_ok (r_pand rfl rfl evc) (wl_ok (r_assign (v := (.bool ((decide ((0 : Int) ≤ a.n) && decide ((a.n : Int) < c))))) rfl) (wl_nil (inBlock_normal (then_loop ?_)))))))))))))
    exact jend ((decide ((0 : Int) ≤ a.n) && decide ((a.n : Int) < c)), 0) ⟨h.cn _, hs⟩
   ·
    refine wc_seq (wc_region (wl_ok (r_eql rfl rfl) (wl_ok (r_assign (v := (.bool (decide ((a.kind : Int) = 3)))) rfl) (wl_nil (then_normal (wc_ifb hs rfl (fun c7 hs => ?_) (fun c7 hs => ?_)))))))
    ·
     refine wc_region (wl_ok (r_fieldAddr Fld112x1 rfl) (wl_ok (r_ldB h 2 rfl One3 rfl rfl) (wl_ok (r_geq rfl rfl) (wl_ok (r_move (v := (.bool (decide ((1 : Int) ≤ a.n)))) rfl) (wl_gd0 rfl rfl (fun q => r_fieldAddr Fld112x1 rfl) (wl_gd0 rfl rfl (fun q => r_ldB h 2 rfl One3 (gvt q) rfl) (wl_gd0 rfl rfl (fun q => r_leq (gvt q) rfl) (wl_ok (r_pand rfl rfl evc) (wl_ok (r_assign (v := (.bool ((decide ((1 : Int) ≤ a.n) && decide ((a.n : Int) ≤ 5))))) rfl) (wl_ok (r_assign (v := (.int .i64 (2))) rfl) (wl_nil (inBlock_normal (then_loop ?_)))))))))))))
     exact jend ((decide ((1 : Int) ≤ a.n) && decide ((a.n : Int) ≤ 5)), 2) ⟨h.cn _, hs⟩
    ·
     refine wc_seq (wc_region (wl_ok (r_eql rfl rfl) (wl_ok (r_assign (v := (.bool (decide ((a.kind : Int) = 4)))) rfl) (wl_nil (then_normal (wc_ifb hs rfl (fun c8 hs => ?_) (fun c8 hs => ?_)))))))
     ·
      refine wc_region (wl_ok (r_fieldAddr Fld112x1 rfl) (wl_ok (r_ldB h 2 rfl One3 rfl rfl) (wl_ok (r_geq rfl rfl) (wl_ok (r_move (v := (.bool (decide ((0 : Int) ≤ a.n)))) rfl) (wl_gd0 rfl rfl (fun q => r_fieldAddr Fld112x1 rfl) (wl_gd0 rfl rfl (fun q => r_ldB h 2 rfl One3 (gvt q) rfl) (wl_gd0 rfl rfl (fun q => r_lss (gvt q) rfl) (wl_ok (r_pand rfl rfl evc) (wl_ok (r_assign (v := (.bool ((decide ((0 : Int) ≤ a.n) && decide ((a.n : Int) < 4))))) rfl) (wl_ok (r_assign (v := (.int .i64 (1))) rfl) (wl_nil (inBlock_normal (then_loop ?_)))))))))))))
      exact jend ((decide ((0 : Int) ≤ a.n) && decide ((a.n : Int) < 4)), 1) ⟨h.cn _, hs⟩
     ·
      refine wc_seq (wc_region (wl_ok (r_eql rfl rfl) (wl_ok (r_assign (v := (.bool (decide ((a.kind : Int) = 5)))) rfl) (wl_nil (then_normal (wc_ifb hs rfl (fun c9 hs => ?_) (fun c9 hs => ?_)))))))
      ·
       refine wc_region (wl_ok (r_fieldAddr Fld112x1 rfl) (wl_ok (r_ldB h 2 rfl One3 rfl rfl) (wl_ok (r_geq rfl rfl) (wl_ok (r_move (v := (.bool (decide ((1 : Int) ≤ a.n)))) rfl) (wl_gd0 rfl rfl (fun q => r_fieldAddr Fld112x1 rfl) (wl_gd0 rfl rfl (fun q => r_ldB h 2 rfl One3 (gvt q) rfl) (wl_gd0 rfl rfl (fun q => r_leq (gvt q) rfl) (wl_ok (r_pand rfl rfl evc) (wl_ok (r_assign (v := (.bool ((decide ((1 : Int) ≤ a.n) && decide ((a.n : Int) ≤ 4))))) rfl) (wl_nil (inBlock_normal (then_loop ?_))))))))))))
       exact jend ((decide ((1 : Int) ≤ a.n) && decide ((a.n : Int) ≤ 4)), 0) ⟨h.cn _, hs⟩
      ·
       refine wc_seq (wc_region (wl_ok (r_eql rfl rfl) (wl_ok (r_assign (v := (.bool (decide ((a.kind : Int) = 6)))) rfl) (wl_nil (then_normal (wc_ifb hs rfl (fun c10 hs => ?_) (fun c10 hs => ?_)))))))
       ·
        refine wc_seq (wc_seq (wc_region (wl_ok (r_fieldAddr Fld112x1 rfl) (wl_ok (r_ldB h 2 rfl One3 rfl rfl) (wl_ok (r_lss rfl rfl) (wl_ok (r_move (v := (.bool (decide ((a.n : Int) < 0)))) rfl) (wl_gd0 rfl rfl (fun q => r_fieldAddr Fld112x1 rfl) (wl_gd0 rfl rfl (fun q => r_ldB h 2 rfl One3 (gvt q) rfl) (wl_gd0 rfl rfl (fun q => r_move (v := vb) rfl) (wl_gd0 rfl rfl (fun q => r_len SliceOf70 (gvt q) (h.srS 1 rfl)) (wl_gd0 rfl rfl (fun q => r_geq (gvt q) (gvt q)) (wl_ok (r_por rfl rfl evc) (wl_nil (then_normal (wc_ifb hs rfl (fun c11 hs => ?_) (fun c11 hs => ?_))))))))))))))))
        ·
         refine wc_seq (wc_region (wl_ok (r_assign (v := (.int .i64 (0))) rfl) (wl_ok (r_assign (v := (.int .i64 (5))) rfl) (wl_nil (then_normal (wc_ret (then_ret (inBlock_ret (then_ret (fin2 (v1 := (.int .i64 (0))) (v2 := (.int .i64 (5))) Try.results94 rfl rfl ?_))))))))))
         obtain rfl := Option.some.inj hs
         exact ⟨h.grown, rfl⟩
        ·
         refine wc_skip (then_normal (wc_seq (wc_region (wl_ok (r_move (v := vb) rfl) (wl_ok (r_fieldAddr Fld112x1 rfl) (wl_ok (r_ldB h 2 rfl One3 rfl rfl) ?_))))))
         obtain ⟨x12, e13, hs⟩ := o_bind hs
         obtain ⟨b15, o16, cs17, h, r18, i14⟩ := h.ixS 1 3 rfl SliceOf70 rfl (o_idx e13).1 (o_idx e13).2
         obtain ⟨u19, rfl, g20⟩ := rFun_open r18
         replace h := h.knowRd 4 g20.up
         refine wl_ok (i14 _ _ _ _ _ _ _ _ _ rfl rfl) (wl_ok (r_fieldAddr Fld78x0 rfl) (wl_ok (r_ldP (k := 0) h 3 rfl One3 rfl rfl) (wl_ok (r_assign (v := (.int .i64 (x12.params))) rfl) (wl_ok (r_assign (v := (.int .i64 (0))) rfl) (wl_nil (then_normal (wc_ret (inBlock_ret (then_ret (fin2 (v1 := (.int .i64 (x12.params))) (v2 := (.int .i64 (0))) Try.results94 rfl rfl ?_))))))))))
         obtain rfl := Option.some.inj hs
         exact ⟨h.grown, rfl⟩
       ·
        refine wc_seq (wc_region (wl_ok (r_assign (v := (.int .i64 (0))) rfl) (wl_ok (r_assign (v := (.int .i64 (4))) rfl) (wl_nil (then_normal (wc_ret (inBlock_ret (then_ret (fin2 (v1 := (.int .i64 (0))) (v2 := (.int .i64 (4))) Try.results94 rfl rfl ?_)))))))))
        obtain rfl := Option.some.inj hs
        exact ⟨h.grown, rfl⟩
def source_Expr_b29 (b : List Fun) (c : Int) (x10 : Tok) (x7 : Int) (nx12 : Int → Option Int) : Option Int :=
  (source_tok x10 b c).bind fun y21 => bif decide ((y21.2 : Int) ≠ 0) then some y21.2 else bif decide ((x7 : Int) = 0) then some 4 else grd (I64 (y21.1 - 1)) (grd (I64 (x7 + (y21.1 - 1))) (nx12 (x7 + (y21.1 - 1))))
def source_Expr_k30 (x7 : Int) : Option Int :=
  bif decide ((0 : Int) < x7) then some 4 else some 0
def source_Expr_j26 (b : List Fun) (c : Int) (a : List Tok) (x2 : Bool) : Option Int :=
  bif x2 then some 3 else each (source_Expr_b29 b c) source_Expr_k30 a 1
def source_Expr_b37 (b : List Fun) (c : Int) (a : List Tok) (i30 : Int) (s : Unit) (nx33 : Unit → Option Int) : Option Int :=
  (idx b i30).bind fun x36 => bif (decide ((x36.params : Int) < 0) || decide ((3 : Int) < x36.params)) then source_Expr_j26 b c a (decide ((0 : Int) ≤ i30)) else nx33 ()
def source_Expr_k38 (b : List Fun) (c : Int) (a : List Tok) (s : Unit) : Option Int :=
  source_Expr_j26 b c a false
def source_Expr (a : List Tok) (b : List Fun) (c : Int) : Option Int :=
  bif decide ((24 : Int) < (a.length : Int)) then some 2 else upto (source_Expr_b37 b c a) (source_Expr_k38 b c a) 0 ((b.length : Int)).toNat ()
theorem source_Expr_c (w0 : World) (M : BS) (hM : ∀ b, M b → b < w0.heap.size) (va : Value) (a : List Tok) (ha : Rd2 rTok w0 BE M va a) (vb : Value) (b : List Fun) (hb : Rd2 rFun w0 BE M vb b) (c : Int) (r : Int) (hs : source_Expr a b c = some r) :
    Calls Try.prog 48 #[va, vb, (.int .i64 (c))] w0 (fun e w' => Grow w0 w' ∧ e = .returned (.int .i64 r)) := by
 refine calls_start (args := [va, vb, (.int .i64 (c))]) Try.func48 rfl Try.ntmps48 (Nat.le_of_ble_eq_true rfl) ?_
 have h := SH.init hM
 replace h := h.argSr 1 ha none_own
 replace h := h.argSr 2 hb (hupd_own_sr none_own)
 have hl_a := ha.len_le
 have hl_b := hb.len_le
 refine wc_seq (wc_region (wl_ok (r_assign (v := (.int .i64 (0))) rfl) (wl_nil (then_normal (wc_seq (wc_seq (wc_region (wl_ok (r_move (v := va) rfl) (wl_ok (r_len SliceOf71 rfl (h.srS 1 rfl)) (wl_ok (r_gtr rfl rfl) (wl_nil (then_normal (wc_ifb hs rfl (fun c1 hs => ?_) (fun c1 hs => ?_))))))))))))))
 ·
  refine wc_seq (wc_region (wl_ok (r_assign (v := (.int .i64 (2))) rfl) (wl_nil (then_normal (wc_ret (then_ret (fin1 (v := (.int .i64 (2))) Try.results48 rfl ?_)))))))
  obtain rfl := Option.some.inj hs
  exact ⟨h.grown, rfl⟩
 ·
  refine wc_skip (then_normal (wc_seq (wc_join (σ := Bool) (inl [15, 16]) (fun x2 => [(16, (.bool (x2)))]) (fun x2 w => SH w0 M BE w (hset [(1, .sr rTok va a), (2, .sr rFun vb b)]) ∧ source_Expr_j26 b c a x2 = some r) ?_ ?_)))
  ·
   rintro x2 w junk ⟨h, hs⟩
   refine wc_ifb hs rfl (fun c3 hs => ?_) (fun c3 hs => ?_)
   ·
    refine wc_seq (wc_region (wl_ok (r_assign (v := (.int .i64 (3))) rfl) (wl_nil (then_normal (wc_ret (then_ret (fin1 (v := (.int .i64 (3))) Try.results48 rfl ?_)))))))
    obtain rfl := Option.some.inj hs
    exact ⟨h.grown, rfl⟩
   ·
    refine wc_skip (then_normal (wc_seq (wc_region (wl_ok (r_assign (v := (.int .i64 (1))) rfl) (wl_nil (then_normal (wc_seq (wc_seq (wc_region (wl_ok (r_move (v := va) rfl) (wl_ok (r_len SliceOf71 rfl (h.srS 1 rfl)) (wl_ok (r_move (v := (.int .i64 (0))) rfl) (wl_nil (then_normal (wc_block (wc_lp (σ := Nat × Int × Int) (inl [6, 7, 9, 10, 11, 19, 20, 21, 22, 23, 24, 25, 26, 27, 28, 29, 30, 31, 32, 33, 34, 35, 36, 37, 38, 39]) (fun ⟨k8, i9, x7⟩ => [(7, (.int .i64 (x7))), (19, (.int .i64 (i9)))]) (fun ⟨k8, i9, x7⟩ w => SH w0 M BE w (hset [(1, .sr rTok va a), (2, .sr rFun vb b)]) ∧ i9 = (k8 : Int) ∧ each (source_Expr_b29 b c) source_Expr_k30 (a.drop k8) x7 = some r) (fun ⟨k8, i9, x7⟩ => a.length - k8) ⟨0, 0, 1⟩ ⟨rfl, rfl, trivial⟩ ?_ ?_))))))))))))))))
    ·
     exact ⟨h.cn _, rfl, hs⟩
    ·
     rintro ⟨k8, i9, x7⟩ w junk ⟨h, hik, hs⟩
     refine wc_seq (wc_region ?_)
     refine wl_ok (r_lss rfl rfl) (wl_nil (then_normal ?_))
     refine wc_seq (wc_if rfl (fun e13 => ?_) (fun e13 => ?_))
     ·
      refine wc_skip (then_normal ?_)
      obtain ⟨x10, e14a, e14b⟩ := drop_lt (hik ▸ e13)
      rw [e14b, each_cons] at hs
      generalize hnx12 : each (source_Expr_b29 b c) source_Expr_k30 (a.drop (k8 + 1)) = nx12 at hs
      have e14r := nat_rng ((h.srS 1 rfl)).len_le hik e13
      refine wc_seq (wc_block (wc_seq (wc_region ?_)))
      obtain ⟨b16, o17, cs18, h, r19, i15⟩ := h.ixS 1 3 rfl SliceOf71 rfl (nat_nn hik) (get_nat hik e14a)
      obtain rfl := r19
      refine wl_ok (i15 _ _ _ _ _ _ _ _ _ rfl rfl) (wl_ok (r_ldPN (k := 0) (vs := [(.int .i64 (x10.kind)), (.int .i64 (x10.n))]) h 3 rfl Many112 rfl rfl rfl (Nat.le_of_ble_eq_true rfl)) (w_allocN h 4 Many112 fun w b20 h => w_stN (vs := [(.int .i64 (x10.kind)), (.int .i64 (x10.n))]) h 4 [(.int .i64 (x10.kind)), (.int .i64 (x10.n))] rfl Many112 rfl rfl rfl rfl rfl (ones_cons rfl (ones_cons rfl ones_nil)) fun w h => wl_nil (then_normal (wc_seq (wc_region (wl_ok (r_ldBN (vs := [(.int .i64 (x10.kind)), (.int .i64 (x10.n))]) h 4 rfl Many112 rfl rfl rfl) (wl_ok (r_move (v := vb) rfl) (wl_ok (r_move (v := (.int .i64 (c))) rfl) ?_))))))))
      obtain ⟨y21, e22, hs⟩ := o_bind hs
      refine w_call fnOk94 rfl rfl (source_tok_c _ _ h.lt x10 vb b (h.srS 2 rfl) c _ e22) ?_
      rintro _ w ⟨k23, rfl⟩
      refine ⟨_, rfl, ?_⟩
      replace h := h.grow k23
      refine wl_ok (r_move (v := (.tuple #[(.int .i64 (y21.1)), (.int .i64 (y21.2))])) rfl) (wl_ok (r_extract rfl rfl) (wl_ok (r_extract rfl rfl) (wl_ok (r_assign (v := (.int .i64 (y21.1))) rfl) (wl_ok (r_assign (v := (.int .i64 (y21.2))) rfl) (wl_nil (then_normal (wc_seq (wc_seq (wc_region (wl_ok (r_move (v := (.int .i64 (y21.2))) rfl) (wl_ok (r_neq rfl rfl) (wl_nil (then_normal (wc_ifb hs rfl (fun c24 hs => ?_) (fun c24 hs => ?_)))))))))))))))
      ·
       refine wc_seq (wc_region (wl_ok (r_move (v := (.int .i64 (y21.2))) rfl) (wl_ok (r_assign (v := (.int .i64 (y21.2))) rfl) (wl_nil (then_normal (wc_ret (then_ret (inBlock_ret (then_ret (then_ret (inBlock_ret (then_ret (fin1 (v := (.int .i64 (y21.2))) Try.results48 rfl ?_)))))))))))))
       obtain rfl := Option.some.inj hs
       exact ⟨h.grown, rfl⟩
      ·
       refine wc_skip (then_normal (wc_seq (wc_seq (wc_region (wl_ok (r_move (v := (.int .i64 (x7))) rfl) (wl_ok (r_eql rfl rfl) (wl_nil (then_normal (wc_ifb hs rfl (fun c25 hs => ?_) (fun c25 hs => ?_))))))))))
       ·
        refine wc_seq (wc_region (wl_ok (r_assign (v := (.int .i64 (4))) rfl) (wl_nil (then_normal (wc_ret (then_ret (inBlock_ret (then_ret (then_ret (inBlock_ret (then_ret (fin1 (v := (.int .i64 (4))) Try.results48 rfl ?_))))))))))))
        obtain rfl := Option.some.inj hs
        exact ⟨h.grown, rfl⟩
       ·
        refine wc_skip (then_normal (wc_region (wl_ok (r_move (v := (.int .i64 (x7))) rfl) (wl_ok (r_move (v := (.int .i64 (y21.1))) rfl) ?_))))
        obtain ⟨a26, hs⟩ := o_grd hs
        refine wl_ok (r_sub rfl rfl a26) ?_
        obtain ⟨a27, hs⟩ := o_grd hs
        refine wl_ok (r_add rfl rfl a27) (wl_ok (r_assign (v := (.int .i64 ((x7 + (y21.1 - 1))))) rfl) (wl_nil (inBlock_normal (then_normal (wc_region (wl_ok (r_add rfl rfl e14r) (wl_ok (r_move (v := (.int .i64 ((i9 + 1)))) rfl) (wl_nil (then_loop ?_)))))))))
        subst hnx12
        exact lend ⟨k8 + 1, i9 + 1, (x7 + (y21.1 - 1))⟩ ⟨h.cn _, by omega, hs⟩ (by have := of_decide_eq_true e13; dsimp only; omega)
     ·
      rw [drop_ge (hik ▸ e13), each_nil] at hs
      refine wc_exit (then_exit (then_exit (inBlock_eq (then_normal (wc_seq (wc_seq (wc_region (wl_ok (r_move (v := (.int .i64 (x7))) rfl) (wl_ok (r_gtr rfl rfl) (wl_nil (then_normal (wc_ifb hs rfl (fun c28 hs => ?_) (fun c28 hs => ?_)))))))))))))
      ·
       refine wc_seq (wc_region (wl_ok (r_assign (v := (.int .i64 (4))) rfl) (wl_nil (then_normal (wc_ret (then_ret (fin1 (v := (.int .i64 (4))) Try.results48 rfl ?_)))))))
       obtain rfl := Option.some.inj hs
       exact ⟨h.grown, rfl⟩
      ·
       refine wc_skip (then_normal (wc_seq (wc_region (wl_ok (r_assign (v := (.int .i64 (0))) rfl) (wl_nil (then_normal (wc_ret (fin1 (v := (.int .i64 (0))) Try.results48 rfl ?_))))))))
       obtain rfl := Option.some.inj hs
       exact ⟨h.grown, rfl⟩
  ·
   refine wc_region (wl_ok (r_move (v := vb) rfl) (w_callIn (args := [vb, (.func (.func 93) #[] #[])]) fnOk92 rfl rfl (calls_start (args := [vb, (.func (.func 93) #[] #[])]) Try.func92 rfl Try.ntmps92 (Nat.le_of_ble_eq_true rfl) (wc_seq (wc_region (wl_ok (r_assign (v := (.bool (false))) rfl) (wl_nil (then_normal (wc_seq (wc_region (wl_ok (r_move (v := vb) rfl) (wl_ok (r_move (v := (.func (.func 93) #[] #[])) rfl) (w_callIn (args := [vb, (.func (.func 93) #[] #[])]) fnOk113 rfl rfl (calls_start (args := [vb, (.func (.func 93) #[] #[])]) Try.func113 rfl Try.ntmps113 (Nat.le_of_ble_eq_true rfl) (wc_seq (wc_region (wl_ok (r_assign (v := (.int .i64 (0))) rfl) (wl_nil (then_normal (wc_seq (wc_seq (wc_region (wl_ok (r_move (v := vb) rfl) ?_)))))))))))))))))))))))
   refine wl_ok (r_len SliceOf70 rfl (h.srS 2 rfl)) (wl_ok (r_move (v := (.int .i64 (0))) rfl) (wl_nil (then_normal (wc_block ?_))))
   have hli30 := (h.srS 2 rfl).len_le
   refine wc_lp (σ := Nat × Int) (inl [4, 5, 8, 9, 10, 11, 12, 13, 14, 15, 16, 17, 18]) (fun ⟨k29, i30⟩ => [(8, (.int .i64 (i30)))]) (fun ⟨k29, i30⟩ w => SH w0 M BE w (hset [(1, .sr rTok va a), (2, .sr rFun vb b)]) ∧ i30 = (k29 : Int) ∧ upto (source_Expr_b37 b c a) (source_Expr_k38 b c a) i30 (((b.length : Int)).toNat - k29) () = some r) (fun ⟨k29, i30⟩ => ((b.length : Int)).toNat - k29) ⟨0, 0⟩ ⟨rfl, trivial⟩ ?_ ?_
   ·
    exact ⟨h.cn _, rfl, hs⟩
   ·
    rintro ⟨k29, i30⟩ w junk ⟨h, hik, hs⟩
    refine wc_seq (wc_region ?_)
    refine wl_ok (r_lss rfl rfl) (wl_nil (then_normal ?_))
    refine wc_seq (wc_if rfl (fun e34 => ?_) (fun e34 => ?_))
    ·
     refine wc_skip (then_normal ?_)
     rw [upto_lt (by have := of_decide_eq_true e34; omega)] at hs
     generalize hnx33 : upto (source_Expr_b37 b c a) (source_Expr_k38 b c a) (i30 + 1) (((b.length : Int)).toNat - (k29 + 1)) = nx33 at hs
     have e35r : I64 (i30 + 1) := (by have := of_decide_eq_true e34; have := hli30; exact I64.mk (by omega) (by omega))
     refine wc_seq (wc_block (wc_seq (wc_region (wl_ok (r_move (v := (.int .i64 (i30))) rfl) (wl_ok (r_assign (v := (.int .i64 (i30))) rfl) (wl_nil (then_normal (wc_seq (wc_region (wl_ok (r_move (v := (.func (.func 93) #[] #[])) rfl) (wl_ok (r_move (v := vb) rfl) (wl_ok (r_move (v := (.int .i64 (i30))) rfl) ?_))))))))))))
     obtain ⟨x36, e37, hs⟩ := o_bind hs
     obtain ⟨b39, o40, cs41, h, r42, i38⟩ := h.ixS 2 5 rfl SliceOf70 rfl (o_idx e37).1 (o_idx e37).2
     obtain ⟨u43, rfl, g44⟩ := rFun_open r42
     replace h := h.knowRd 6 g44.up
     refine wl_ok (i38 _ _ _ _ _ _ _ _ _ rfl rfl) (wl_ok (r_ldPN (k := 0) (vs := [(.int .i64 (x36.params)), (.int .i64 (x36.locals)), u43]) h 5 rfl Many78 rfl rfl rfl (Nat.le_of_ble_eq_true rfl)) (w_callIn (args := [(.agg #[(.int .i64 (x36.params)), (.int .i64 (x36.locals)), u43])]) fnOk93 rfl rfl (calls_start (args := [(.agg #[(.int .i64 (x36.params)), (.int .i64 (x36.locals)), u43])]) Try.func93 rfl Try.ntmps93 (Nat.le_of_ble_eq_true rfl) (wc_seq (wc_region (w_box (cs := [(.int .i64 (x36.params)), (.int .i64 (x36.locals)), u43]) h 7 rfl rfl fun w b45 h => wl_ok (r_assign (v := (.bool (false))) rfl) (wl_nil (then_normal (wc_seq (wc_region (wl_ok (r_fieldAddr Fld78x0 rfl) (wl_ok (r_ldB h 7 rfl One3 rfl rfl) (wl_ok (r_lss rfl rfl) (wl_ok (r_move (v := (.bool (decide ((x36.params : Int) < 0)))) rfl) (wl_gd0 rfl rfl (fun q => r_fieldAddr Fld78x0 rfl) (wl_gd0 rfl rfl (fun q => r_ldB h 7 rfl One3 (gvt q) rfl) (wl_gd0 rfl rfl (fun q => r_gtr (gvt q) rfl) (wl_ok (r_por rfl rfl evc) (wl_ok (r_assign (v := (.bool ((decide ((x36.params : Int) < 0) || decide ((3 : Int) < x36.params))))) rfl) (wl_nil (then_normal (wc_ret ?_))))))))))))))))))))))
     refine fin1 (v := (.bool ((decide ((x36.params : Int) < 0) || decide ((3 : Int) < x36.params))))) Try.results93 rfl (⟨_, rfl, ?_⟩)
     refine wl_nil (then_normal (wc_ifb hs rfl (fun c46 hs => ?_) (fun c46 hs => ?_)))
     ·
      refine wc_seq (wc_region (wl_ok (r_move (v := (.int .i64 (i30))) rfl) (wl_ok (r_assign (v := (.int .i64 (i30))) rfl) (wl_nil (then_normal (wc_ret (inBlock_ret (then_ret (then_ret (inBlock_ret (then_ret (fin1 (v := (.int .i64 (i30))) Try.results113 rfl (⟨_, rfl, ?_⟩)))))))))))))
      refine wl_ok (r_geq rfl rfl) (wl_ok (r_assign (v := (.bool (decide ((0 : Int) ≤ i30)))) rfl) (wl_nil (then_normal (wc_ret (fin1 (v := (.bool (decide ((0 : Int) ≤ i30)))) Try.results92 rfl (⟨_, rfl, ?_⟩))))))
      refine wl_nil (then_loop ?_)
      exact jend (decide ((0 : Int) ≤ i30)) ⟨h.cn _, hs⟩
     ·
      refine wc_skip (inBlock_normal (then_normal (wc_region (wl_ok (r_add rfl rfl e35r) (wl_ok (r_move (v := (.int .i64 ((i30 + 1)))) rfl) (wl_nil (then_loop ?_)))))))
      subst hnx33
      exact lend ⟨k29 + 1, i30 + 1⟩ ⟨h.cn _, by omega, hs⟩ (by have := of_decide_eq_true e34; dsimp only; omega)
    ·
     rw [upto_ge (by have := of_decide_eq_false e34; omega)] at hs
     refine wc_exit (then_exit (then_exit (inBlock_eq (then_normal (wc_seq (wc_region (wl_ok (r_assign (v := (.int .i64 (-1))) rfl) (wl_nil (then_normal (wc_ret (fin1 (v := (.int .i64 (-1))) Try.results113 rfl (⟨_, rfl, ?_⟩))))))))))))
     refine wl_ok (r_geq rfl rfl) (wl_ok (r_assign (v := (.bool (false))) rfl) (wl_nil (then_normal (wc_ret (fin1 (v := (.bool (false))) Try.results92 rfl (⟨_, rfl, ?_⟩))))))
     refine wl_nil (then_loop ?_)
     exact jend false ⟨h.cn _, hs⟩
def source_stmt_j3 (x4 : Bool) (a : GStmt) (b : List Fun) (c : Int) : Option Int :=
  bif x4 then (source_Expr a.f b c).bind fun y10 => some y10 else some 0
def source_stmt_j2 (a : GStmt) (b : List Fun) (c : Int) (x2 : Bool) (x3 : Bool) (x4 : Bool) (x5 : Bool) (x6 : Bool) : Option Int :=
  bif ((((((!x2) && decide ((a.n : Int) ≠ 0)) || ((!x3) && decide ((0 : Int) < (a.e.length : Int)))) || ((!x4) && decide ((0 : Int) < (a.f.length : Int)))) || ((!x5) && decide ((0 : Int) < (a.a.length : Int)))) || ((!x6) && decide ((0 : Int) < (a.b.length : Int)))) then some 4 else bif ((decide ((a.kind : Int) = 1) && (decide ((a.n : Int) < 0) || decide ((c : Int) ≤ a.n))) || (decide ((a.kind : Int) = 2) && (decide ((a.n : Int) < 0) || decide ((4 : Int) ≤ a.n)))) then some 3 else bif x3 then (source_Expr a.e b c).bind fun y14 => bif decide ((y14 : Int) ≠ 0) then some y14 else source_stmt_j3 x4 a b c else source_stmt_j3 x4 a b c
def source_stmt_j4 (a : GStmt) (b : List Fun) (c : Int) (x20 : Bool) : Option Int :=
  bif x20 then source_stmt_j2 a b c false true false false false else bif decide ((a.kind : Int) = 4) then source_stmt_j2 a b c false false false false false else bif decide ((a.kind : Int) = 6) then source_stmt_j2 a b c false true false true true else bif decide ((a.kind : Int) = 7) then source_stmt_j2 a b c false true false true false else some 4
def source_stmt (a : GStmt) (b : List Fun) (c : Int) : Option Int :=
  bif decide ((a.kind : Int) = 1) then source_stmt_j2 a b c true true false false false else bif decide ((a.kind : Int) = 2) then source_stmt_j2 a b c true true true false false else bif decide ((a.kind : Int) = 3) then source_stmt_j4 a b c (decide ((a.kind : Int) = 3)) else bif decide ((a.kind : Int) = 5) then source_stmt_j4 a b c (decide ((a.kind : Int) = 5)) else source_stmt_j4 a b c (decide ((a.kind : Int) = 8))
theorem source_stmt_c (w0 : World) (M : BS) (hM : ∀ b, M b → b < w0.heap.size) (a : GStmt) (va2 va3 va4 va5 : Value) (ha2 : Rd2 rTok w0 BE M va2 a.e) (ha3 : Rd2 rTok w0 BE M va3 a.f) (ha4 : Rd2 rStmt w0 BE M va4 a.a) (ha5 : Rd2 rStmt w0 BE M va5 a.b) (vb : Value) (b : List Fun) (hb : Rd2 rFun w0 BE M vb b) (c : Int) (r : Int) (hs : source_stmt a b c = some r) :
    Calls Try.prog 107 #[(.agg #[(.int .i64 (a.kind)), (.int .i64 (a.n)), va2, va3, va4, va5]), vb, (.int .i64 (c))] w0 (fun e w' => Grow w0 w' ∧ e = .returned (.int .i64 r)) := by
 refine calls_start (args := [(.agg #[(.int .i64 (a.kind)), (.int .i64 (a.n)), va2, va3, va4, va5]), vb, (.int .i64 (c))]) Try.func107 rfl Try.ntmps107 (Nat.le_of_ble_eq_true rfl) ?_
 have h := SH.init hM
 replace h := h.argSr 1 ha2 none_own
 replace h := h.argSr 2 ha3 (hupd_own_sr none_own)
 replace h := h.argSr 3 ha4 (hupd_own_sr (hupd_own_sr none_own))
 replace h := h.argSr 4 ha5 (hupd_own_sr (hupd_own_sr (hupd_own_sr none_own)))
 replace h := h.argSr 5 hb (hupd_own_sr (hupd_own_sr (hupd_own_sr (hupd_own_sr none_own))))
 have hl_b := hb.len_le
 refine wc_seq (wc_region (w_box (cs := [(.int .i64 (a.kind)), (.int .i64 (a.n)), va2, va3, va4, va5]) h 6 rfl rfl fun w b1 h => wl_ok (r_assign (v := (.int .i64 (0))) rfl) (wl_nil (then_normal (wc_seq (wc_region (wl_ok (r_assign (v := (.bool (false))) rfl) (wl_ok (r_assign (v := (.bool (true))) rfl) (wl_ok (r_assign (v := (.bool (false))) rfl) (wl_nil (then_normal (wc_seq (wc_region (wl_ok (r_assign (v := (.bool (false))) rfl) (wl_ok (r_assign (v := (.bool (false))) rfl) (wl_nil (then_normal (wc_join (σ := Bool × Bool × Bool × Bool × Bool) (inl [6, 7, 8, 9, 10, 11, 13, 14, 15, 16, 17, 18, 19, 20, 21, 22, 23, 24, 25, 26, 27, 28]) (fun ⟨x2, x3, x4, x5, x6⟩ => [(7, (.bool (x2))), (8, (.bool (x3))), (9, (.bool (x4))), (10, (.bool (x5))), (11, (.bool (x6)))]) (fun ⟨x2, x3, x4, x5, x6⟩ w => SH w0 M BE w (hset [(1, .sr rTok va2 a.e), (2, .sr rTok va3 a.f), (3, .sr rStmt va4 a.a), (4, .sr rStmt va5 a.b), (5, .sr rFun vb b), (6, .blk b1 [(.int .i64 (a.kind)), (.int .i64 (a.n)), va2, va3, va4, va5])]) ∧ source_stmt_j2 a b c x2 x3 x4 x5 x6 = some r) ?_ ?_))))))))))))))))))
 ·
  rintro ⟨x2, x3, x4, x5, x6⟩ w junk ⟨h, hs⟩
  refine wc_seq (wc_seq (wc_region (wl_ok (r_move (v := (.bool (x2))) rfl) (wl_ok (r_notb rfl) (wl_ok (r_move (v := (.bool ((!x2)))) rfl) (wl_gd0 rfl rfl (fun q => r_fieldAddr Fld82x1 rfl) (wl_gd0 rfl rfl (fun q => r_ldB h 6 rfl One3 (gvt q) rfl) (wl_gd0 rfl rfl (fun q => r_neq (gvt q) rfl) (wl_ok (r_pand rfl rfl evc) (wl_ok (r_move (v := (.bool (((!x2) && decide ((a.n : Int) ≠ 0))))) rfl) (wl_gd0 rfl rfl (fun q => r_move (v := (.bool (x3))) rfl) (wl_gd0 rfl rfl (fun q => r_notb (gvt q)) (wl_gd0 rfl rfl (fun q => r_move (v := (.bool ((!x3)))) (gvt q)) (wl_gd (((!x2) && decide ((a.n : Int) ≠ 0)) == false) rfl rfl (fun q => r_fieldAddr Fld82x2 rfl) (wl_gd (((!x2) && decide ((a.n : Int) ≠ 0)) == false) rfl rfl (fun q => r_ldB h 6 rfl One71 (gvt q) rfl) (wl_gd (((!x2) && decide ((a.n : Int) ≠ 0)) == false) rfl rfl (fun q => r_len SliceOf71 (gvt q) (h.srS 1 rfl)) (wl_gd (((!x2) && decide ((a.n : Int) ≠ 0)) == false) rfl rfl (fun q => r_gtr (gvt q) rfl) (wl_gd0 rfl rfl (fun q => r_pand (gvt q) (gvn q) evc) (wl_ok (r_por rfl rfl evc) (wl_ok (r_move (v := (.bool ((((!x2) && decide ((a.n : Int) ≠ 0)) || ((!x3) && decide ((0 : Int) < (a.e.length : Int))))))) rfl) (wl_gd0 rfl rfl (fun q => r_move (v := (.bool (x4))) rfl) (wl_gd0 rfl rfl (fun q => r_notb (gvt q)) (wl_gd0 rfl rfl (fun q => r_move (v := (.bool ((!x4)))) (gvt q)) ?_)))))))))))))))))))))))
  refine wl_gd ((((!x2) && decide ((a.n : Int) ≠ 0)) || ((!x3) && decide ((0 : Int) < (a.e.length : Int)))) == false) rfl rfl (fun q => r_fieldAddr Fld82x3 rfl) (wl_gd ((((!x2) && decide ((a.n : Int) ≠ 0)) || ((!x3) && decide ((0 : Int) < (a.e.length : Int)))) == false) rfl rfl (fun q => r_ldB h 6 rfl One71 (gvt q) rfl) (wl_gd ((((!x2) && decide ((a.n : Int) ≠ 0)) || ((!x3) && decide ((0 : Int) < (a.e.length : Int)))) == false) rfl rfl (fun q => r_len SliceOf71 (gvt q) (h.srS 2 rfl)) (wl_gd ((((!x2) && decide ((a.n : Int) ≠ 0)) || ((!x3) && decide ((0 : Int) < (a.e.length : Int)))) == false) rfl rfl (fun q => r_gtr (gvt q) rfl) (wl_gd0 rfl rfl (fun q => r_pand (gvt q) (gvn q) evc) (wl_ok (r_por rfl rfl evc) (wl_ok (r_move (v := (.bool (((((!x2) && decide ((a.n : Int) ≠ 0)) || ((!x3) && decide ((0 : Int) < (a.e.length : Int)))) || ((!x4) && decide ((0 : Int) < (a.f.length : Int))))))) rfl) (wl_gd0 rfl rfl (fun q => r_move (v := (.bool (x5))) rfl) (wl_gd0 rfl rfl (fun q => r_notb (gvt q)) (wl_gd0 rfl rfl (fun q => r_move (v := (.bool ((!x5)))) (gvt q)) (wl_gd (((((!x2) && decide ((a.n : Int) ≠ 0)) || ((!x3) && decide ((0 : Int) < (a.e.length : Int)))) || ((!x4) && decide ((0 : Int) < (a.f.length : Int)))) == false) rfl rfl (fun q => r_fieldAddr Fld82x4 rfl) (wl_gd (((((!x2) && decide ((a.n : Int) ≠ 0)) || ((!x3) && decide ((0 : Int) < (a.e.length : Int)))) || ((!x4) && decide ((0 : Int) < (a.f.length : Int)))) == false) rfl rfl (fun q => r_ldB h 6 rfl One76 (gvt q) rfl) (wl_gd (((((!x2) && decide ((a.n : Int) ≠ 0)) || ((!x3) && decide ((0 : Int) < (a.e.length : Int)))) || ((!x4) && decide ((0 : Int) < (a.f.length : Int)))) == false) rfl rfl (fun q => r_len SliceOf76 (gvt q) (h.srS 3 rfl)) (wl_gd (((((!x2) && decide ((a.n : Int) ≠ 0)) || ((!x3) && decide ((0 : Int) < (a.e.length : Int)))) || ((!x4) && decide ((0 : Int) < (a.f.length : Int)))) == false) rfl rfl (fun q => r_gtr (gvt q) rfl) (wl_gd0 rfl rfl (fun q => r_pand (gvt q) (gvn q) evc) (wl_ok (r_por rfl rfl evc) (wl_ok (r_move (v := (.bool ((((((!x2) && decide ((a.n : Int) ≠ 0)) || ((!x3) && decide ((0 : Int) < (a.e.length : Int)))) || ((!x4) && decide ((0 : Int) < (a.f.length : Int)))) || ((!x5) && decide ((0 : Int) < (a.a.length : Int))))))) rfl) (wl_gd0 rfl rfl (fun q => r_move (v := (.bool (x6))) rfl) (wl_gd0 rfl rfl (fun q => r_notb (gvt q)) (wl_gd0 rfl rfl (fun q => r_move (v := (.bool ((!x6)))) (gvt q)) (wl_gd ((((((!x2) && decide ((a.n : Int) ≠ 0)) || ((!x3) && decide ((0 : Int) < (a.e.length : Int)))) || ((!x4) && decide ((0 : Int) < (a.f.length : Int)))) || ((!x5) && decide ((0 : Int) < (a.a.length : Int)))) == false) rfl rfl (fun q => r_fieldAddr Fld82x5 rfl) (wl_gd ((((((!x2) && decide ((a.n : Int) ≠ 0)) || ((!x3) && decide ((0 : Int) < (a.e.length : Int)))) || ((!x4) && decide ((0 : Int) < (a.f.length : Int)))) || ((!x5) && decide ((0 : Int) < (a.a.length : Int)))) == false) rfl rfl (fun q => r_ldB h 6 rfl One76 (gvt q) rfl) (wl_gd ((((((!x2) && decide ((a.n : Int) ≠ 0)) || ((!x3) && decide ((0 : Int) < (a.e.length : Int)))) || ((!x4) && decide ((0 : Int) < (a.f.length : Int)))) || ((!x5) && decide ((0 : Int) < (a.a.length : Int)))) == false) rfl rfl (fun q => r_len SliceOf76 (gvt q) (h.srS 4 rfl)) (wl_gd ((((((!x2) && decide ((a.n : Int) ≠ 0)) || ((!x3) && decide ((0 : Int) < (a.e.length : Int)))) || ((!x4) && decide ((0 : Int) < (a.f.length : Int)))) || ((!x5) && decide ((0 : Int) < (a.a.length : Int)))) == false) rfl rfl (fun q => r_gtr (gvt q) rfl) ?_)))))))))))))))))))))))
  refine wl_gd0 rfl rfl (fun q => r_pand (gvt q) (gvn q) evc) (wl_ok (r_por rfl rfl evc) (wl_nil (then_normal (wc_ifb hs rfl (fun c7 hs => ?_) (fun c7 hs => ?_)))))
  ·
   refine wc_seq (wc_region (wl_ok (r_assign (v := (.int .i64 (4))) rfl) (wl_nil (then_normal (wc_ret (then_ret (fin1 (v := (.int .i64 (4))) Try.results107 rfl ?_)))))))
   obtain rfl := Option.some.inj hs
   exact ⟨h.grown, rfl⟩
  ·
   refine wc_skip (then_normal (wc_seq (wc_seq (wc_region (wl_ok (r_fieldAddr Fld82x0 rfl) (wl_ok (r_ldB h 6 rfl One3 rfl rfl) (wl_ok (r_eql rfl rfl) (wl_ok (r_move (v := (.bool (decide ((a.kind : Int) = 1)))) rfl) (wl_gd0 rfl rfl (fun q => r_fieldAddr Fld82x1 rfl) (wl_gd0 rfl rfl (fun q => r_ldB h 6 rfl One3 (gvt q) rfl) (wl_gd0 rfl rfl (fun q => r_lss (gvt q) rfl) (wl_gd0 rfl rfl (fun q => r_move (v := (.bool (decide ((a.n : Int) < 0)))) (gvt q)) (wl_gd (decide ((a.kind : Int) = 1) == true) rfl rfl (fun q => r_fieldAddr Fld82x1 rfl) (wl_gd (decide ((a.kind : Int) = 1) == true) rfl rfl (fun q => r_ldB h 6 rfl One3 (gvt q) rfl) (wl_gd (decide ((a.kind : Int) = 1) == true) rfl rfl (fun q => r_move (v := (.int .i64 (c))) rfl) (wl_gd (decide ((a.kind : Int) = 1) == true) rfl rfl (fun q => r_geq (gvt q) (gvt q)) (wl_gd0 rfl rfl (fun q => r_por (gvt q) (gvn q) evc) (wl_ok (r_pand rfl rfl evc) (wl_ok (r_move (v := (.bool ((decide ((a.kind : Int) = 1) && (decide ((a.n : Int) < 0) || decide ((c : Int) ≤ a.n)))))) rfl) (wl_gd0 rfl rfl (fun q => r_fieldAddr Fld82x0 rfl) (wl_gd0 rfl rfl (fun q => r_ldB h 6 rfl One3 (gvt q) rfl) (wl_gd0 rfl rfl (fun q => r_eql (gvt q) rfl) (wl_gd0 rfl rfl (fun q => r_move (v := (.bool (decide ((a.kind : Int) = 2)))) (gvt q)) ?_)))))))))))))))))))))))
   refine wl_gd ((decide ((a.kind : Int) = 1) && (decide ((a.n : Int) < 0) || decide ((c : Int) ≤ a.n))) == false) rfl rfl (fun q => r_fieldAddr Fld82x1 rfl) (wl_gd ((decide ((a.kind : Int) = 1) && (decide ((a.n : Int) < 0) || decide ((c : Int) ≤ a.n))) == false) rfl rfl (fun q => r_ldB h 6 rfl One3 (gvt q) rfl) (wl_gd ((decide ((a.kind : Int) = 1) && (decide ((a.n : Int) < 0) || decide ((c : Int) ≤ a.n))) == false) rfl rfl (fun q => r_lss (gvt q) rfl) (wl_gd ((decide ((a.kind : Int) = 1) && (decide ((a.n : Int) < 0) || decide ((c : Int) ≤ a.n))) == false) rfl rfl (fun q => r_move (v := (.bool (decide ((a.n : Int) < 0)))) (gvt q)) (wl_gd (((decide ((a.kind : Int) = 1) && (decide ((a.n : Int) < 0) || decide ((c : Int) ≤ a.n))) == false) && (decide ((a.kind : Int) = 2) == true)) rfl rfl (fun q => r_fieldAddr Fld82x1 rfl) (wl_gd (((decide ((a.kind : Int) = 1) && (decide ((a.n : Int) < 0) || decide ((c : Int) ≤ a.n))) == false) && (decide ((a.kind : Int) = 2) == true)) rfl rfl (fun q => r_ldB h 6 rfl One3 (gvt q) rfl) (wl_gd (((decide ((a.kind : Int) = 1) && (decide ((a.n : Int) < 0) || decide ((c : Int) ≤ a.n))) == false) && (decide ((a.kind : Int) = 2) == true)) rfl rfl (fun q => r_geq (gvt q) rfl) (wl_gd ((decide ((a.kind : Int) = 1) && (decide ((a.n : Int) < 0) || decide ((c : Int) ≤ a.n))) == false) rfl rfl (fun q => r_por (gvt q) (gvn q) evc) (wl_gd0 rfl rfl (fun q => r_pand (gvt q) (gvn q) evc) (wl_ok (r_por rfl rfl evc) (wl_nil (then_normal (wc_ifb hs rfl (fun c8 hs => ?_) (fun c8 hs => ?_)))))))))))))
   ·
    refine wc_seq (wc_region (wl_ok (r_assign (v := (.int .i64 (3))) rfl) (wl_nil (then_normal (wc_ret (then_ret (fin1 (v := (.int .i64 (3))) Try.results107 rfl ?_)))))))
    obtain rfl := Option.some.inj hs
    exact ⟨h.grown, rfl⟩
   ·
    refine wc_skip (then_normal (wc_join (σ := Unit) (inl [6, 12, 105, 106, 107, 108, 109, 110, 111, 112, 113]) (fun _ => []) (fun _ w => SH w0 M BE w (hset [(1, .sr rTok va2 a.e), (2, .sr rTok va3 a.f), (3, .sr rStmt va4 a.a), (4, .sr rStmt va5 a.b), (5, .sr rFun vb b), (6, .blk b1 [(.int .i64 (a.kind)), (.int .i64 (a.n)), va2, va3, va4, va5])]) ∧ source_stmt_j3 x4 a b c = some r) ?_ ?_))
    ·
     rintro ⟨⟩ w junk ⟨h, hs⟩
     refine wc_seq (wc_seq (wc_region (wl_ok (r_move (v := (.bool (x4))) rfl) (wl_nil (then_normal (wc_ifb hs rfl (fun c9 hs => ?_) (fun c9 hs => ?_)))))))
     ·
      refine wc_seq (wc_region (wl_ok (r_fieldAddr Fld82x3 rfl) (wl_ok (r_ldB h 6 rfl One71 rfl rfl) (wl_ok (r_move (v := vb) rfl) (wl_ok (r_move (v := (.int .i64 (c))) rfl) ?_)))))
      obtain ⟨y10, e11, hs⟩ := o_bind hs
      refine w_call fnOk48 rfl rfl (source_Expr_c _ _ h.lt va3 a.f (h.srS 2 rfl) vb b (h.srS 5 rfl) c _ e11) ?_
      rintro _ w ⟨k12, rfl⟩
      refine ⟨_, rfl, ?_⟩
      replace h := h.grow k12
      refine wl_ok (r_assign (v := (.int .i64 (y10))) rfl) (wl_nil (then_normal (wc_ret (then_ret (fin1 (v := (.int .i64 (y10))) Try.results107 rfl ?_)))))
      obtain rfl := Option.some.inj hs
      exact ⟨h.grown, rfl⟩
     ·
      refine wc_skip (then_normal (wc_seq (wc_region (wl_ok (r_assign (v := (.int .i64 (0))) rfl) (wl_nil (then_normal (wc_ret (fin1 (v := (.int .i64 (0))) Try.results107 rfl ?_))))))))
      obtain rfl := Option.some.inj hs
      exact ⟨h.grown, rfl⟩
    ·
     refine wc_seq (wc_region (wl_ok (r_move (v := (.bool (x3))) rfl) (wl_nil (then_normal (wc_ifb hs rfl (fun c13 hs => ?_) (fun c13 hs => ?_))))))
     ·
      refine wc_seq (wc_region (wl_ok (r_fieldAddr Fld82x2 rfl) (wl_ok (r_ldB h 6 rfl One71 rfl rfl) (wl_ok (r_move (v := vb) rfl) (wl_ok (r_move (v := (.int .i64 (c))) rfl) ?_)))))
      obtain ⟨y14, e15, hs⟩ := o_bind hs
      refine w_call fnOk48 rfl rfl (source_Expr_c _ _ h.lt va2 a.e (h.srS 1 rfl) vb b (h.srS 5 rfl) c _ e15) ?_
      rintro _ w ⟨k16, rfl⟩
      refine ⟨_, rfl, ?_⟩
      replace h := h.grow k16
      refine wl_ok (r_assign (v := (.int .i64 (y14))) rfl) (wl_nil (then_normal (wc_seq (wc_region (wl_ok (r_move (v := (.int .i64 (y14))) rfl) (wl_ok (r_neq rfl rfl) (wl_nil (then_normal (wc_ifb hs rfl (fun c17 hs => ?_) (fun c17 hs => ?_))))))))))
      ·
       refine wc_seq (wc_region (wl_ok (r_move (v := (.int .i64 (y14))) rfl) (wl_ok (r_assign (v := (.int .i64 (y14))) rfl) (wl_nil (then_normal (wc_ret (then_ret (fin1 (v := (.int .i64 (y14))) Try.results107 rfl ?_))))))))
       obtain rfl := Option.some.inj hs
       exact ⟨h.grown, rfl⟩
      ·
       refine wc_skip (then_loop ?_)
       exact jend () ⟨h.cn _, hs⟩
     ·
      refine wc_skip (then_loop ?_)
      exact jend () ⟨h.cn _, hs⟩
 ·
  refine wc_seq (wc_region (wl_ok (r_fieldAddr Fld82x0 rfl) (wl_ok (r_ldB h 6 rfl One3 rfl rfl) (wl_nil (then_normal (wc_block (wc_seq (wc_region (wl_ok (r_eql rfl rfl) (wl_ok (r_assign (v := (.bool (decide ((a.kind : Int) = 1)))) rfl) (wl_nil (then_normal (wc_ifb hs rfl (fun c18 hs => ?_) (fun c18 hs => ?_))))))))))))))
  ·
   refine wc_region (wl_ok (r_assign (v := (.bool (true))) rfl) (wl_nil (inBlock_normal (then_loop ?_))))
   exact jend (true, true, false, false, false) ⟨h.cn _, hs⟩
  ·
   refine wc_seq (wc_region (wl_ok (r_eql rfl rfl) (wl_ok (r_assign (v := (.bool (decide ((a.kind : Int) = 2)))) rfl) (wl_nil (then_normal (wc_ifb hs rfl (fun c19 hs => ?_) (fun c19 hs => ?_)))))))
   ·
    refine wc_region (wl_ok (r_assign (v := (.bool (true))) rfl) (wl_ok (r_assign (v := (.bool (true))) rfl) (wl_nil (inBlock_normal (then_loop ?_)))))
    exact jend (true, true, true, false, false) ⟨h.cn _, hs⟩
   ·
    refine wc_join (σ := Bool) (inl [19, 20, 21, 22]) (fun x20 => [(19, (.bool (x20)))]) (fun x20 w => SH w0 M BE w (hset [(1, .sr rTok va2 a.e), (2, .sr rTok va3 a.f), (3, .sr rStmt va4 a.a), (4, .sr rStmt va5 a.b), (5, .sr rFun vb b), (6, .blk b1 [(.int .i64 (a.kind)), (.int .i64 (a.n)), va2, va3, va4, va5])]) ∧ source_stmt_j4 a b c x20 = some r) ?_ ?_
    ·
     rintro x20 w junk ⟨h, hs⟩
     refine wc_ifb hs rfl (fun c21 hs => ?_) (fun c21 hs => ?_)
     ·
      refine wc_skip (inBlock_normal (then_loop ?_))
      exact jend (false, true, false, false, false) ⟨h.cn _, hs⟩
     ·
      refine wc_seq (wc_region (wl_ok (r_eql rfl rfl) (wl_ok (r_assign (v := (.bool (decide ((a.kind : Int) = 4)))) rfl) (wl_nil (then_normal (wc_ifb hs rfl (fun c22 hs => ?_) (fun c22 hs => ?_)))))))
      ·
       refine wc_region (wl_ok (r_assign (v := (.bool (false))) rfl) (wl_nil (inBlock_normal (then_loop ?_))))
       exact jend (false, false, false, false, false) ⟨h.cn _, hs⟩
      ·
       refine wc_seq (wc_region (wl_ok (r_eql rfl rfl) (wl_ok (r_assign (v := (.bool (decide ((a.kind : Int) = 6)))) rfl) (wl_nil (then_normal (wc_ifb hs rfl (fun c23 hs => ?_) (fun c23 hs => ?_)))))))
       ·
        refine wc_region (wl_ok (r_assign (v := (.bool (true))) rfl) (wl_ok (r_assign (v := (.bool (true))) rfl) (wl_nil (inBlock_normal (then_loop ?_)))))
        exact jend (false, true, false, true, true) ⟨h.cn _, hs⟩
       ·
        refine wc_seq (wc_region (wl_ok (r_eql rfl rfl) (wl_ok (r_assign (v := (.bool (decide ((a.kind : Int) = 7)))) rfl) (wl_nil (then_normal (wc_ifb hs rfl (fun c24 hs => ?_) (fun c24 hs => ?_)))))))
        ·
         refine wc_region (wl_ok (r_assign (v := (.bool (true))) rfl) (wl_nil (inBlock_normal (then_loop ?_))))
         exact jend (false, true, false, true, false) ⟨h.cn _, hs⟩
        ·
         refine wc_seq (wc_region (wl_ok (r_assign (v := (.int .i64 (4))) rfl) (wl_nil (then_normal (wc_ret (inBlock_ret (then_ret (fin1 (v := (.int .i64 (4))) Try.results107 rfl ?_))))))))
         obtain rfl := Option.some.inj hs
         exact ⟨h.grown, rfl⟩
    ·
     refine wc_seq (wc_region (wl_ok (r_eql rfl rfl) (wl_ok (r_assign (v := (.bool (decide ((a.kind : Int) = 3)))) rfl) (wl_nil (then_normal (wc_ifb hs rfl (fun c25 hs => ?_) (fun c25 hs => ?_)))))))
     ·
      refine wc_skip (then_loop ?_)
      exact jend (decide ((a.kind : Int) = 3)) ⟨h.cn _, hs⟩
     ·
      refine wc_seq (wc_region (wl_ok (r_eql rfl rfl) (wl_ok (r_assign (v := (.bool (decide ((a.kind : Int) = 5)))) rfl) (wl_nil (then_normal (wc_ifb hs rfl (fun c26 hs => ?_) (fun c26 hs => ?_)))))))
      ·
       refine wc_skip (then_loop ?_)
       exact jend (decide ((a.kind : Int) = 5)) ⟨h.cn _, hs⟩
      ·
       refine wc_region (wl_ok (r_eql rfl rfl) (wl_ok (r_assign (v := (.bool (decide ((a.kind : Int) = 8)))) rfl) (wl_nil (then_loop ?_))))
       exact jend (decide ((a.kind : Int) = 8)) ⟨h.cn _, hs⟩
def source_stmts_b3 (F0 : List GStmt → List Fun → Int → Option Int) (b : List Fun) (c : Int) (a : List GStmt) (x3 : GStmt) (s : Unit) (nx5 : Unit → Option Int) : Option Int :=
  (source_stmt x3 b c).bind fun y22 => bif decide ((y22 : Int) ≠ 0) then some y22 else (F0 x3.a b c).bind fun y26 => bif decide ((y26 : Int) ≠ 0) then some y26 else (F0 x3.b b c).bind fun y30 => bif decide ((y30 : Int) ≠ 0) then some y30 else nx5 ()
def source_stmts_k4 (s : Unit) : Option Int :=
  some 0
def source_stmts_r (F0 : List GStmt → List Fun → Int → Option Int) (a : List GStmt) (b : List Fun) (c : Int) : Option Int :=
  each (source_stmts_b3 F0 b c a) source_stmts_k4 a ()
def source_stmts : Nat → List GStmt → List Fun → Int → Option Int
  | 0 => fun _ _ _ => none
  | N + 1 => source_stmts_r (source_stmts N)
theorem source_stmts_c : ∀ (N : Nat) (w0 : World) (M : BS) (hM : ∀ b, M b → b < w0.heap.size) (va : Value) (a : List GStmt) (ha : Rd2 rStmt w0 BE M va a) (vb : Value) (b : List Fun) (hb : Rd2 rFun w0 BE M vb b) (c : Int) (r : Int) (hs : source_stmts N a b c = some r),
    Calls Try.prog 84 #[va, vb, (.int .i64 (c))] w0 (fun e w' => Grow w0 w' ∧ e = .returned (.int .i64 r)) := by
  intro N
  induction N with
  | zero => intro w0 M hM va a ha vb b hb c r hs; cases hs
  | succ N ih =>
  intro w0 M hM va a ha vb b hb c r hs
  replace hs : source_stmts_r (source_stmts N) a b c = some r := hs
  generalize source_stmts N = F0 at hs ih
  refine calls_start (args := [va, vb, (.int .i64 (c))]) Try.func84 rfl Try.ntmps84 (Nat.le_of_ble_eq_true rfl) ?_
  have h := SH.init hM
  replace h := h.argSr 1 ha none_own
  replace h := h.argSr 2 hb (hupd_own_sr none_own)
  have hl_a := ha.len_le
  have hl_b := hb.len_le
  refine wc_seq (wc_region (wl_ok (r_assign (v := (.int .i64 (0))) rfl) (wl_nil (then_normal (wc_seq (wc_seq (wc_region (wl_ok (r_move (v := va) rfl) (wl_ok (r_len SliceOf76 rfl (h.srS 1 rfl)) (wl_ok (r_move (v := (.int .i64 (0))) rfl) (wl_nil (then_normal (wc_block (wc_lp (σ := Nat × Int) (inl [6, 8, 9, 11, 12, 15, 16, 17, 18, 19, 20, 21, 22, 23, 24, 25, 26, 27, 28, 29, 30, 31, 32, 33, 34, 35, 36, 37, 38, 39, 40, 41, 42]) (fun ⟨k1, i2⟩ => [(15, (.int .i64 (i2)))]) (fun ⟨k1, i2⟩ w => SH w0 M BE w (hset [(1, .sr rStmt va a), (2, .sr rFun vb b)]) ∧ i2 = (k1 : Int) ∧ each (source_stmts_b3 F0 b c a) source_stmts_k4 (a.drop k1) () = some r) (fun ⟨k1, i2⟩ => a.length - k1) ⟨0, 0⟩ ⟨rfl, trivial⟩ ?_ ?_))))))))))))))
  ·
   exact ⟨h.cn _, rfl, hs⟩
  ·
   rintro ⟨k1, i2⟩ w junk ⟨h, hik, hs⟩
   refine wc_seq (wc_region ?_)
   refine wl_ok (r_lss rfl rfl) (wl_nil (then_normal ?_))
   refine wc_seq (wc_if rfl (fun e6 => ?_) (fun e6 => ?_))
   ·
    refine wc_skip (then_normal ?_)
    obtain ⟨x3, e7a, e7b⟩ := drop_lt (hik ▸ e6)
    rw [e7b, each_cons] at hs
    generalize hnx5 : each (source_stmts_b3 F0 b c a) source_stmts_k4 (a.drop (k1 + 1)) = nx5 at hs
    have e7r := nat_rng ((h.srS 1 rfl)).len_le hik e6
    refine wc_seq (wc_block (wc_seq (wc_region ?_)))
    obtain ⟨b9, o10, cs11, h, r12, i8⟩ := h.ixS 1 3 rfl SliceOf76 rfl (nat_nn hik) (get_nat hik e7a)
    obtain ⟨u13, u15, u17, u19, rfl, g14, g16, g18, g20⟩ := rStmt_open r12
    replace h := h.knowRd 4 g14.up
    replace h := h.knowRd 5 g16.up.up
    replace h := h.knowRd 6 g18.up.up.up
    replace h := h.knowRd 7 g20.up.up.up.up
    refine wl_ok (i8 _ _ _ _ _ _ _ _ _ rfl rfl) (wl_ok (r_ldPN (k := 0) (vs := [(.int .i64 (x3.kind)), (.int .i64 (x3.n)), u13, u15, u17, u19]) h 3 rfl Many82 rfl rfl rfl (Nat.le_of_ble_eq_true rfl)) (w_allocN h 8 Many82 fun w b21 h => w_stN (vs := [(.int .i64 (x3.kind)), (.int .i64 (x3.n)), u13, u15, u17, u19]) h 8 [(.int .i64 (x3.kind)), (.int .i64 (x3.n)), u13, u15, u17, u19] rfl Many82 rfl rfl rfl rfl rfl (ones_cons rfl (ones_cons rfl (ones_cons (h.rdAt 4 rfl).one (ones_cons (h.rdAt 5 rfl).one (ones_cons (h.rdAt 6 rfl).one (ones_cons (h.rdAt 7 rfl).one ones_nil)))))) fun w h => wl_nil (then_normal (wc_seq (wc_seq (wc_region (wl_ok (r_ldBN (vs := [(.int .i64 (x3.kind)), (.int .i64 (x3.n)), u13, u15, u17, u19]) h 8 rfl Many82 rfl rfl rfl) (wl_ok (r_move (v := vb) rfl) (wl_ok (r_move (v := (.int .i64 (c))) rfl) ?_)))))))))
    obtain ⟨y22, e23, hs⟩ := o_bind hs
    refine w_call fnOk107 rfl rfl (source_stmt_c _ _ h.lt x3 u13 u15 u17 u19 (h.rdS 4 rfl) (h.rdS 5 rfl) (h.rdS 6 rfl) (h.rdS 7 rfl) vb b (h.srS 2 rfl) c _ e23) ?_
    rintro _ w ⟨k24, rfl⟩
    refine ⟨_, rfl, ?_⟩
    replace h := h.grow k24
    refine wl_ok (r_assign (v := (.int .i64 (y22))) rfl) (wl_nil (then_normal (wc_seq (wc_region (wl_ok (r_move (v := (.int .i64 (y22))) rfl) (wl_ok (r_neq rfl rfl) (wl_nil (then_normal (wc_ifb hs rfl (fun c25 hs => ?_) (fun c25 hs => ?_))))))))))
    ·
     refine wc_seq (wc_region (wl_ok (r_move (v := (.int .i64 (y22))) rfl) (wl_ok (r_assign (v := (.int .i64 (y22))) rfl) (wl_nil (then_normal (wc_ret (then_ret (inBlock_ret (then_ret (then_ret (inBlock_ret (then_ret (fin1 (v := (.int .i64 (y22))) Try.results84 rfl ?_)))))))))))))
     obtain rfl := Option.some.inj hs
     exact ⟨h.grown, rfl⟩
    ·
     refine wc_skip (then_normal (wc_seq (wc_region (wl_ok (r_fieldAddr Fld82x4 rfl) (wl_ok (r_ldB h 8 rfl One76 rfl rfl) (wl_ok (r_fieldAddr Fld82x5 rfl) (wl_ok (r_ldB h 8 rfl One76 rfl rfl) (wl_ok (r_build2 Arr2130 rfl rfl (h.rdAt 6 rfl).one (h.rdAt 7 rfl).one) (wl_ok (r_move (v := (.int .i64 (0))) rfl) (wl_nil (then_normal (wc_block (wc_rounds 2 (wc_seq (wc_region (wl_ok (r_lss rfl rfl) (wl_nil (then_normal (wc_seq (wc_ift rfl (wc_skip (then_normal (wc_seq ?_)))))))))))))))))))))))
     refine wc_block (wc_seq (wc_region (wl_ok (r_index2 (k := 0) Arr2130 rfl rfl rfl) (wl_ok (r_assign (v := u17) rfl) (wl_nil (then_normal (wc_seq (wc_region (wl_ok (r_move (v := u17) rfl) (wl_ok (r_move (v := vb) rfl) (wl_ok (r_move (v := (.int .i64 (c))) rfl) ?_)))))))))))
     obtain ⟨y26, e27, hs⟩ := o_bind hs
     refine w_call fnOk84 rfl rfl (ih _ _ h.lt u17 x3.a (h.rdS 6 rfl) vb b (h.srS 2 rfl) c _ e27) ?_
     rintro _ w ⟨k28, rfl⟩
     refine ⟨_, rfl, ?_⟩
     replace h := h.grow k28
     refine wl_ok (r_assign (v := (.int .i64 (y26))) rfl) (wl_nil (then_normal (wc_seq (wc_region (wl_ok (r_move (v := (.int .i64 (y26))) rfl) (wl_ok (r_neq rfl rfl) (wl_nil (then_normal (wc_ifb hs rfl (fun c29 hs => ?_) (fun c29 hs => ?_))))))))))
     ·
      refine wc_seq (wc_region (wl_ok (r_move (v := (.int .i64 (y26))) rfl) (wl_ok (r_assign (v := (.int .i64 (y26))) rfl) (wl_nil (then_normal (wc_ret (inBlock_ret (then_ret (then_ret (inBlock_ret (inBlock_ret (then_ret (then_ret (inBlock_ret (then_ret (fin1 (v := (.int .i64 (y26))) Try.results84 rfl ?_))))))))))))))))
      obtain rfl := Option.some.inj hs
      exact ⟨h.grown, rfl⟩
     ·
      refine wc_skip (inBlock_normal (then_normal (wc_region (wl_ok (r_add rfl rfl (by decide)) (wl_ok (r_move (v := (.int .i64 (1))) rfl) (wl_nil (then_round (wc_seq (wc_region (wl_ok (r_lss rfl rfl) (wl_nil (then_normal (wc_seq (wc_ift rfl (wc_skip (then_normal (wc_seq (wc_block (wc_seq (wc_region (wl_ok (r_index2 (k := 1) Arr2130 rfl rfl rfl) (wl_ok (r_assign (v := u19) rfl) (wl_nil ?_)))))))))))))))))))))))
      refine then_normal (wc_seq (wc_region (wl_ok (r_move (v := u19) rfl) (wl_ok (r_move (v := vb) rfl) (wl_ok (r_move (v := (.int .i64 (c))) rfl) ?_)))))
      obtain ⟨y30, e31, hs⟩ := o_bind hs
      refine w_call fnOk84 rfl rfl (ih _ _ h.lt u19 x3.b (h.rdS 7 rfl) vb b (h.srS 2 rfl) c _ e31) ?_
      rintro _ w ⟨k32, rfl⟩
      refine ⟨_, rfl, ?_⟩
      replace h := h.grow k32
      refine wl_ok (r_assign (v := (.int .i64 (y30))) rfl) (wl_nil (then_normal (wc_seq (wc_region (wl_ok (r_move (v := (.int .i64 (y30))) rfl) (wl_ok (r_neq rfl rfl) (wl_nil (then_normal (wc_ifb hs rfl (fun c33 hs => ?_) (fun c33 hs => ?_))))))))))
      ·
       refine wc_seq (wc_region (wl_ok (r_move (v := (.int .i64 (y30))) rfl) (wl_ok (r_assign (v := (.int .i64 (y30))) rfl) (wl_nil (then_normal (wc_ret (inBlock_ret (then_ret (then_ret (inBlock_ret (inBlock_ret (then_ret (then_ret (inBlock_ret (then_ret (fin1 (v := (.int .i64 (y30))) Try.results84 rfl ?_))))))))))))))))
       obtain rfl := Option.some.inj hs
       exact ⟨h.grown, rfl⟩
      ·
       refine wc_skip (inBlock_normal (then_normal (wc_region (wl_ok (r_add rfl rfl (by decide)) (wl_ok (r_move (v := (.int .i64 (2))) rfl) (wl_nil (then_round (wc_seq (wc_region (wl_ok (r_lss rfl rfl) (wl_nil (then_normal (wc_seq (wc_iff rfl (wc_exit (then_exit (then_exit (inBlock_eq (inBlock_normal (then_normal (wc_region (wl_ok (r_add rfl rfl e7r) (wl_ok (r_move (v := (.int .i64 ((i2 + 1)))) rfl) ?_)))))))))))))))))))))))
       refine wl_nil (then_loop ?_)
       subst hnx5
       exact lend ⟨k1 + 1, i2 + 1⟩ ⟨h.cn _, by omega, hs⟩ (by have := of_decide_eq_true e6; dsimp only; omega)
   ·
    rw [drop_ge (hik ▸ e6), each_nil] at hs
    refine wc_exit (then_exit (then_exit (inBlock_eq (then_normal (wc_seq (wc_region (wl_ok (r_assign (v := (.int .i64 (0))) rfl) (wl_nil (then_normal (wc_ret (fin1 (v := (.int .i64 (0))) Try.results84 rfl ?_)))))))))))
    obtain rfl := Option.some.inj hs
    exact ⟨h.grown, rfl⟩
def source_Check_b5 (N : Nat) (a : List Fun) (x20 : Fun) (s : Unit) (nx22 : Unit → Option Int) : Option Int :=
  (source_count N x20.body 1).bind fun y33 => bif (!y33.2) then some 2 else (source_stmts N x20.body a x20.locals).bind fun y37 => bif decide ((y37 : Int) ≠ 0) then some y37 else nx22 ()
def source_Check_k6 (s : Unit) : Option Int :=
  some 0
def source_Check_b7 (i3 : Int) (x4 : Fun) (s : Unit) (nx6 : Unit → Option Int) : Option Int :=
  bif ((((decide ((x4.params : Int) < 0) || decide ((3 : Int) < x4.params)) || decide ((x4.locals : Int) < x4.params)) || decide ((6 : Int) < x4.locals)) || (decide ((i3 : Int) = 0) && decide ((0 : Int) < x4.params))) then some 3 else nx6 ()
def source_Check_k8 (N : Nat) (a : List Fun) (s : Unit) : Option Int :=
  each (source_Check_b5 N a) source_Check_k6 a ()
def source_Check (N : Nat) (a : List Fun) : Option Int :=
  bif (decide (((a.length : Int) : Int) = 0) || decide ((4 : Int) < (a.length : Int))) then some 2 else eachI source_Check_b7 (source_Check_k8 N a) 0 a ()
theorem source_Check_c (N : Nat) (w0 : World) (M : BS) (hM : ∀ b, M b → b < w0.heap.size) (va : Value) (a : List Fun) (ha : Rd2 rFun w0 BE M va a) (r : Int) (hs : source_Check N a = some r) :
    Calls Try.prog 44 #[va] w0 (fun e w' => Grow w0 w' ∧ e = .returned (.int .i64 r)) := by
 refine calls_start (args := [va]) Try.func44 rfl Try.ntmps44 (Nat.le_of_ble_eq_true rfl) ?_
 have h := SH.init hM
 replace h := h.argSr 1 ha none_own
 have hl_a := ha.len_le
 refine wc_seq (wc_region (wl_ok (r_assign (v := (.int .i64 (0))) rfl) (wl_nil (then_normal (wc_seq (wc_seq (wc_region (wl_ok (r_move (v := va) rfl) (wl_ok (r_len SliceOf70 rfl (h.srS 1 rfl)) (wl_ok (r_eql rfl rfl) (wl_ok (r_move (v := (.bool (decide (((a.length : Int) : Int) = 0)))) rfl) (wl_gd0 rfl rfl (fun q => r_move (v := va) rfl) (wl_gd0 rfl rfl (fun q => r_len SliceOf70 (gvt q) (h.srS 1 rfl)) (wl_gd0 rfl rfl (fun q => r_gtr (gvt q) rfl) (wl_ok (r_por rfl rfl evc) (wl_nil (then_normal (wc_ifb hs rfl (fun c1 hs => ?_) (fun c1 hs => ?_)))))))))))))))))))
 ·
  refine wc_seq (wc_region (wl_ok (r_assign (v := (.int .i64 (2))) rfl) (wl_nil (then_normal (wc_ret (then_ret (fin1 (v := (.int .i64 (2))) Try.results44 rfl ?_)))))))
  obtain rfl := Option.some.inj hs
  exact ⟨h.grown, rfl⟩
 ·
  refine wc_skip (then_normal (wc_seq (wc_seq (wc_region (wl_ok (r_move (v := va) rfl) (wl_ok (r_len SliceOf70 rfl (h.srS 1 rfl)) (wl_ok (r_move (v := (.int .i64 (0))) rfl) (wl_nil (then_normal (wc_block (wc_lp (σ := Nat × Int) (inl [2, 3, 4, 20, 21, 22, 23, 24, 25, 26, 27, 28, 29, 30, 31, 32, 33, 34, 35, 36, 37, 38, 39, 40, 41, 42, 43, 44, 45, 46, 47, 48, 49, 50, 51, 52, 53, 54]) (fun ⟨k2, i3⟩ => [(20, (.int .i64 (i3)))]) (fun ⟨k2, i3⟩ w => SH w0 M BE w (hset [(1, .sr rFun va a)]) ∧ i3 = (k2 : Int) ∧ eachI source_Check_b7 (source_Check_k8 N a) i3 (a.drop k2) () = some r) (fun ⟨k2, i3⟩ => a.length - k2) ⟨0, 0⟩ ⟨rfl, trivial⟩ ?_ ?_)))))))))))
  ·
   exact ⟨h.cn _, rfl, hs⟩
  ·
   rintro ⟨k2, i3⟩ w junk ⟨h, hik, hs⟩
   refine wc_seq (wc_region ?_)
   refine wl_ok (r_lss rfl rfl) (wl_nil (then_normal ?_))
   refine wc_seq (wc_if rfl (fun e7 => ?_) (fun e7 => ?_))
   ·
    refine wc_skip (then_normal ?_)
    obtain ⟨x4, e8a, e8b⟩ := drop_lt (hik ▸ e7)
    rw [e8b, eachI_cons] at hs
    generalize hnx6 : eachI source_Check_b7 (source_Check_k8 N a) (i3 + 1) (a.drop (k2 + 1)) = nx6 at hs
    have e8r := nat_rng ((h.srS 1 rfl)).len_le hik e7
    refine wc_seq (wc_block (wc_seq (wc_region (wl_ok (r_move (v := (.int .i64 (i3))) rfl) ?_))))
    obtain ⟨b10, o11, cs12, h, r13, i9⟩ := h.ixS 1 2 rfl SliceOf70 rfl (nat_nn hik) (get_nat hik e8a)
    obtain ⟨u14, rfl, g15⟩ := rFun_open r13
    replace h := h.knowRd 3 g15.up
    refine wl_ok (i9 _ _ _ _ _ _ _ _ _ rfl rfl) (wl_ok (r_ldPN (k := 0) (vs := [(.int .i64 (x4.params)), (.int .i64 (x4.locals)), u14]) h 2 rfl Many78 rfl rfl rfl (Nat.le_of_ble_eq_true rfl)) (w_allocN h 4 Many78 fun w b16 h => wl_ok (r_assign (v := (.int .i64 (i3))) rfl) (w_stN (vs := [(.int .i64 (x4.params)), (.int .i64 (x4.locals)), u14]) h 4 [(.int .i64 (x4.params)), (.int .i64 (x4.locals)), u14] rfl Many78 rfl rfl rfl rfl rfl (ones_cons rfl (ones_cons rfl (ones_cons (h.rdAt 3 rfl).one ones_nil))) fun w h => wl_nil (then_normal (wc_seq (wc_region (wl_ok (r_fieldAddr Fld78x0 rfl) (wl_ok (r_ldB h 4 rfl One3 rfl rfl) (wl_ok (r_lss rfl rfl) (wl_ok (r_move (v := (.bool (decide ((x4.params : Int) < 0)))) rfl) (wl_gd0 rfl rfl (fun q => r_fieldAddr Fld78x0 rfl) (wl_gd0 rfl rfl (fun q => r_ldB h 4 rfl One3 (gvt q) rfl) (wl_gd0 rfl rfl (fun q => r_gtr (gvt q) rfl) (wl_ok (r_por rfl rfl evc) (wl_ok (r_move (v := (.bool ((decide ((x4.params : Int) < 0) || decide ((3 : Int) < x4.params))))) rfl) (wl_gd0 rfl rfl (fun q => r_fieldAddr Fld78x1 rfl) (wl_gd0 rfl rfl (fun q => r_ldB h 4 rfl One3 (gvt q) rfl) (wl_gd0 rfl rfl (fun q => r_fieldAddr Fld78x0 rfl) (wl_gd0 rfl rfl (fun q => r_ldB h 4 rfl One3 (gvt q) rfl) (wl_gd0 rfl rfl (fun q => r_lss (gvt q) (gvt q)) (wl_ok (r_por rfl rfl evc) ?_)))))))))))))))))))))
    refine wl_ok (r_move (v := (.bool (((decide ((x4.params : Int) < 0) || decide ((3 : Int) < x4.params)) || decide ((x4.locals : Int) < x4.params))))) rfl) (wl_gd0 rfl rfl (fun q => r_fieldAddr Fld78x1 rfl) (wl_gd0 rfl rfl (fun q => r_ldB h 4 rfl One3 (gvt q) rfl) (wl_gd0 rfl rfl (fun q => r_gtr (gvt q) rfl) (wl_ok (r_por rfl rfl evc) (wl_ok (r_move (v := (.bool ((((decide ((x4.params : Int) < 0) || decide ((3 : Int) < x4.params)) || decide ((x4.locals : Int) < x4.params)) || decide ((6 : Int) < x4.locals))))) rfl) (wl_gd0 rfl rfl (fun q => r_move (v := (.int .i64 (i3))) rfl) (wl_gd0 rfl rfl (fun q => r_eql (gvt q) rfl) (wl_gd0 rfl rfl (fun q => r_move (v := (.bool (decide ((i3 : Int) = 0)))) (gvt q)) (wl_gd ((((decide ((x4.params : Int) < 0) || decide ((3 : Int) < x4.params)) || decide ((x4.locals : Int) < x4.params)) || decide ((6 : Int) < x4.locals)) == false) rfl rfl (fun q => r_fieldAddr Fld78x0 rfl) (wl_gd ((((decide ((x4.params : Int) < 0) || decide ((3 : Int) < x4.params)) || decide ((x4.locals : Int) < x4.params)) || decide ((6 : Int) < x4.locals)) == false) rfl rfl (fun q => r_ldB h 4 rfl One3 (gvt q) rfl) (wl_gd ((((decide ((x4.params : Int) < 0) || decide ((3 : Int) < x4.params)) || decide ((x4.locals : Int) < x4.params)) || decide ((6 : Int) < x4.locals)) == false) rfl rfl (fun q => r_gtr (gvt q) rfl) (wl_gd0 rfl rfl (fun q => r_pand (gvt q) (gvn q) evc) (wl_ok (r_por rfl rfl evc) (wl_nil (then_normal (wc_ifb hs rfl (fun c17 hs => ?_) (fun c17 hs => ?_)))))))))))))))))
    ·
     refine wc_seq (wc_region (wl_ok (r_assign (v := (.int .i64 (3))) rfl) (wl_nil (then_normal (wc_ret (inBlock_ret (then_ret (then_ret (inBlock_ret (then_ret (fin1 (v := (.int .i64 (3))) Try.results44 rfl ?_)))))))))))
     obtain rfl := Option.some.inj hs
     exact ⟨h.grown, rfl⟩
    ·
     refine wc_skip (inBlock_normal (then_normal (wc_region (wl_ok (r_add rfl rfl e8r) (wl_ok (r_move (v := (.int .i64 ((i3 + 1)))) rfl) (wl_nil (then_loop ?_)))))))
     subst hnx6
     exact lend ⟨k2 + 1, i3 + 1⟩ ⟨h.cn _, by omega, hs⟩ (by have := of_decide_eq_true e7; dsimp only; omega)
   ·
    rw [drop_ge (hik ▸ e7), eachI_nil] at hs
    refine wc_exit (then_exit (then_exit (inBlock_eq (then_normal (wc_seq (wc_seq (wc_region (wl_ok (r_move (v := va) rfl) (wl_ok (r_len SliceOf70 rfl (h.srS 1 rfl)) (wl_ok (r_move (v := (.int .i64 (0))) rfl) (wl_nil (then_normal (wc_block (wc_lp (σ := Nat × Int) (inl [2, 6, 7, 8, 9, 57, 58, 59, 60, 61, 62, 63, 64, 65, 66, 67, 68, 69, 70, 71, 72, 73, 74, 75, 76, 77, 78]) (fun ⟨k18, i19⟩ => [(57, (.int .i64 (i19)))]) (fun ⟨k18, i19⟩ w => SH w0 M BE w (hset [(1, .sr rFun va a)]) ∧ i19 = (k18 : Int) ∧ each (source_Check_b5 N a) source_Check_k6 (a.drop k18) () = some r) (fun ⟨k18, i19⟩ => a.length - k18) ⟨0, 0⟩ ⟨rfl, trivial⟩ ?_ ?_))))))))))))))
    ·
     exact ⟨h.cn _, rfl, hs⟩
    ·
     rintro ⟨k18, i19⟩ w junk ⟨h, hik, hs⟩
     refine wc_seq (wc_region ?_)
     refine wl_ok (r_lss rfl rfl) (wl_nil (then_normal ?_))
     refine wc_seq (wc_if rfl (fun e23 => ?_) (fun e23 => ?_))
     ·
      refine wc_skip (then_normal ?_)
      obtain ⟨x20, e24a, e24b⟩ := drop_lt (hik ▸ e23)
      rw [e24b, each_cons] at hs
      generalize hnx22 : each (source_Check_b5 N a) source_Check_k6 (a.drop (k18 + 1)) = nx22 at hs
      have e24r := nat_rng ((h.srS 1 rfl)).len_le hik e23
      refine wc_seq (wc_block (wc_seq (wc_region ?_)))
      obtain ⟨b26, o27, cs28, h, r29, i25⟩ := h.ixS 1 5 rfl SliceOf70 rfl (nat_nn hik) (get_nat hik e24a)
      obtain ⟨u30, rfl, g31⟩ := rFun_open r29
      replace h := h.knowRd 6 g31.up
      refine wl_ok (i25 _ _ _ _ _ _ _ _ _ rfl rfl) (wl_ok (r_ldPN (k := 0) (vs := [(.int .i64 (x20.params)), (.int .i64 (x20.locals)), u30]) h 5 rfl Many78 rfl rfl rfl (Nat.le_of_ble_eq_true rfl)) (w_allocN h 7 Many78 fun w b32 h => w_stN (vs := [(.int .i64 (x20.params)), (.int .i64 (x20.locals)), u30]) h 7 [(.int .i64 (x20.params)), (.int .i64 (x20.locals)), u30] rfl Many78 rfl rfl rfl rfl rfl (ones_cons rfl (ones_cons rfl (ones_cons (h.rdAt 6 rfl).one ones_nil))) fun w h => wl_nil (then_normal (wc_seq (wc_seq (wc_region (wl_ok (r_fieldAddr Fld78x2 rfl) (wl_ok (r_ldB h 7 rfl One76 rfl rfl) ?_))))))))
      obtain ⟨y33, e34, hs⟩ := o_bind hs
      refine w_call fnOk83 rfl rfl (source_count_c N _ _ h.lt u30 x20.body (h.rdS 6 rfl) 1 _ e34) ?_
      rintro _ w ⟨k35, rfl⟩
      refine ⟨_, rfl, ?_⟩
      replace h := h.grow k35
      refine wl_ok (r_move (v := (.tuple #[(.int .i64 (y33.1)), (.bool (y33.2))])) rfl) (wl_ok (r_extract rfl rfl) (wl_ok (r_extract rfl rfl) (wl_ok (r_assign (v := (.int .i64 (y33.1))) rfl) (wl_ok (r_assign (v := (.bool (y33.2))) rfl) (wl_nil (then_normal (wc_seq (wc_region (wl_ok (r_move (v := (.bool (y33.2))) rfl) (wl_ok (r_notb rfl) (wl_nil (then_normal (wc_ifb hs rfl (fun c36 hs => ?_) (fun c36 hs => ?_))))))))))))))
      ·
       refine wc_seq (wc_region (wl_ok (r_assign (v := (.int .i64 (2))) rfl) (wl_nil (then_normal (wc_ret (then_ret (inBlock_ret (then_ret (then_ret (inBlock_ret (then_ret (fin1 (v := (.int .i64 (2))) Try.results44 rfl ?_))))))))))))
       obtain rfl := Option.some.inj hs
       exact ⟨h.grown, rfl⟩
      ·
       refine wc_skip (then_normal (wc_seq (wc_region (wl_ok (r_fieldAddr Fld78x2 rfl) (wl_ok (r_ldB h 7 rfl One76 rfl rfl) (wl_ok (r_move (v := va) rfl) (wl_ok (r_fieldAddr Fld78x1 rfl) (wl_ok (r_ldB h 7 rfl One3 rfl rfl) ?_))))))))
       obtain ⟨y37, e38, hs⟩ := o_bind hs
       refine w_call fnOk84 rfl rfl (source_stmts_c N _ _ h.lt u30 x20.body (h.rdS 6 rfl) va a (h.srS 1 rfl) x20.locals _ e38) ?_
       rintro _ w ⟨k39, rfl⟩
       refine ⟨_, rfl, ?_⟩
       replace h := h.grow k39
       refine wl_ok (r_assign (v := (.int .i64 (y37))) rfl) (wl_nil (then_normal (wc_seq (wc_region (wl_ok (r_move (v := (.int .i64 (y37))) rfl) (wl_ok (r_neq rfl rfl) (wl_nil (then_normal (wc_ifb hs rfl (fun c40 hs => ?_) (fun c40 hs => ?_))))))))))
       ·
        refine wc_seq (wc_region (wl_ok (r_move (v := (.int .i64 (y37))) rfl) (wl_ok (r_assign (v := (.int .i64 (y37))) rfl) (wl_nil (then_normal (wc_ret (inBlock_ret (then_ret (then_ret (inBlock_ret (then_ret (fin1 (v := (.int .i64 (y37))) Try.results44 rfl ?_))))))))))))
        obtain rfl := Option.some.inj hs
        exact ⟨h.grown, rfl⟩
       ·
        refine wc_skip (inBlock_normal (then_normal (wc_region (wl_ok (r_add rfl rfl e24r) (wl_ok (r_move (v := (.int .i64 ((i19 + 1)))) rfl) (wl_nil (then_loop ?_)))))))
        subst hnx22
        exact lend ⟨k18 + 1, i19 + 1⟩ ⟨h.cn _, by omega, hs⟩ (by have := of_decide_eq_true e23; dsimp only; omega)
     ·
      rw [drop_ge (hik ▸ e23), each_nil] at hs
      refine wc_exit (then_exit (then_exit (inBlock_eq (then_normal (wc_seq (wc_region (wl_ok (r_assign (v := (.int .i64 (0))) rfl) (wl_nil (then_normal (wc_ret (fin1 (v := (.int .i64 (0))) Try.results44 rfl ?_)))))))))))
      obtain rfl := Option.some.inj hs
      exact ⟨h.grown, rfl⟩
def slices_Equal_Tok_b3 (a : List Tok) (b : List Tok) (i3 : Int) (s : Unit) (nx6 : Unit → Option Bool) : Option Bool :=
  (idx a i3).bind fun x9 => (idx b i3).bind fun x16 => bif !(decide (x9.kind = x16.kind) && decide (x9.n = x16.n)) then some false else nx6 ()
def slices_Equal_Tok_k4 (s : Unit) : Option Bool :=
  some true
def slices_Equal_Tok (a : List Tok) (b : List Tok) : Option Bool :=
  bif decide (((a.length : Int) : Int) ≠ (b.length : Int)) then some false else upto (slices_Equal_Tok_b3 a b) slices_Equal_Tok_k4 0 ((a.length : Int)).toNat ()
theorem slices_Equal_Tok_c (w0 : World) (M : BS) (hM : ∀ b, M b → b < w0.heap.size) (va : Value) (a : List Tok) (ha : Rd2 rTok w0 BE M va a) (vb : Value) (b : List Tok) (hb : Rd2 rTok w0 BE M vb b) (r : Bool) (hs : slices_Equal_Tok a b = some r) :
    Calls Try.prog 112 #[va, vb] w0 (fun e w' => Grow w0 w' ∧ e = .returned (.bool r)) := by
 refine calls_start (args := [va, vb]) Try.func112 rfl Try.ntmps112 (Nat.le_of_ble_eq_true rfl) ?_
 have h := SH.init hM
 replace h := h.argSr 1 ha none_own
 replace h := h.argSr 2 hb (hupd_own_sr none_own)
 have hl_a := ha.len_le
 have hl_b := hb.len_le
 refine wc_seq (wc_region (wl_ok (r_assign (v := (.bool (false))) rfl) (wl_nil (then_normal (wc_seq (wc_seq (wc_region (wl_ok (r_move (v := va) rfl) (wl_ok (r_len SliceOf71 rfl (h.srS 1 rfl)) (wl_ok (r_move (v := vb) rfl) (wl_ok (r_len SliceOf71 rfl (h.srS 2 rfl)) (wl_ok (r_neq rfl rfl) (wl_nil (then_normal (wc_ifb hs rfl (fun c1 hs => ?_) (fun c1 hs => ?_))))))))))))))))
 ·
  refine wc_seq (wc_region (wl_ok (r_assign (v := (.bool (false))) rfl) (wl_nil (then_normal (wc_ret (then_ret (fin1 (v := (.bool (false))) Try.results112 rfl ?_)))))))
  obtain rfl := Option.some.inj hs
  exact ⟨h.grown, rfl⟩
 ·
  refine wc_skip (then_normal (wc_seq (wc_seq (wc_region (wl_ok (r_move (v := va) rfl) (wl_ok (r_len SliceOf71 rfl (h.srS 1 rfl)) (wl_ok (r_move (v := (.int .i64 (0))) rfl) (wl_nil (then_normal (wc_block ?_))))))))))
  have hli3 := (h.srS 1 rfl).len_le
  refine wc_lp (σ := Nat × Int) (inl [4, 5, 13, 14, 15, 16, 17, 18, 19, 20, 21, 22, 23, 24, 25]) (fun ⟨k2, i3⟩ => [(13, (.int .i64 (i3)))]) (fun ⟨k2, i3⟩ w => SH w0 M BE w (hset [(1, .sr rTok va a), (2, .sr rTok vb b)]) ∧ i3 = (k2 : Int) ∧ upto (slices_Equal_Tok_b3 a b) slices_Equal_Tok_k4 i3 (((a.length : Int)).toNat - k2) () = some r) (fun ⟨k2, i3⟩ => ((a.length : Int)).toNat - k2) ⟨0, 0⟩ ⟨rfl, trivial⟩ ?_ ?_
  ·
   exact ⟨h.cn _, rfl, hs⟩
  ·
   rintro ⟨k2, i3⟩ w junk ⟨h, hik, hs⟩
   refine wc_seq (wc_region ?_)
   refine wl_ok (r_lss rfl rfl) (wl_nil (then_normal ?_))
   refine wc_seq (wc_if rfl (fun e7 => ?_) (fun e7 => ?_))
   ·
    refine wc_skip (then_normal ?_)
    rw [upto_lt (by have := of_decide_eq_true e7; omega)] at hs
    generalize hnx6 : upto (slices_Equal_Tok_b3 a b) slices_Equal_Tok_k4 (i3 + 1) (((a.length : Int)).toNat - (k2 + 1)) = nx6 at hs
    have e8r : I64 (i3 + 1) := (by have := of_decide_eq_true e7; have := hli3; exact I64.mk (by omega) (by omega))
    refine wc_seq (wc_block (wc_seq (wc_region (wl_ok (r_move (v := (.int .i64 (i3))) rfl) (wl_ok (r_assign (v := (.int .i64 (i3))) rfl) (wl_nil (then_normal (wc_seq (wc_still mixed (by kernel_rfl) h fun w h => wk_ok (r_move (v := va) rfl) (wk_ok (r_move (v := (.int .i64 (i3))) rfl) ?_))))))))))
    obtain ⟨x9, e10, hs⟩ := o_bind hs
    obtain ⟨b12, o13, cs14, h, r15, i11⟩ := h.ixS 1 3 rfl SliceOf71 rfl (o_idx e10).1 (o_idx e10).2
    obtain rfl := r15
    refine wk_ok (i11 _ _ _ _ _ _ _ _ _ rfl rfl) (wk_ok (r_ldPN (k := 0) (vs := [(.int .i64 (x9.kind)), (.int .i64 (x9.n))]) h 3 rfl Many112 rfl rfl rfl (Nat.le_of_ble_eq_true rfl)) (wk_ok (r_move (v := vb) rfl) (wk_ok (r_move (v := (.int .i64 (i3))) rfl) ?_)))
    obtain ⟨x16, e17, hs⟩ := o_bind hs
    obtain ⟨b19, o20, cs21, h, r22, i18⟩ := h.ixS 2 4 rfl SliceOf71 rfl (o_idx e17).1 (o_idx e17).2
    obtain rfl := r22
    refine wk_ok (i18 _ _ _ _ _ _ _ _ _ rfl rfl) (wk_ok (r_ldPN (k := 0) (vs := [(.int .i64 (x16.kind)), (.int .i64 (x16.n))]) h 4 rfl Many112 rfl rfl rfl (Nat.le_of_ble_eq_true rfl)) (wk_ok (r_neqP PairI112 rfl rfl) (wk_end (then_normal (wc_ifb hs rfl (fun c23 hs => ?_) (fun c23 hs => ?_))))))
    ·
     refine wc_seq (wc_region (wl_ok (r_assign (v := (.bool (false))) rfl) (wl_nil (then_normal (wc_ret (inBlock_ret (then_ret (then_ret (inBlock_ret (then_ret (fin1 (v := (.bool (false))) Try.results112 rfl ?_)))))))))))
     obtain rfl := Option.some.inj hs
     exact ⟨h.grown, rfl⟩
    ·
     refine wc_skip (inBlock_normal (then_normal (wc_region (wl_ok (r_add rfl rfl e8r) (wl_ok (r_move (v := (.int .i64 ((i3 + 1)))) rfl) (wl_nil (then_loop ?_)))))))
     subst hnx6
     exact lend ⟨k2 + 1, i3 + 1⟩ ⟨h.cn _, by omega, hs⟩ (by have := of_decide_eq_true e7; dsimp only; omega)
   ·
    rw [upto_ge (by have := of_decide_eq_false e7; omega)] at hs
    refine wc_exit (then_exit (then_exit (inBlock_eq (then_normal (wc_seq (wc_region (wl_ok (r_assign (v := (.bool (true))) rfl) (wl_nil (then_normal (wc_ret (fin1 (v := (.bool (true))) Try.results112 rfl ?_)))))))))))
    obtain rfl := Option.some.inj hs
    exact ⟨h.grown, rfl⟩
def source_same_j22 (nx6 : Unit → Option Bool) (x39 : Bool) : Option Bool :=
  bif x39 then some false else nx6 ()
def source_same_b23 (F0 : List GStmt → List GStmt → Option Bool) (b : List GStmt) (a : List GStmt) (i3 : Int) (x4 : GStmt) (s : Unit) (nx6 : Unit → Option Bool) : Option Bool :=
  (idx b i3).bind fun x23 => bif (decide ((x4.kind : Int) = x23.kind) && decide ((x4.n : Int) = x23.n)) then (slices_Equal_Tok x4.e x23.e).bind fun y44 => bif y44 then (slices_Equal_Tok x4.f x23.f).bind fun y48 => bif y48 then (F0 x4.a x23.a).bind fun y52 => bif y52 then (F0 x4.b x23.b).bind fun y56 => source_same_j22 nx6 (!y56) else source_same_j22 nx6 true else source_same_j22 nx6 true else source_same_j22 nx6 true else source_same_j22 nx6 true
def source_same_k24 (s : Unit) : Option Bool :=
  some true
def source_same_r (F0 : List GStmt → List GStmt → Option Bool) (a : List GStmt) (b : List GStmt) : Option Bool :=
  bif decide (((a.length : Int) : Int) ≠ (b.length : Int)) then some false else eachI (source_same_b23 F0 b a) source_same_k24 0 a ()
def source_same : Nat → List GStmt → List GStmt → Option Bool
  | 0 => fun _ _ => none
  | N + 1 => source_same_r (source_same N)
theorem source_same_c : ∀ (N : Nat) (w0 : World) (M : BS) (hM : ∀ b, M b → b < w0.heap.size) (va : Value) (a : List GStmt) (ha : Rd2 rStmt w0 BE M va a) (vb : Value) (b : List GStmt) (hb : Rd2 rStmt w0 BE M vb b) (r : Bool) (hs : source_same N a b = some r),
    Calls Try.prog 89 #[va, vb] w0 (fun e w' => Grow w0 w' ∧ e = .returned (.bool r)) := by
  intro N
  induction N with
  | zero => intro w0 M hM va a ha vb b hb r hs; cases hs
  | succ N ih =>
  intro w0 M hM va a ha vb b hb r hs
  replace hs : source_same_r (source_same N) a b = some r := hs
  generalize source_same N = F0 at hs ih
  refine calls_start (args := [va, vb]) Try.func89 rfl Try.ntmps89 (Nat.le_of_ble_eq_true rfl) ?_
  have h := SH.init hM
  replace h := h.argSr 1 ha none_own
  replace h := h.argSr 2 hb (hupd_own_sr none_own)
  have hl_a := ha.len_le
  have hl_b := hb.len_le
  refine wc_seq (wc_region (wl_ok (r_assign (v := (.bool (false))) rfl) (wl_nil (then_normal (wc_seq (wc_region (wl_ok (r_move (v := va) rfl) (wl_ok (r_move (v := vb) rfl) (w_callIn (args := [va, vb, (.func (.func 111) #[] #[])]) fnOk110 rfl rfl (calls_start (args := [va, vb, (.func (.func 111) #[] #[])]) Try.func110 rfl Try.ntmps110 (Nat.le_of_ble_eq_true rfl) (wc_seq (wc_region (wl_ok (r_assign (v := (.bool (false))) rfl) (wl_nil (then_normal (wc_seq (wc_seq (wc_region (wl_ok (r_move (v := va) rfl) (wl_ok (r_len SliceOf76 rfl (h.srS 1 rfl)) (wl_ok (r_move (v := vb) rfl) (wl_ok (r_len SliceOf76 rfl (h.srS 2 rfl)) (wl_ok (r_neq rfl rfl) ?_)))))))))))))))))))))))
  refine wl_nil (then_normal (wc_ifb hs rfl (fun c1 hs => ?_) (fun c1 hs => ?_)))
  ·
   refine wc_seq (wc_region (wl_ok (r_assign (v := (.bool (false))) rfl) (wl_nil (then_normal (wc_ret (then_ret (fin1 (v := (.bool (false))) Try.results110 rfl (⟨_, rfl, ?_⟩))))))))
   refine wl_ok (r_assign (v := (.bool (false))) rfl) (wl_nil (then_normal (wc_ret (fin1 (v := (.bool (false))) Try.results89 rfl ?_))))
   obtain rfl := Option.some.inj hs
   exact ⟨h.grown, rfl⟩
  ·
   refine wc_skip (then_normal (wc_seq (wc_seq (wc_region (wl_ok (r_move (v := va) rfl) (wl_ok (r_len SliceOf76 rfl (h.srS 1 rfl)) (wl_ok (r_move (v := (.int .i64 (0))) rfl) (wl_nil (then_normal (wc_block (wc_lp (σ := Nat × Int) (inl [6, 7, 8, 9, 17, 18, 19, 20, 21, 22, 23, 24, 25, 26, 27, 28, 29, 30, 31]) (fun ⟨k2, i3⟩ => [(17, (.int .i64 (i3)))]) (fun ⟨k2, i3⟩ w => SH w0 M BE w (hset [(1, .sr rStmt va a), (2, .sr rStmt vb b)]) ∧ i3 = (k2 : Int) ∧ eachI (source_same_b23 F0 b a) source_same_k24 i3 (a.drop k2) () = some r) (fun ⟨k2, i3⟩ => a.length - k2) ⟨0, 0⟩ ⟨rfl, trivial⟩ ?_ ?_)))))))))))
   ·
    exact ⟨h.cn _, rfl, hs⟩
   ·
    rintro ⟨k2, i3⟩ w junk ⟨h, hik, hs⟩
    refine wc_seq (wc_region ?_)
    refine wl_ok (r_lss rfl rfl) (wl_nil (then_normal ?_))
    refine wc_seq (wc_if rfl (fun e7 => ?_) (fun e7 => ?_))
    ·
     refine wc_skip (then_normal ?_)
     obtain ⟨x4, e8a, e8b⟩ := drop_lt (hik ▸ e7)
     rw [e8b, eachI_cons] at hs
     generalize hnx6 : eachI (source_same_b23 F0 b a) source_same_k24 (i3 + 1) (a.drop (k2 + 1)) = nx6 at hs
     have e8r := nat_rng ((h.srS 1 rfl)).len_le hik e7
     refine wc_seq (wc_block (wc_seq (wc_region (wl_ok (r_move (v := (.int .i64 (i3))) rfl) ?_))))
     obtain ⟨b10, o11, cs12, h, r13, i9⟩ := h.ixS 1 3 rfl SliceOf76 rfl (nat_nn hik) (get_nat hik e8a)
     obtain ⟨u14, u16, u18, u20, rfl, g15, g17, g19, g21⟩ := rStmt_open r13
     replace h := h.knowRd 4 g15.up
     replace h := h.knowRd 5 g17.up.up
     replace h := h.knowRd 6 g19.up.up.up
     replace h := h.knowRd 7 g21.up.up.up.up
     refine wl_ok (i9 _ _ _ _ _ _ _ _ _ rfl rfl) (wl_ok (r_ldPN (k := 0) (vs := [(.int .i64 (x4.kind)), (.int .i64 (x4.n)), u14, u16, u18, u20]) h 3 rfl Many82 rfl rfl rfl (Nat.le_of_ble_eq_true rfl)) (w_allocN h 8 Many82 fun w b22 h => wl_ok (r_assign (v := (.int .i64 (i3))) rfl) (w_stN (vs := [(.int .i64 (x4.kind)), (.int .i64 (x4.n)), u14, u16, u18, u20]) h 8 [(.int .i64 (x4.kind)), (.int .i64 (x4.n)), u14, u16, u18, u20] rfl Many82 rfl rfl rfl rfl rfl (ones_cons rfl (ones_cons rfl (ones_cons (h.rdAt 4 rfl).one (ones_cons (h.rdAt 5 rfl).one (ones_cons (h.rdAt 6 rfl).one (ones_cons (h.rdAt 7 rfl).one ones_nil)))))) fun w h => wl_nil (then_normal (wc_seq (wc_region (wl_ok (r_move (v := vb) rfl) (wl_ok (r_move (v := (.int .i64 (i3))) rfl) ?_))))))))
     obtain ⟨x23, e24, hs⟩ := o_bind hs
     obtain ⟨b26, o27, cs28, h, r29, i25⟩ := h.ixS 2 9 rfl SliceOf76 rfl (o_idx e24).1 (o_idx e24).2
     obtain ⟨u30, u32, u34, u36, rfl, g31, g33, g35, g37⟩ := rStmt_open r29
     replace h := h.knowRd 10 g31.up
     replace h := h.knowRd 11 g33.up.up
     replace h := h.knowRd 12 g35.up.up.up
     replace h := h.knowRd 13 g37.up.up.up.up
     refine wl_ok (i25 _ _ _ _ _ _ _ _ _ rfl rfl) (wl_ok (r_ldPN (k := 0) (vs := [(.int .i64 (x23.kind)), (.int .i64 (x23.n)), u30, u32, u34, u36]) h 9 rfl Many82 rfl rfl rfl (Nat.le_of_ble_eq_true rfl)) (w_allocN h 14 Many82 fun w b38 h => w_stN (vs := [(.int .i64 (x23.kind)), (.int .i64 (x23.n)), u30, u32, u34, u36]) h 14 [(.int .i64 (x23.kind)), (.int .i64 (x23.n)), u30, u32, u34, u36] rfl Many82 rfl rfl rfl rfl rfl (ones_cons rfl (ones_cons rfl (ones_cons (h.rdAt 10 rfl).one (ones_cons (h.rdAt 11 rfl).one (ones_cons (h.rdAt 12 rfl).one (ones_cons (h.rdAt 13 rfl).one ones_nil)))))) fun w h => wl_nil (then_normal (wc_join (σ := Bool) (inl [26, 27, 28, 29, 30]) (fun x39 => [(30, (.bool (x39)))]) (fun x39 w => SH w0 M BE w (hset [(1, .sr rStmt va a), (2, .sr rStmt vb b)]) ∧ source_same_j22 nx6 x39 = some r) ?_ ?_))))
     ·
      rintro x39 w junk ⟨h, hs⟩
      refine wc_ifb hs rfl (fun c40 hs => ?_) (fun c40 hs => ?_)
      ·
       refine wc_seq (wc_region (wl_ok (r_assign (v := (.bool (false))) rfl) (wl_nil (then_normal (wc_ret (inBlock_ret (then_ret (then_ret (inBlock_ret (then_ret (fin1 (v := (.bool (false))) Try.results110 rfl (⟨_, rfl, ?_⟩))))))))))))
       refine wl_ok (r_assign (v := (.bool (false))) rfl) (wl_nil (then_normal (wc_ret (fin1 (v := (.bool (false))) Try.results89 rfl ?_))))
       obtain rfl := Option.some.inj hs
       exact ⟨h.grown, rfl⟩
      ·
       refine wc_skip (inBlock_normal (then_normal (wc_region (wl_ok (r_add rfl rfl e8r) (wl_ok (r_move (v := (.int .i64 ((i3 + 1)))) rfl) (wl_nil (then_loop ?_)))))))
       subst hnx6
       exact lend ⟨k2 + 1, i3 + 1⟩ ⟨h.cn _, by omega, hs⟩ (by have := of_decide_eq_true e7; dsimp only; omega)
     ·
      refine wc_region (wl_ok (r_move (v := (.func (.func 111) #[] #[])) rfl) (wl_ok (r_ldBN (vs := [(.int .i64 (x4.kind)), (.int .i64 (x4.n)), u14, u16, u18, u20]) h 8 rfl Many82 rfl rfl rfl) (wl_ok (r_ldBN (vs := [(.int .i64 (x23.kind)), (.int .i64 (x23.n)), u30, u32, u34, u36]) h 14 rfl Many82 rfl rfl rfl) (w_callIn (args := [(.agg #[(.int .i64 (x4.kind)), (.int .i64 (x4.n)), u14, u16, u18, u20]), (.agg #[(.int .i64 (x23.kind)), (.int .i64 (x23.n)), u30, u32, u34, u36])]) fnOk111 rfl rfl (calls_start (args := [(.agg #[(.int .i64 (x4.kind)), (.int .i64 (x4.n)), u14, u16, u18, u20]), (.agg #[(.int .i64 (x23.kind)), (.int .i64 (x23.n)), u30, u32, u34, u36])]) Try.func111 rfl Try.ntmps111 (Nat.le_of_ble_eq_true rfl) (wc_seq (wc_region (w_box (cs := [(.int .i64 (x4.kind)), (.int .i64 (x4.n)), u14, u16, u18, u20]) h 15 rfl rfl fun w b41 h => w_box (cs := [(.int .i64 (x23.kind)), (.int .i64 (x23.n)), u30, u32, u34, u36]) h 16 rfl rfl fun w b42 h => wl_ok (r_assign (v := (.bool (false))) rfl) (wl_nil (then_normal (wc_seq (wc_region (wl_ok (r_fieldAddr Fld82x0 rfl) (wl_ok (r_ldB h 15 rfl One3 rfl rfl) (wl_ok (r_fieldAddr Fld82x0 rfl) (wl_ok (r_ldB h 16 rfl One3 rfl rfl) (wl_ok (r_eql rfl rfl) (wl_ok (r_move (v := (.bool (decide ((x4.kind : Int) = x23.kind)))) rfl) (wl_gd0 rfl rfl (fun q => r_fieldAddr Fld82x1 rfl) (wl_gd0 rfl rfl (fun q => r_ldB h 15 rfl One3 (gvt q) rfl) (wl_gd0 rfl rfl (fun q => r_fieldAddr Fld82x1 rfl) ?_)))))))))))))))))))))
      refine wl_gd0 rfl rfl (fun q => r_ldB h 16 rfl One3 (gvt q) rfl) (wl_gd0 rfl rfl (fun q => r_eql (gvt q) (gvt q)) (wl_ok (r_pand rfl rfl evc) (wl_ok (r_move (v := (.bool ((decide ((x4.kind : Int) = x23.kind) && decide ((x4.n : Int) = x23.n))))) rfl) (c_split (b := (decide ((x4.kind : Int) = x23.kind) && decide ((x4.n : Int) = x23.n))) hs (fun c43 hs => ?_) (fun c43 hs => ?_)))))
      ·
       refine wl_on rfl (congrArg Value.bool c43) (wl_ok (r_fieldAddr Fld82x2 rfl) (wl_on rfl (congrArg Value.bool c43) (wl_ok (r_ldB h 15 rfl One71 rfl rfl) (wl_on rfl (congrArg Value.bool c43) (wl_ok (r_fieldAddr Fld82x2 rfl) (wl_on rfl (congrArg Value.bool c43) (wl_ok (r_ldB h 16 rfl One71 rfl rfl) (wl_on rfl (congrArg Value.bool c43) ?_))))))))
       obtain ⟨y44, e45, hs⟩ := o_bind hs
       refine w_call fnOk112 rfl rfl (slices_Equal_Tok_c _ _ h.lt u14 x4.e (h.rdS 4 rfl) u30 x23.e (h.rdS 10 rfl) _ e45) ?_
       rintro _ w ⟨k46, rfl⟩
       refine ⟨_, rfl, ?_⟩
       replace h := h.grow k46
       refine wl_ok (r_pick (b := true) (v := (.bool (y44))) (congrArg Value.bool c43) rfl) (wl_ok (r_move (v := (.bool (y44))) rfl) (c_split (b := y44) hs (fun c47 hs => ?_) (fun c47 hs => ?_)))
       ·
        refine wl_on rfl (congrArg Value.bool c47) (wl_ok (r_fieldAddr Fld82x3 rfl) (wl_on rfl (congrArg Value.bool c47) (wl_ok (r_ldB h 15 rfl One71 rfl rfl) (wl_on rfl (congrArg Value.bool c47) (wl_ok (r_fieldAddr Fld82x3 rfl) (wl_on rfl (congrArg Value.bool c47) (wl_ok (r_ldB h 16 rfl One71 rfl rfl) (wl_on rfl (congrArg Value.bool c47) ?_))))))))
        obtain ⟨y48, e49, hs⟩ := o_bind hs
        refine w_call fnOk112 rfl rfl (slices_Equal_Tok_c _ _ h.lt u16 x4.f (h.rdS 5 rfl) u32 x23.f (h.rdS 11 rfl) _ e49) ?_
        rintro _ w ⟨k50, rfl⟩
        refine ⟨_, rfl, ?_⟩
        replace h := h.grow k50
        refine wl_ok (r_pick (b := true) (v := (.bool (y48))) (congrArg Value.bool c47) rfl) (wl_ok (r_move (v := (.bool (y48))) rfl) (c_split (b := y48) hs (fun c51 hs => ?_) (fun c51 hs => ?_)))
        ·
         refine wl_on rfl (congrArg Value.bool c51) (wl_ok (r_fieldAddr Fld82x4 rfl) (wl_on rfl (congrArg Value.bool c51) (wl_ok (r_ldB h 15 rfl One76 rfl rfl) (wl_on rfl (congrArg Value.bool c51) (wl_ok (r_fieldAddr Fld82x4 rfl) (wl_on rfl (congrArg Value.bool c51) (wl_ok (r_ldB h 16 rfl One76 rfl rfl) (wl_on rfl (congrArg Value.bool c51) ?_))))))))
         obtain ⟨y52, e53, hs⟩ := o_bind hs
         refine w_call fnOk89 rfl rfl (ih _ _ h.lt u18 x4.a (h.rdS 6 rfl) u34 x23.a (h.rdS 12 rfl) _ e53) ?_
         rintro _ w ⟨k54, rfl⟩
         refine ⟨_, rfl, ?_⟩
         replace h := h.grow k54
         refine wl_ok (r_pick (b := true) (v := (.bool (y52))) (congrArg Value.bool c51) rfl) (wl_ok (r_move (v := (.bool (y52))) rfl) (c_split (b := y52) hs (fun c55 hs => ?_) (fun c55 hs => ?_)))
         ·
          refine wl_on rfl (congrArg Value.bool c55) (wl_ok (r_fieldAddr Fld82x5 rfl) (wl_on rfl (congrArg Value.bool c55) (wl_ok (r_ldB h 15 rfl One76 rfl rfl) (wl_on rfl (congrArg Value.bool c55) (wl_ok (r_fieldAddr Fld82x5 rfl) (wl_on rfl (congrArg Value.bool c55) (wl_ok (r_ldB h 16 rfl One76 rfl rfl) (wl_on rfl (congrArg Value.bool c55) ?_))))))))
          obtain ⟨y56, e57, hs⟩ := o_bind hs
          refine w_call fnOk89 rfl rfl (ih _ _ h.lt u20 x4.b (h.rdS 7 rfl) u36 x23.b (h.rdS 13 rfl) _ e57) ?_
          rintro _ w ⟨k58, rfl⟩
          refine ⟨_, rfl, ?_⟩
          replace h := h.grow k58
          refine wl_ok (r_pick (b := true) (v := (.bool (y56))) (congrArg Value.bool c55) rfl) (wl_ok (r_assign (v := (.bool (y56))) rfl) (wl_nil (then_normal (wc_ret (fin1 (v := (.bool (y56))) Try.results111 rfl (⟨_, rfl, ?_⟩))))))
          refine wl_ok (r_notb rfl) (wl_nil (then_loop ?_))
          exact jend (!y56) ⟨h.cn _, hs⟩
         ·
          refine wl_off (b' := false) rfl (congrArg Value.bool c55) rfl (wl_off (b' := false) rfl (congrArg Value.bool c55) rfl (wl_off (b' := false) rfl (congrArg Value.bool c55) rfl (wl_off (b' := false) rfl (congrArg Value.bool c55) rfl (wl_off (b' := false) rfl (congrArg Value.bool c55) rfl (wl_ok (r_pick (b := false) (v := (.bool (false))) (congrArg Value.bool c55) rfl) (wl_ok (r_assign (v := (.bool (false))) rfl) (wl_nil (then_normal (wc_ret (fin1 (v := (.bool (false))) Try.results111 rfl (⟨_, rfl, ?_⟩)))))))))))
          refine wl_ok (r_notb rfl) (wl_nil (then_loop ?_))
          exact jend true ⟨h.cn _, hs⟩
        ·
         refine wl_off (b' := false) rfl (congrArg Value.bool c51) rfl (wl_off (b' := false) rfl (congrArg Value.bool c51) rfl (wl_off (b' := false) rfl (congrArg Value.bool c51) rfl (wl_off (b' := false) rfl (congrArg Value.bool c51) rfl (wl_off (b' := false) rfl (congrArg Value.bool c51) rfl (wl_ok (r_pick (b := false) (v := (.bool (false))) (congrArg Value.bool c51) rfl) (wl_ok (r_move (v := (.bool (false))) rfl) (wl_off (b' := false) rfl rfl rfl (wl_off (b' := false) rfl rfl rfl (wl_off (b' := false) rfl rfl rfl (wl_off (b' := false) rfl rfl rfl (wl_off (b' := false) rfl rfl rfl (wl_ok (r_pick (b := false) (v := (.bool (false))) rfl rfl) (wl_ok (r_assign (v := (.bool (false))) rfl) (wl_nil (then_normal (wc_ret (fin1 (v := (.bool (false))) Try.results111 rfl (⟨_, rfl, ?_⟩))))))))))))))))))
         refine wl_ok (r_notb rfl) (wl_nil (then_loop ?_))
         exact jend true ⟨h.cn _, hs⟩
       ·
        refine wl_off (b' := false) rfl (congrArg Value.bool c47) rfl (wl_off (b' := false) rfl (congrArg Value.bool c47) rfl (wl_off (b' := false) rfl (congrArg Value.bool c47) rfl (wl_off (b' := false) rfl (congrArg Value.bool c47) rfl (wl_off (b' := false) rfl (congrArg Value.bool c47) rfl (wl_ok (r_pick (b := false) (v := (.bool (false))) (congrArg Value.bool c47) rfl) (wl_ok (r_move (v := (.bool (false))) rfl) (wl_off (b' := false) rfl rfl rfl (wl_off (b' := false) rfl rfl rfl (wl_off (b' := false) rfl rfl rfl (wl_off (b' := false) rfl rfl rfl (wl_off (b' := false) rfl rfl rfl (wl_ok (r_pick (b := false) (v := (.bool (false))) rfl rfl) (wl_ok (r_move (v := (.bool (false))) rfl) (wl_off (b' := false) rfl rfl rfl (wl_off (b' := false) rfl rfl rfl (wl_off (b' := false) rfl rfl rfl (wl_off (b' := false) rfl rfl rfl (wl_off (b' := false) rfl rfl rfl (wl_ok (r_pick (b := false) (v := (.bool (false))) rfl rfl) (wl_ok (r_assign (v := (.bool (false))) rfl) (wl_nil (then_normal (wc_ret ?_)))))))))))))))))))))))
        refine fin1 (v := (.bool (false))) Try.results111 rfl (⟨_, rfl, ?_⟩)
        refine wl_ok (r_notb rfl) (wl_nil (then_loop ?_))
        exact jend true ⟨h.cn _, hs⟩
      ·
       refine wl_off (b' := false) rfl (congrArg Value.bool c43) rfl (wl_off (b' := false) rfl (congrArg Value.bool c43) rfl (wl_off (b' := false) rfl (congrArg Value.bool c43) rfl (wl_off (b' := false) rfl (congrArg Value.bool c43) rfl (wl_off (b' := false) rfl (congrArg Value.bool c43) rfl (wl_ok (r_pick (b := false) (v := (.bool (false))) (congrArg Value.bool c43) rfl) (wl_ok (r_move (v := (.bool (false))) rfl) (wl_off (b' := false) rfl rfl rfl (wl_off (b' := false) rfl rfl rfl (wl_off (b' := false) rfl rfl rfl (wl_off (b' := false) rfl rfl rfl (wl_off (b' := false) rfl rfl rfl (wl_ok (r_pick (b := false) (v := (.bool (false))) rfl rfl) (wl_ok (r_move (v := (.bool (false))) rfl) (wl_off (b' := false) rfl rfl rfl (wl_off (b' := false) rfl rfl rfl (wl_off (b' := false) rfl rfl rfl (wl_off (b' := false) rfl rfl rfl (wl_off (b' := false) rfl rfl rfl (wl_ok (r_pick (b := false) (v := (.bool (false))) rfl rfl) (wl_ok (r_move (v := (.bool (false))) rfl) (wl_off (b' := false) rfl rfl rfl (wl_off (b' := false) rfl rfl rfl (wl_off (b' := false) rfl rfl rfl ?_)))))))))))))))))))))))
       refine wl_off (b' := false) rfl rfl rfl (wl_off (b' := false) rfl rfl rfl (wl_ok (r_pick (b := false) (v := (.bool (false))) rfl rfl) (wl_ok (r_assign (v := (.bool (false))) rfl) (wl_nil (then_normal (wc_ret (fin1 (v := (.bool (false))) Try.results111 rfl (⟨_, rfl, ?_⟩))))))))
       refine wl_ok (r_notb rfl) (wl_nil (then_loop ?_))
       exact jend true ⟨h.cn _, hs⟩
    ·
     rw [drop_ge (hik ▸ e7), eachI_nil] at hs
     refine wc_exit (then_exit (then_exit (inBlock_eq (then_normal (wc_seq (wc_region (wl_ok (r_assign (v := (.bool (true))) rfl) (wl_nil (then_normal (wc_ret (fin1 (v := (.bool (true))) Try.results110 rfl (⟨_, rfl, ?_⟩))))))))))))
     refine wl_ok (r_assign (v := (.bool (true))) rfl) (wl_nil (then_normal (wc_ret (fin1 (v := (.bool (true))) Try.results89 rfl ?_))))
     obtain rfl := Option.some.inj hs
     exact ⟨h.grown, rfl⟩
def source_Same_j22 (nx6 : Unit → Option Bool) (x27 : Bool) : Option Bool :=
  bif x27 then some false else nx6 ()
def source_Same_b23 (N : Nat) (b : List Fun) (i3 : Int) (x4 : Fun) (s : Unit) (nx6 : Unit → Option Bool) : Option Bool :=
  (idx b i3).bind fun x17 => bif (decide ((x4.params : Int) = x17.params) && decide ((x4.locals : Int) = x17.locals)) then (source_same N x4.body x17.body).bind fun y32 => source_Same_j22 nx6 (!y32) else source_Same_j22 nx6 true
def source_Same_k24 (s : Unit) : Option Bool :=
  some true
def source_Same (N : Nat) (a : List Fun) (b : List Fun) : Option Bool :=
  bif decide (((a.length : Int) : Int) ≠ (b.length : Int)) then some false else eachI (source_Same_b23 N b) source_Same_k24 0 a ()
theorem source_Same_c (N : Nat) (w0 : World) (M : BS) (hM : ∀ b, M b → b < w0.heap.size) (va : Value) (a : List Fun) (ha : Rd2 rFun w0 BE M va a) (vb : Value) (b : List Fun) (hb : Rd2 rFun w0 BE M vb b) (r : Bool) (hs : source_Same N a b = some r) :
    Calls Try.prog 46 #[va, vb] w0 (fun e w' => Grow w0 w' ∧ e = .returned (.bool r)) := by
 refine calls_start (args := [va, vb]) Try.func46 rfl Try.ntmps46 (Nat.le_of_ble_eq_true rfl) ?_
 have h := SH.init hM
 replace h := h.argSr 1 ha none_own
 replace h := h.argSr 2 hb (hupd_own_sr none_own)
 have hl_a := ha.len_le
 have hl_b := hb.len_le
 refine wc_seq (wc_region (wl_ok (r_assign (v := (.bool (false))) rfl) (wl_nil (then_normal (wc_seq (wc_region (wl_ok (r_move (v := va) rfl) (wl_ok (r_move (v := vb) rfl) (w_callIn (args := [va, vb, (.func (.func 88) #[] #[])]) fnOk87 rfl rfl (calls_start (args := [va, vb, (.func (.func 88) #[] #[])]) Try.func87 rfl Try.ntmps87 (Nat.le_of_ble_eq_true rfl) (wc_seq (wc_region (wl_ok (r_assign (v := (.bool (false))) rfl) (wl_nil (then_normal (wc_seq (wc_seq (wc_region (wl_ok (r_move (v := va) rfl) (wl_ok (r_len SliceOf70 rfl (h.srS 1 rfl)) (wl_ok (r_move (v := vb) rfl) (wl_ok (r_len SliceOf70 rfl (h.srS 2 rfl)) (wl_ok (r_neq rfl rfl) ?_)))))))))))))))))))))))
 refine wl_nil (then_normal (wc_ifb hs rfl (fun c1 hs => ?_) (fun c1 hs => ?_)))
 ·
  refine wc_seq (wc_region (wl_ok (r_assign (v := (.bool (false))) rfl) (wl_nil (then_normal (wc_ret (then_ret (fin1 (v := (.bool (false))) Try.results87 rfl (⟨_, rfl, ?_⟩))))))))
  refine wl_ok (r_assign (v := (.bool (false))) rfl) (wl_nil (then_normal (wc_ret (fin1 (v := (.bool (false))) Try.results46 rfl ?_))))
  obtain rfl := Option.some.inj hs
  exact ⟨h.grown, rfl⟩
 ·
  refine wc_skip (then_normal (wc_seq (wc_seq (wc_region (wl_ok (r_move (v := va) rfl) (wl_ok (r_len SliceOf70 rfl (h.srS 1 rfl)) (wl_ok (r_move (v := (.int .i64 (0))) rfl) (wl_nil (then_normal (wc_block (wc_lp (σ := Nat × Int) (inl [6, 7, 8, 9, 17, 18, 19, 20, 21, 22, 23, 24, 25, 26, 27, 28, 29, 30, 31]) (fun ⟨k2, i3⟩ => [(17, (.int .i64 (i3)))]) (fun ⟨k2, i3⟩ w => SH w0 M BE w (hset [(1, .sr rFun va a), (2, .sr rFun vb b)]) ∧ i3 = (k2 : Int) ∧ eachI (source_Same_b23 N b) source_Same_k24 i3 (a.drop k2) () = some r) (fun ⟨k2, i3⟩ => a.length - k2) ⟨0, 0⟩ ⟨rfl, trivial⟩ ?_ ?_)))))))))))
  ·
   exact ⟨h.cn _, rfl, hs⟩
  ·
   rintro ⟨k2, i3⟩ w junk ⟨h, hik, hs⟩
   refine wc_seq (wc_region ?_)
   refine wl_ok (r_lss rfl rfl) (wl_nil (then_normal ?_))
   refine wc_seq (wc_if rfl (fun e7 => ?_) (fun e7 => ?_))
   ·
    refine wc_skip (then_normal ?_)
    obtain ⟨x4, e8a, e8b⟩ := drop_lt (hik ▸ e7)
    rw [e8b, eachI_cons] at hs
    generalize hnx6 : eachI (source_Same_b23 N b) source_Same_k24 (i3 + 1) (a.drop (k2 + 1)) = nx6 at hs
    have e8r := nat_rng ((h.srS 1 rfl)).len_le hik e7
    refine wc_seq (wc_block (wc_seq (wc_region (wl_ok (r_move (v := (.int .i64 (i3))) rfl) ?_))))
    obtain ⟨b10, o11, cs12, h, r13, i9⟩ := h.ixS 1 3 rfl SliceOf70 rfl (nat_nn hik) (get_nat hik e8a)
    obtain ⟨u14, rfl, g15⟩ := rFun_open r13
    replace h := h.knowRd 4 g15.up
    refine wl_ok (i9 _ _ _ _ _ _ _ _ _ rfl rfl) (wl_ok (r_ldPN (k := 0) (vs := [(.int .i64 (x4.params)), (.int .i64 (x4.locals)), u14]) h 3 rfl Many78 rfl rfl rfl (Nat.le_of_ble_eq_true rfl)) (w_allocN h 5 Many78 fun w b16 h => wl_ok (r_assign (v := (.int .i64 (i3))) rfl) (w_stN (vs := [(.int .i64 (x4.params)), (.int .i64 (x4.locals)), u14]) h 5 [(.int .i64 (x4.params)), (.int .i64 (x4.locals)), u14] rfl Many78 rfl rfl rfl rfl rfl (ones_cons rfl (ones_cons rfl (ones_cons (h.rdAt 4 rfl).one ones_nil))) fun w h => wl_nil (then_normal (wc_seq (wc_region (wl_ok (r_move (v := vb) rfl) (wl_ok (r_move (v := (.int .i64 (i3))) rfl) ?_))))))))
    obtain ⟨x17, e18, hs⟩ := o_bind hs
    obtain ⟨b20, o21, cs22, h, r23, i19⟩ := h.ixS 2 6 rfl SliceOf70 rfl (o_idx e18).1 (o_idx e18).2
    obtain ⟨u24, rfl, g25⟩ := rFun_open r23
    replace h := h.knowRd 7 g25.up
    refine wl_ok (i19 _ _ _ _ _ _ _ _ _ rfl rfl) (wl_ok (r_ldPN (k := 0) (vs := [(.int .i64 (x17.params)), (.int .i64 (x17.locals)), u24]) h 6 rfl Many78 rfl rfl rfl (Nat.le_of_ble_eq_true rfl)) (w_allocN h 8 Many78 fun w b26 h => w_stN (vs := [(.int .i64 (x17.params)), (.int .i64 (x17.locals)), u24]) h 8 [(.int .i64 (x17.params)), (.int .i64 (x17.locals)), u24] rfl Many78 rfl rfl rfl rfl rfl (ones_cons rfl (ones_cons rfl (ones_cons (h.rdAt 7 rfl).one ones_nil))) fun w h => wl_nil (then_normal (wc_join (σ := Bool) (inl [26, 27, 28, 29, 30]) (fun x27 => [(30, (.bool (x27)))]) (fun x27 w => SH w0 M BE w (hset [(1, .sr rFun va a), (2, .sr rFun vb b)]) ∧ source_Same_j22 nx6 x27 = some r) ?_ ?_))))
    ·
     rintro x27 w junk ⟨h, hs⟩
     refine wc_ifb hs rfl (fun c28 hs => ?_) (fun c28 hs => ?_)
     ·
      refine wc_seq (wc_region (wl_ok (r_assign (v := (.bool (false))) rfl) (wl_nil (then_normal (wc_ret (inBlock_ret (then_ret (then_ret (inBlock_ret (then_ret (fin1 (v := (.bool (false))) Try.results87 rfl (⟨_, rfl, ?_⟩))))))))))))
      refine wl_ok (r_assign (v := (.bool (false))) rfl) (wl_nil (then_normal (wc_ret (fin1 (v := (.bool (false))) Try.results46 rfl ?_))))
      obtain rfl := Option.some.inj hs
      exact ⟨h.grown, rfl⟩
     ·
      refine wc_skip (inBlock_normal (then_normal (wc_region (wl_ok (r_add rfl rfl e8r) (wl_ok (r_move (v := (.int .i64 ((i3 + 1)))) rfl) (wl_nil (then_loop ?_)))))))
      subst hnx6
      exact lend ⟨k2 + 1, i3 + 1⟩ ⟨h.cn _, by omega, hs⟩ (by have := of_decide_eq_true e7; dsimp only; omega)
    ·
     refine wc_region (wl_ok (r_move (v := (.func (.func 88) #[] #[])) rfl) (wl_ok (r_ldBN (vs := [(.int .i64 (x4.params)), (.int .i64 (x4.locals)), u14]) h 5 rfl Many78 rfl rfl rfl) (wl_ok (r_ldBN (vs := [(.int .i64 (x17.params)), (.int .i64 (x17.locals)), u24]) h 8 rfl Many78 rfl rfl rfl) (w_callIn (args := [(.agg #[(.int .i64 (x4.params)), (.int .i64 (x4.locals)), u14]), (.agg #[(.int .i64 (x17.params)), (.int .i64 (x17.locals)), u24])]) fnOk88 rfl rfl (calls_start (args := [(.agg #[(.int .i64 (x4.params)), (.int .i64 (x4.locals)), u14]), (.agg #[(.int .i64 (x17.params)), (.int .i64 (x17.locals)), u24])]) Try.func88 rfl Try.ntmps88 (Nat.le_of_ble_eq_true rfl) (wc_seq (wc_region (w_box (cs := [(.int .i64 (x4.params)), (.int .i64 (x4.locals)), u14]) h 9 rfl rfl fun w b29 h => w_box (cs := [(.int .i64 (x17.params)), (.int .i64 (x17.locals)), u24]) h 10 rfl rfl fun w b30 h => wl_ok (r_assign (v := (.bool (false))) rfl) (wl_nil (then_normal (wc_seq (wc_region (wl_ok (r_fieldAddr Fld78x0 rfl) (wl_ok (r_ldB h 9 rfl One3 rfl rfl) (wl_ok (r_fieldAddr Fld78x0 rfl) (wl_ok (r_ldB h 10 rfl One3 rfl rfl) (wl_ok (r_eql rfl rfl) (wl_ok (r_move (v := (.bool (decide ((x4.params : Int) = x17.params)))) rfl) (wl_gd0 rfl rfl (fun q => r_fieldAddr Fld78x1 rfl) (wl_gd0 rfl rfl (fun q => r_ldB h 9 rfl One3 (gvt q) rfl) (wl_gd0 rfl rfl (fun q => r_fieldAddr Fld78x1 rfl) ?_)))))))))))))))))))))
     refine wl_gd0 rfl rfl (fun q => r_ldB h 10 rfl One3 (gvt q) rfl) (wl_gd0 rfl rfl (fun q => r_eql (gvt q) (gvt q)) (wl_ok (r_pand rfl rfl evc) (wl_ok (r_move (v := (.bool ((decide ((x4.params : Int) = x17.params) && decide ((x4.locals : Int) = x17.locals))))) rfl) (c_split (b := (decide ((x4.params : Int) = x17.params) && decide ((x4.locals : Int) = x17.locals))) hs (fun c31 hs => ?_) (fun c31 hs => ?_)))))
     ·
      refine wl_on rfl (congrArg Value.bool c31) (wl_ok (r_fieldAddr Fld78x2 rfl) (wl_on rfl (congrArg Value.bool c31) (wl_ok (r_ldB h 9 rfl One76 rfl rfl) (wl_on rfl (congrArg Value.bool c31) (wl_ok (r_fieldAddr Fld78x2 rfl) (wl_on rfl (congrArg Value.bool c31) (wl_ok (r_ldB h 10 rfl One76 rfl rfl) (wl_on rfl (congrArg Value.bool c31) ?_))))))))
      obtain ⟨y32, e33, hs⟩ := o_bind hs
      refine w_call fnOk89 rfl rfl (source_same_c N _ _ h.lt u14 x4.body (h.rdS 4 rfl) u24 x17.body (h.rdS 7 rfl) _ e33) ?_
      rintro _ w ⟨k34, rfl⟩
      refine ⟨_, rfl, ?_⟩
      replace h := h.grow k34
      refine wl_ok (r_pick (b := true) (v := (.bool (y32))) (congrArg Value.bool c31) rfl) (wl_ok (r_assign (v := (.bool (y32))) rfl) (wl_nil (then_normal (wc_ret (fin1 (v := (.bool (y32))) Try.results88 rfl (⟨_, rfl, ?_⟩))))))
      refine wl_ok (r_notb rfl) (wl_nil (then_loop ?_))
      exact jend (!y32) ⟨h.cn _, hs⟩
     ·
      refine wl_off (b' := false) rfl (congrArg Value.bool c31) rfl (wl_off (b' := false) rfl (congrArg Value.bool c31) rfl (wl_off (b' := false) rfl (congrArg Value.bool c31) rfl (wl_off (b' := false) rfl (congrArg Value.bool c31) rfl (wl_off (b' := false) rfl (congrArg Value.bool c31) rfl (wl_ok (r_pick (b := false) (v := (.bool (false))) (congrArg Value.bool c31) rfl) (wl_ok (r_assign (v := (.bool (false))) rfl) (wl_nil (then_normal (wc_ret (fin1 (v := (.bool (false))) Try.results88 rfl (⟨_, rfl, ?_⟩)))))))))))
      refine wl_ok (r_notb rfl) (wl_nil (then_loop ?_))
      exact jend true ⟨h.cn _, hs⟩
   ·
    rw [drop_ge (hik ▸ e7), eachI_nil] at hs
    refine wc_exit (then_exit (then_exit (inBlock_eq (then_normal (wc_seq (wc_region (wl_ok (r_assign (v := (.bool (true))) rfl) (wl_nil (then_normal (wc_ret (fin1 (v := (.bool (true))) Try.results87 rfl (⟨_, rfl, ?_⟩))))))))))))
    refine wl_ok (r_assign (v := (.bool (true))) rfl) (wl_nil (then_normal (wc_ret (fin1 (v := (.bool (true))) Try.results46 rfl ?_))))
    obtain rfl := Option.some.inj hs
    exact ⟨h.grown, rfl⟩
def wandererlaw_typed (N : Nat) : Option Bool :=
  (source_Check N [(⟨0, 1, [(⟨3, 0, [(⟨3, 1⟩ : Tok), (⟨1, 1⟩ : Tok), (⟨2, 0⟩ : Tok)], [], [], []⟩ : GStmt)]⟩ : Fun)]).bind fun y4 => bif decide ((y4 : Int) = 0) then (source_Expr [(⟨3, 1⟩ : Tok), (⟨1, 1⟩ : Tok), (⟨2, 0⟩ : Tok)] [(⟨0, 1, [(⟨3, 0, [(⟨3, 1⟩ : Tok), (⟨1, 1⟩ : Tok), (⟨2, 0⟩ : Tok)], [], [], []⟩ : GStmt)]⟩ : Fun)] 0).bind fun y8 => bif decide ((y8 : Int) = 3) then (sub? [(⟨3, 1⟩ : Tok), (⟨1, 1⟩ : Tok), (⟨2, 0⟩ : Tok)] 0 2).bind fun x12 => (source_Expr x12 [(⟨0, 1, [(⟨3, 0, [(⟨3, 1⟩ : Tok), (⟨1, 1⟩ : Tok), (⟨2, 0⟩ : Tok)], [], [], []⟩ : GStmt)]⟩ : Fun)] 1).bind fun y17 => bif decide ((y17 : Int) = 4) then (source_Same N [(⟨0, 1, [(⟨3, 0, [(⟨3, 1⟩ : Tok), (⟨1, 1⟩ : Tok), (⟨2, 0⟩ : Tok)], [], [], []⟩ : GStmt)]⟩ : Fun)] [(⟨0, 1, [(⟨3, 0, [(⟨3, 1⟩ : Tok), (⟨1, 1⟩ : Tok), (⟨2, 0⟩ : Tok)], [], [], []⟩ : GStmt)]⟩ : Fun)]).bind fun y21 => some y21 else some false else some false else some false
theorem wandererlaw_typed_c (N : Nat) (w0 : World) (M : BS) (hM : ∀ b, M b → b < w0.heap.size)  (r : Bool) (hs : wandererlaw_typed N = some r) :
    Calls Try.prog 43 #[] w0 (fun e w' => Grow w0 w' ∧ e = .returned (.bool r)) := by
 refine calls_start (args := []) Try.func43 rfl Try.ntmps43 (Nat.le_of_ble_eq_true rfl) ?_
 have h := SH.init hM
 refine wc_seq (wc_region (wl_ok (r_assign (v := (.bool (false))) rfl) (wl_nil (then_normal (wc_seq (wc_region (wl_ok (r_build (pv := [(0, (.int .i64 (3))), (1, (.int .i64 (1)))]) (out := [(.int .i64 (3)), (.int .i64 (1))]) Struct112 rfl ⟨0, 1, [(.int .i64 (3))], rfl, rfl, rfl, Nat.le_of_ble_eq_true rfl, ⟨1, 1, [(.int .i64 (1))], rfl, rfl, rfl, Nat.le_of_ble_eq_true rfl, rfl⟩⟩) (wl_ok (r_build (pv := [(0, (.int .i64 (1))), (1, (.int .i64 (1)))]) (out := [(.int .i64 (1)), (.int .i64 (1))]) Struct112 rfl ⟨0, 1, [(.int .i64 (1))], rfl, rfl, rfl, Nat.le_of_ble_eq_true rfl, ⟨1, 1, [(.int .i64 (1))], rfl, rfl, rfl, Nat.le_of_ble_eq_true rfl, rfl⟩⟩) (wl_ok (r_build (pv := [(0, (.int .i64 (2)))]) (out := [(.int .i64 (2)), (.int .i64 (0))]) Struct112 rfl ⟨0, 1, [(.int .i64 (2))], rfl, rfl, rfl, Nat.le_of_ble_eq_true rfl, rfl⟩) (w_bs (R := rTok) (vs := [(.agg #[(.int .i64 (3)), (.int .i64 (1))]), (.agg #[(.int .i64 (1)), (.int .i64 (1))]), (.agg #[(.int .i64 (2)), (.int .i64 (0))])]) (xs := [(⟨3, 1⟩ : Tok), (⟨1, 1⟩ : Tok), (⟨2, 0⟩ : Tok)]) h 1 ElemOf71 rfl rfl rfl ⟨rfl, ⟨rfl, ⟨rfl, trivial⟩⟩⟩ rfl fun w u1 h => wl_ok (r_assign (v := u1) rfl) (wl_nil (then_normal (wc_seq (wc_region (wl_ok (r_move (v := u1) rfl) (wl_ok (r_build (pv := [(0, (.int .i64 (3))), (2, u1)]) (out := [(.int .i64 (3)), (.int .i64 (0)), u1, (.slice none 0 0), (.slice none 0 0), (.slice none 0 0)]) Struct82 rfl ⟨0, 1, [(.int .i64 (3))], rfl, rfl, rfl, Nat.le_of_ble_eq_true rfl, ⟨2, 1, [u1], rfl, (toList_of_one (h.ownAt 1 rfl).one), rfl, Nat.le_of_ble_eq_true rfl, rfl⟩⟩) ?_))))))))))))))))
 replace h := h.freeze 1 rfl
 refine w_bs (R := rStmt) (vs := [(.agg #[(.int .i64 (3)), (.int .i64 (0)), u1, (.slice none 0 0), (.slice none 0 0), (.slice none 0 0)])]) (xs := [(⟨3, 0, [(⟨3, 1⟩ : Tok), (⟨1, 1⟩ : Tok), (⟨2, 0⟩ : Tok)], [], [], []⟩ : GStmt)]) h 2 ElemOf76 rfl rfl rfl ⟨(rStmt_mk ⟨_, _, _, _, rfl, (h.rdAt 1 rfl), Rd2.nil, Rd2.nil, Rd2.nil⟩), trivial⟩ rfl fun w u2 h => wl_ok (r_build (pv := [(1, (.int .i64 (1))), (2, u2)]) (out := [(.int .i64 (0)), (.int .i64 (1)), u2]) Struct78 rfl ⟨1, 1, [(.int .i64 (1))], rfl, rfl, rfl, Nat.le_of_ble_eq_true rfl, ⟨2, 1, [u2], rfl, (toList_of_one (h.ownAt 2 rfl).one), rfl, Nat.le_of_ble_eq_true rfl, rfl⟩⟩) ?_
 replace h := h.freeze 2 rfl
 refine w_bs (R := rFun) (vs := [(.agg #[(.int .i64 (0)), (.int .i64 (1)), u2])]) (xs := [(⟨0, 1, [(⟨3, 0, [(⟨3, 1⟩ : Tok), (⟨1, 1⟩ : Tok), (⟨2, 0⟩ : Tok)], [], [], []⟩ : GStmt)]⟩ : Fun)]) h 3 ElemOf70 rfl rfl rfl ⟨⟨_, rfl, (h.rdAt 2 rfl)⟩, trivial⟩ rfl fun w u3 h => wl_ok (r_assign (v := u3) rfl) (wl_nil (then_normal (wc_seq (wc_region (wl_ok (r_move (v := u3) rfl) ?_)))))
 obtain ⟨y4, e5, hs⟩ := o_bind hs
 refine w_call fnOk44 rfl rfl (source_Check_c N _ _ h.lt u3 [(⟨0, 1, [(⟨3, 0, [(⟨3, 1⟩ : Tok), (⟨1, 1⟩ : Tok), (⟨2, 0⟩ : Tok)], [], [], []⟩ : GStmt)]⟩ : Fun)] (h.ownS 3 rfl) _ e5) ?_
 rintro _ w ⟨k6, rfl⟩
 refine ⟨_, rfl, ?_⟩
 replace h := h.grow k6
 refine wl_ok (r_eql rfl rfl) (wl_ok (r_move (v := (.bool (decide ((y4 : Int) = 0)))) rfl) (c_split (b := decide ((y4 : Int) = 0)) hs (fun c7 hs => ?_) (fun c7 hs => ?_)))
 ·
  refine wl_on rfl (congrArg Value.bool c7) (wl_ok (r_move (v := u1) rfl) (wl_on rfl (congrArg Value.bool c7) (wl_ok (r_move (v := u3) rfl) (wl_on rfl (congrArg Value.bool c7) ?_))))
  obtain ⟨y8, e9, hs⟩ := o_bind hs
  refine w_call fnOk48 rfl rfl (source_Expr_c _ _ h.lt u1 [(⟨3, 1⟩ : Tok), (⟨1, 1⟩ : Tok), (⟨2, 0⟩ : Tok)] (h.rdS 1 rfl) u3 [(⟨0, 1, [(⟨3, 0, [(⟨3, 1⟩ : Tok), (⟨1, 1⟩ : Tok), (⟨2, 0⟩ : Tok)], [], [], []⟩ : GStmt)]⟩ : Fun)] (h.ownS 3 rfl) 0 _ e9) ?_
  rintro _ w ⟨k10, rfl⟩
  refine ⟨_, rfl, ?_⟩
  replace h := h.grow k10
  refine wl_on rfl (congrArg Value.bool c7) (wl_ok (r_eql rfl rfl) (wl_ok (r_pick (b := true) (v := (.bool (decide ((y8 : Int) = 3)))) (congrArg Value.bool c7) rfl) (wl_ok (r_move (v := (.bool (decide ((y8 : Int) = 3)))) rfl) (c_split (b := decide ((y8 : Int) = 3)) hs (fun c11 hs => ?_) (fun c11 hs => ?_)))))
  ·
   refine wl_on rfl (congrArg Value.bool c11) (wl_ok (r_move (v := u1) rfl) (wl_on rfl (congrArg Value.bool c11) ?_))
   obtain ⟨x12, e13, hs⟩ := o_bind hs
   obtain ⟨e16, e16a, e16b, e16c⟩ := o_sub e13
   obtain ⟨u14, h, i15⟩ := h.slR 1 4 rfl SliceOf71 rfl e16a e16b e16c
   rw [← e16] at h
   refine wl_ok (i15 _ _ _ _ _ _ _ _ _ _ rfl (.inl ⟨rfl, rfl⟩) (.inr (congrArg some rfl))) (wl_on rfl (congrArg Value.bool c11) (wl_ok (r_move (v := u3) rfl) (wl_on rfl (congrArg Value.bool c11) ?_)))
   obtain ⟨y17, e18, hs⟩ := o_bind hs
   refine w_call fnOk48 rfl rfl (source_Expr_c _ _ h.lt u14 x12 (h.rdS 4 rfl) u3 [(⟨0, 1, [(⟨3, 0, [(⟨3, 1⟩ : Tok), (⟨1, 1⟩ : Tok), (⟨2, 0⟩ : Tok)], [], [], []⟩ : GStmt)]⟩ : Fun)] (h.ownS 3 rfl) 1 _ e18) ?_
   rintro _ w ⟨k19, rfl⟩
   refine ⟨_, rfl, ?_⟩
   replace h := h.grow k19
   refine wl_on rfl (congrArg Value.bool c11) (wl_ok (r_eql rfl rfl) (wl_ok (r_pick (b := true) (v := (.bool (decide ((y17 : Int) = 4)))) (congrArg Value.bool c11) rfl) (wl_ok (r_move (v := (.bool (decide ((y17 : Int) = 4)))) rfl) (c_split (b := decide ((y17 : Int) = 4)) hs (fun c20 hs => ?_) (fun c20 hs => ?_)))))
   ·
    refine wl_on rfl (congrArg Value.bool c20) (wl_ok (r_move (v := u3) rfl) (wl_on rfl (congrArg Value.bool c20) (wl_ok (r_move (v := u3) rfl) (wl_on rfl (congrArg Value.bool c20) ?_))))
    obtain ⟨y21, e22, hs⟩ := o_bind hs
    refine w_call fnOk46 rfl rfl (source_Same_c N _ _ h.lt u3 [(⟨0, 1, [(⟨3, 0, [(⟨3, 1⟩ : Tok), (⟨1, 1⟩ : Tok), (⟨2, 0⟩ : Tok)], [], [], []⟩ : GStmt)]⟩ : Fun)] (h.ownS 3 rfl) u3 [(⟨0, 1, [(⟨3, 0, [(⟨3, 1⟩ : Tok), (⟨1, 1⟩ : Tok), (⟨2, 0⟩ : Tok)], [], [], []⟩ : GStmt)]⟩ : Fun)] (h.ownS 3 rfl) _ e22) ?_
    rintro _ w ⟨k23, rfl⟩
    refine ⟨_, rfl, ?_⟩
    replace h := h.grow k23
    refine wl_ok (r_pick (b := true) (v := (.bool (y21))) (congrArg Value.bool c20) rfl) (wl_ok (r_assign (v := (.bool (y21))) rfl) (wl_nil (then_normal (wc_ret (fin1 (v := (.bool (y21))) Try.results43 rfl ?_)))))
    obtain rfl := Option.some.inj hs
    exact ⟨h.grown, rfl⟩
   ·
    refine wl_off (b' := false) rfl (congrArg Value.bool c20) rfl (wl_off (b' := false) rfl (congrArg Value.bool c20) rfl (wl_off (b' := false) rfl (congrArg Value.bool c20) rfl (wl_ok (r_pick (b := false) (v := (.bool (false))) (congrArg Value.bool c20) rfl) (wl_ok (r_assign (v := (.bool (false))) rfl) (wl_nil (then_normal (wc_ret (fin1 (v := (.bool (false))) Try.results43 rfl ?_))))))))
    obtain rfl := Option.some.inj hs
    exact ⟨h.grown, rfl⟩
  ·
   refine wl_off (b' := false) rfl (congrArg Value.bool c11) rfl (wl_off (b' := false) rfl (congrArg Value.bool c11) rfl (wl_off (b' := false) rfl (congrArg Value.bool c11) rfl (wl_off (b' := false) rfl (congrArg Value.bool c11) rfl (wl_off (b' := false) rfl (congrArg Value.bool c11) rfl (wl_ok (r_pick (b := false) (v := (.bool (false))) (congrArg Value.bool c11) rfl) (wl_ok (r_move (v := (.bool (false))) rfl) (wl_off (b' := false) rfl rfl rfl (wl_off (b' := false) rfl rfl rfl (wl_off (b' := false) rfl rfl rfl (wl_ok (r_pick (b := false) (v := (.bool (false))) rfl rfl) (wl_ok (r_assign (v := (.bool (false))) rfl) (wl_nil (then_normal (wc_ret (fin1 (v := (.bool (false))) Try.results43 rfl ?_)))))))))))))))
   obtain rfl := Option.some.inj hs
   exact ⟨h.grown, rfl⟩
 ·
  refine wl_off (b' := false) rfl (congrArg Value.bool c7) rfl (wl_off (b' := false) rfl (congrArg Value.bool c7) rfl (wl_off (b' := false) rfl (congrArg Value.bool c7) rfl (wl_off (b' := false) rfl (congrArg Value.bool c7) rfl (wl_ok (r_pick (b := false) (v := (.bool (false))) (congrArg Value.bool c7) rfl) (wl_ok (r_move (v := (.bool (false))) rfl) (wl_off (b' := false) rfl rfl rfl (wl_off (b' := false) rfl rfl rfl (wl_off (b' := false) rfl rfl rfl (wl_off (b' := false) rfl rfl rfl (wl_off (b' := false) rfl rfl rfl (wl_ok (r_pick (b := false) (v := (.bool (false))) rfl rfl) (wl_ok (r_move (v := (.bool (false))) rfl) (wl_off (b' := false) rfl rfl rfl (wl_off (b' := false) rfl rfl rfl (wl_off (b' := false) rfl rfl rfl (wl_ok (r_pick (b := false) (v := (.bool (false))) rfl rfl) (wl_ok (r_assign (v := (.bool (false))) rfl) (wl_nil (then_normal (wc_ret (fin1 (v := (.bool (false))) Try.results43 rfl ?_)))))))))))))))))))))
  obtain rfl := Option.some.inj hs
  exact ⟨h.grown, rfl⟩
def wandererref_in (a : Int) (b : Int) (c : Int) : Bool :=
  (decide ((b : Int) ≤ a) && decide ((a : Int) ≤ c))
theorem wandererref_in_c (w0 : World) (M : BS) (hM : ∀ b, M b → b < w0.heap.size) (a : Int) (b : Int) (c : Int) (r : Bool) (hs : wandererref_in a b c = r) :
    Calls Try.prog 64 #[(.int .i64 (a)), (.int .i64 (b)), (.int .i64 (c))] w0 (fun e w' => Grow w0 w' ∧ e = .returned (.bool r)) := by
 refine calls_start (args := [(.int .i64 (a)), (.int .i64 (b)), (.int .i64 (c))]) Try.func64 rfl Try.ntmps64 (Nat.le_of_ble_eq_true rfl) ?_
 have h := SH.init hM
 refine wc_seq (wc_region (wl_ok (r_assign (v := (.bool (false))) rfl) (wl_nil (then_normal (wc_seq (wc_region (wl_ok (r_move (v := (.int .i64 (b))) rfl) (wl_ok (r_move (v := (.int .i64 (a))) rfl) (wl_ok (r_leq rfl rfl) (wl_ok (r_move (v := (.bool (decide ((b : Int) ≤ a)))) rfl) (wl_gd0 rfl rfl (fun q => r_move (v := (.int .i64 (a))) rfl) (wl_gd0 rfl rfl (fun q => r_move (v := (.int .i64 (c))) rfl) (wl_gd0 rfl rfl (fun q => r_leq (gvt q) (gvt q)) (wl_ok (r_pand rfl rfl evc) (wl_ok (r_assign (v := (.bool ((decide ((b : Int) ≤ a) && decide ((a : Int) ≤ c))))) rfl) (wl_nil (then_normal (wc_ret (fin1 (v := (.bool ((decide ((b : Int) ≤ a) && decide ((a : Int) ≤ c))))) Try.results64 rfl ?_)))))))))))))))))))
 obtain rfl := hs
 exact ⟨h.grown, rfl⟩
def wandererref_sized_j120 (nx37 : Int → Option (Int × Bool)) (x40 : Int) : Option (Int × Bool) :=
  nx37 x40
def wandererref_sized_b121 (F0 : List GStmt → Int → Option (Int × Bool)) (x8 : GStmt) (a : List GStmt) (b : Int) (i34 : Int) (x32 : Int) (nx37 : Int → Option (Int × Bool)) : Option (Int × Bool) :=
  (idx [x8.a, x8.b] i34).bind fun x41 => bif decide ((0 : Int) < (x41.length : Int)) then grd (I64 (b - 1)) ((F0 x41 (b - 1)).bind fun y53 => grd (I64 (x32 + y53.1)) (bif ((!y53.2) || decide ((30 : Int) < (x32 + y53.1))) then some (0, false) else wandererref_sized_j120 nx37 (x32 + y53.1))) else wandererref_sized_j120 nx37 x32
def wandererref_sized_k122 (nx10 : Int → Option (Int × Bool)) (x32 : Int) : Option (Int × Bool) :=
  bif decide ((30 : Int) < x32) then some (0, false) else nx10 x32
def wandererref_sized_b123 (F0 : List GStmt → Int → Option (Int × Bool)) (a : List GStmt) (b : Int) (x8 : GStmt) (x5 : Int) (nx10 : Int → Option (Int × Bool)) : Option (Int × Bool) :=
  grd (I64 (x5 + 1)) (upto (wandererref_sized_b121 F0 x8 a b) (wandererref_sized_k122 nx10) 0 (([x8.a, x8.b].length : Int)).toNat (x5 + 1))
def wandererref_sized_k124 (x5 : Int) : Option (Int × Bool) :=
  some (x5, true)
def wandererref_sized_r (F0 : List GStmt → Int → Option (Int × Bool)) (a : List GStmt) (b : Int) : Option (Int × Bool) :=
  bif decide ((b : Int) < 1) then some (0, false) else each (wandererref_sized_b123 F0 a b) wandererref_sized_k124 a 0
def wandererref_sized : Nat → List GStmt → Int → Option (Int × Bool)
  | 0 => fun _ _ => none
  | N + 1 => wandererref_sized_r (wandererref_sized N)
theorem wandererref_sized_c : ∀ (N : Nat) (w0 : World) (M : BS) (hM : ∀ b, M b → b < w0.heap.size) (va : Value) (a : List GStmt) (ha : Rd2 rStmt w0 BE M va a) (b : Int) (r : Int × Bool) (hs : wandererref_sized N a b = some r),
    Calls Try.prog 85 #[va, (.int .i64 (b))] w0 (fun e w' => Grow w0 w' ∧ e = .returned (.tuple #[.int .i64 r.1, .bool r.2])) := by
  intro N
  induction N with
  | zero => intro w0 M hM va a ha b r hs; cases hs
  | succ N ih =>
  intro w0 M hM va a ha b r hs
  replace hs : wandererref_sized_r (wandererref_sized N) a b = some r := hs
  generalize wandererref_sized N = F0 at hs ih
  refine calls_start (args := [va, (.int .i64 (b))]) Try.func85 rfl Try.ntmps85 (Nat.le_of_ble_eq_true rfl) ?_
  have h := SH.init hM
  replace h := h.argSr 1 ha none_own
  have hl_a := ha.len_le
  refine wc_seq (wc_region (wl_ok (r_assign (v := (.int .i64 (0))) rfl) (wl_ok (r_assign (v := (.bool (false))) rfl) (wl_nil (then_normal (wc_seq (wc_seq (wc_region (wl_ok (r_move (v := (.int .i64 (b))) rfl) (wl_ok (r_lss rfl rfl) (wl_nil (then_normal (wc_ifb hs rfl (fun c1 hs => ?_) (fun c1 hs => ?_))))))))))))))
  ·
   refine wc_seq (wc_region (wl_ok (r_assign (v := (.int .i64 (0))) rfl) (wl_ok (r_assign (v := (.bool (false))) rfl) (wl_nil (then_normal (wc_ret (then_ret (fin2 (v1 := (.int .i64 (0))) (v2 := (.bool (false))) Try.results85 rfl rfl ?_))))))))
   obtain rfl := Option.some.inj hs
   exact ⟨h.grown, rfl⟩
  ·
   refine wc_skip (then_normal (wc_seq (wc_region (wl_ok (r_assign (v := (.int .i64 (0))) rfl) (wl_nil (then_normal (wc_seq (wc_seq (wc_region (wl_ok (r_move (v := va) rfl) (wl_ok (r_len SliceOf76 rfl (h.srS 1 rfl)) (wl_ok (r_move (v := (.int .i64 (0))) rfl) (wl_nil (then_normal (wc_block (wc_lp (σ := Nat × Int × Int) (inl [4, 5, 6, 8, 10, 11, 12, 17, 18, 19, 20, 21, 22, 23, 24, 25, 26, 27, 28, 29, 30, 31, 32, 33, 34, 35, 36, 37, 38, 39, 40, 41, 42, 43, 44, 45, 46, 47, 48, 49, 50, 51, 52, 53, 54, 55]) (fun ⟨k6, i7, x5⟩ => [(6, (.int .i64 (x5))), (17, (.int .i64 (i7)))]) (fun ⟨k6, i7, x5⟩ w => SH w0 M BE w (hset [(1, .sr rStmt va a)]) ∧ i7 = (k6 : Int) ∧ each (wandererref_sized_b123 F0 a b) wandererref_sized_k124 (a.drop k6) x5 = some r) (fun ⟨k6, i7, x5⟩ => a.length - k6) ⟨0, 0, 0⟩ ⟨rfl, rfl, trivial⟩ ?_ ?_))))))))))))))))
   ·
    exact ⟨h.cn _, rfl, hs⟩
   ·
    rintro ⟨k6, i7, x5⟩ w junk ⟨h, hik, hs⟩
    refine wc_seq (wc_region ?_)
    refine wl_ok (r_lss rfl rfl) (wl_nil (then_normal ?_))
    refine wc_seq (wc_if rfl (fun e11 => ?_) (fun e11 => ?_))
    ·
     refine wc_skip (then_normal ?_)
     obtain ⟨x8, e12a, e12b⟩ := drop_lt (hik ▸ e11)
     rw [e12b, each_cons] at hs
     generalize hnx10 : each (wandererref_sized_b123 F0 a b) wandererref_sized_k124 (a.drop (k6 + 1)) = nx10 at hs
     have e12r := nat_rng ((h.srS 1 rfl)).len_le hik e11
     refine wc_seq (wc_block (wc_seq (wc_region ?_)))
     obtain ⟨b14, o15, cs16, h, r17, i13⟩ := h.ixS 1 2 rfl SliceOf76 rfl (nat_nn hik) (get_nat hik e12a)
     obtain ⟨u18, u20, u22, u24, rfl, g19, g21, g23, g25⟩ := rStmt_open r17
     replace h := h.knowRd 3 g19.up
     replace h := h.knowRd 4 g21.up.up
     replace h := h.knowRd 5 g23.up.up.up
     replace h := h.knowRd 6 g25.up.up.up.up
     refine wl_ok (i13 _ _ _ _ _ _ _ _ _ rfl rfl) (wl_ok (r_ldPN (k := 0) (vs := [(.int .i64 (x8.kind)), (.int .i64 (x8.n)), u18, u20, u22, u24]) h 2 rfl Many82 rfl rfl rfl (Nat.le_of_ble_eq_true rfl)) (w_allocN h 7 Many82 fun w b26 h => w_stN (vs := [(.int .i64 (x8.kind)), (.int .i64 (x8.n)), u18, u20, u22, u24]) h 7 [(.int .i64 (x8.kind)), (.int .i64 (x8.n)), u18, u20, u22, u24] rfl Many82 rfl rfl rfl rfl rfl (ones_cons rfl (ones_cons rfl (ones_cons (h.rdAt 3 rfl).one (ones_cons (h.rdAt 4 rfl).one (ones_cons (h.rdAt 5 rfl).one (ones_cons (h.rdAt 6 rfl).one ones_nil)))))) fun w h => wl_nil (then_normal (wc_seq (wc_region (wl_ok (r_move (v := (.int .i64 (x5))) rfl) ?_))))))
     obtain ⟨a27, hs⟩ := o_grd hs
     refine wl_ok (r_add rfl rfl a27) (wl_ok (r_assign (v := (.int .i64 ((x5 + 1)))) rfl) (wl_nil (then_normal (wc_seq (wc_seq (wc_region (wl_ok (r_fieldAddr Fld82x4 rfl) (wl_ok (r_ldB h 7 rfl One76 rfl rfl) (wl_ok (r_fieldAddr Fld82x5 rfl) (wl_ok (r_ldB h 7 rfl One76 rfl rfl) (w_bs (R := (rSl rStmt)) (vs := [u22, u24]) (xs := [x8.a, x8.b]) h 8 ElemOf132 rfl rfl rfl ⟨(h.rdAt 5 rfl).rdc, ⟨(h.rdAt 6 rfl).rdc, trivial⟩⟩ rfl fun w u28 h => wl_ok (r_len SliceOf132 rfl (h.ownS 8 rfl)) (wl_ok (r_move (v := (.int .i64 (0))) rfl) (wl_nil (then_normal (wc_block ?_)))))))))))))))
     have hli34 := (h.ownS 8 rfl).len_le
     refine wc_lp (σ := Nat × Int × Int) (inl [4, 5, 6, 10, 11, 12, 29, 30, 31, 32, 33, 34, 35, 36, 37, 38, 39, 40, 41, 42, 43, 44, 45, 46, 47, 48, 49, 50, 51, 52]) (fun ⟨k33, i34, x32⟩ => [(6, (.int .i64 (x32))), (29, (.int .i64 (i34)))]) (fun ⟨k33, i34, x32⟩ w => SH w0 M BE w (hset [(1, .sr rStmt va a), (8, .own (rSl rStmt) 76 u28 [x8.a, x8.b])]) ∧ i34 = (k33 : Int) ∧ upto (wandererref_sized_b121 F0 x8 a b) (wandererref_sized_k122 nx10) i34 ((([x8.a, x8.b].length : Int)).toNat - k33) x32 = some r) (fun ⟨k33, i34, x32⟩ => (([x8.a, x8.b].length : Int)).toNat - k33) ⟨0, 0, (x5 + 1)⟩ ⟨rfl, rfl, trivial⟩ ?_ ?_
     ·
      exact ⟨h.cn _, rfl, hs⟩
     ·
      rintro ⟨k33, i34, x32⟩ w junk ⟨h, hik, hs⟩
      refine wc_seq (wc_region ?_)
      refine wl_ok (r_lss rfl rfl) (wl_nil (then_normal ?_))
      refine wc_seq (wc_if rfl (fun e38 => ?_) (fun e38 => ?_))
      ·
       refine wc_skip (then_normal ?_)
       rw [upto_lt (by have := of_decide_eq_true e38; omega)] at hs
       generalize hnx37 : upto (wandererref_sized_b121 F0 x8 a b) (wandererref_sized_k122 nx10) (i34 + 1) ((([x8.a, x8.b].length : Int)).toNat - (k33 + 1)) = nx37 at hs
       have e39r : I64 (i34 + 1) := (by have := of_decide_eq_true e38; have := hli34; exact I64.mk (by omega) (by omega))
       refine wc_join (σ := Int) (inl [4, 5, 6, 10, 11, 12, 31, 32, 33, 34, 35, 36, 37, 38, 39, 40, 41, 42, 43, 44, 45, 46, 47, 48, 49, 50, 51]) (fun x40 => [(6, (.int .i64 (x40)))]) (fun x40 w => SH w0 M BE w (hset [(1, .sr rStmt va a), (8, .own (rSl rStmt) 76 u28 [x8.a, x8.b])]) ∧ wandererref_sized_j120 nx37 x40 = some r) ?_ ?_
       ·
        rintro x40 w junk ⟨h, hs⟩
        refine wc_region (wl_ok (r_add rfl rfl e39r) (wl_ok (r_move (v := (.int .i64 ((i34 + 1)))) rfl) (wl_nil (then_loop ?_))))
        subst hnx37
        exact lend ⟨k33 + 1, i34 + 1, x40⟩ ⟨h.cn _, by omega, hs⟩ (by have := of_decide_eq_true e38; dsimp only; omega)
       ·
        refine wc_block (wc_seq (wc_region ?_))
        obtain ⟨x41, e42, hs⟩ := o_bind hs
        obtain ⟨b44, q45, i43⟩ := h.ixO 8 rfl SliceOf132 rfl (o_idx e42).1 (o_idx e42).2
        refine wl_ok (i43 _ _ _ _ _ _ _ _ _ rfl rfl) ?_
        obtain ⟨cs46, m47, r48⟩ := h.elO 8 rfl q45 (o_idx e42).2
        obtain ⟨u49, rfl, g50⟩ := r48
        replace h := h.knowRd 9 g50
        refine wl_ok (r_ldA (k := 0) m47 One76 rfl rfl) (wl_ok (r_assign (v := u49) rfl) (wl_nil (then_normal (wc_seq (wc_region (wl_ok (r_move (v := u49) rfl) (wl_ok (r_len SliceOf76 rfl (h.rdS 9 rfl)) (wl_ok (r_gtr rfl rfl) (wl_nil (then_normal (wc_ifb hs rfl (fun c51 hs => ?_) (fun c51 hs => ?_))))))))))))
        ·
         refine wc_seq (wc_region (wl_ok (r_move (v := u49) rfl) (wl_ok (r_move (v := (.int .i64 (b))) rfl) ?_)))
         obtain ⟨a52, hs⟩ := o_grd hs
         refine wl_ok (r_sub rfl rfl a52) ?_
         obtain ⟨y53, e54, hs⟩ := o_bind hs
         refine w_call fnOk85 rfl rfl (ih _ _ h.lt u49 x41 (h.rdS 9 rfl) (b - 1) _ e54) ?_
         rintro _ w ⟨k55, rfl⟩
         refine ⟨_, rfl, ?_⟩
         replace h := h.grow k55
         refine wl_ok (r_move (v := (.tuple #[(.int .i64 (y53.1)), (.bool (y53.2))])) rfl) (wl_ok (r_extract rfl rfl) (wl_ok (r_extract rfl rfl) (wl_ok (r_assign (v := (.int .i64 (y53.1))) rfl) (wl_ok (r_assign (v := (.bool (y53.2))) rfl) (wl_nil (then_normal (wc_seq (wc_region (wl_ok (r_move (v := (.int .i64 (x32))) rfl) (wl_ok (r_move (v := (.int .i64 (y53.1))) rfl) ?_))))))))))
         obtain ⟨a56, hs⟩ := o_grd hs
         refine wl_ok (r_add rfl rfl a56) (wl_ok (r_assign (v := (.int .i64 ((x32 + y53.1)))) rfl) (wl_nil (then_normal (wc_seq (wc_region (wl_ok (r_move (v := (.bool (y53.2))) rfl) (wl_ok (r_notb rfl) (wl_ok (r_move (v := (.bool ((!y53.2)))) rfl) (wl_gd0 rfl rfl (fun q => r_move (v := (.int .i64 ((x32 + y53.1)))) rfl) (wl_gd0 rfl rfl (fun q => r_gtr (gvt q) rfl) (wl_ok (r_por rfl rfl evc) (wl_nil (then_normal (wc_ifb hs rfl (fun c57 hs => ?_) (fun c57 hs => ?_)))))))))))))))
         ·
          refine wc_seq (wc_region (wl_ok (r_assign (v := (.int .i64 (0))) rfl) (wl_ok (r_assign (v := (.bool (false))) rfl) (wl_nil (then_normal (wc_ret (inBlock_ret (then_ret (then_ret (inBlock_ret (then_ret (inBlock_ret (then_ret (then_ret (inBlock_ret (then_ret (fin2 (v1 := (.int .i64 (0))) (v2 := (.bool (false))) Try.results85 rfl rfl ?_)))))))))))))))))
          obtain rfl := Option.some.inj hs
          exact ⟨h.grown, rfl⟩
         ·
          refine wc_skip (inBlock_normal (then_loop ?_))
          exact jend (x32 + y53.1) ⟨h.cn _, hs⟩
        ·
         refine wc_skip (inBlock_normal (then_loop ?_))
         exact jend x32 ⟨h.cn _, hs⟩
      ·
       rw [upto_ge (by have := of_decide_eq_false e38; omega)] at hs
       refine wc_exit (then_exit (then_exit (inBlock_eq (then_normal (wc_seq (wc_region (wl_ok (r_move (v := (.int .i64 (x32))) rfl) (wl_ok (r_gtr rfl rfl) (wl_nil (then_normal (wc_ifb hs rfl (fun c58 hs => ?_) (fun c58 hs => ?_))))))))))))
       ·
        refine wc_seq (wc_region (wl_ok (r_assign (v := (.int .i64 (0))) rfl) (wl_ok (r_assign (v := (.bool (false))) rfl) (wl_nil (then_normal (wc_ret (inBlock_ret (then_ret (then_ret (inBlock_ret (then_ret (fin2 (v1 := (.int .i64 (0))) (v2 := (.bool (false))) Try.results85 rfl rfl ?_))))))))))))
        obtain rfl := Option.some.inj hs
        exact ⟨h.grown, rfl⟩
       ·
        refine wc_skip (inBlock_normal (then_normal (wc_region (wl_ok (r_add rfl rfl e12r) (wl_ok (r_move (v := (.int .i64 ((i7 + 1)))) rfl) (wl_nil (then_loop ?_)))))))
        subst hnx10
        exact lend ⟨k6 + 1, i7 + 1, x32⟩ ⟨h.cn _, by omega, hs⟩ (by have := of_decide_eq_true e11; dsimp only; omega)
    ·
     rw [drop_ge (hik ▸ e11), each_nil] at hs
     refine wc_exit (then_exit (then_exit (inBlock_eq (then_normal (wc_seq (wc_region (wl_ok (r_move (v := (.int .i64 (x5))) rfl) (wl_ok (r_assign (v := (.int .i64 (x5))) rfl) (wl_ok (r_assign (v := (.bool (true))) rfl) (wl_nil (then_normal (wc_ret (fin2 (v1 := (.int .i64 (x5))) (v2 := (.bool (true))) Try.results85 rfl rfl ?_)))))))))))))
     obtain rfl := Option.some.inj hs
     exact ⟨h.grown, rfl⟩
theorem strings_Contains_c (w0 : World) (M : BS) (hM : ∀ b, M b → b < w0.heap.size) (a : Str) (b : UInt8) (r : Bool) (hs : hasB a b = r) :
    Calls Try.prog 109 #[(strV a), (strV [b])] w0 (fun e w' => Grow w0 w' ∧ e = .returned (.bool r)) := by
  refine (Try.strings_Contains_one ⟨a.toArray⟩ b w0).mono ?_
  rintro e w' ⟨rfl, rfl⟩
  subst hs
  exact ⟨Keep.refl _ _, by simp [hasB]⟩
def wandererref_below (a : Int) (b : Int) : Bool :=
  (decide ((0 : Int) ≤ a) && decide ((a : Int) < b))
theorem wandererref_below_c (w0 : World) (M : BS) (hM : ∀ b, M b → b < w0.heap.size) (a : Int) (b : Int) (r : Bool) (hs : wandererref_below a b = r) :
    Calls Try.prog 69 #[(.int .i64 (a)), (.int .i64 (b))] w0 (fun e w' => Grow w0 w' ∧ e = .returned (.bool r)) := by
 refine calls_start (args := [(.int .i64 (a)), (.int .i64 (b))]) Try.func69 rfl Try.ntmps69 (Nat.le_of_ble_eq_true rfl) ?_
 have h := SH.init hM
 refine wc_seq (wc_region (wl_ok (r_assign (v := (.bool (false))) rfl) (wl_nil (then_normal (wc_seq (wc_region (wl_ok (r_move (v := (.int .i64 (a))) rfl) (wl_ok (r_geq rfl rfl) (wl_ok (r_move (v := (.bool (decide ((0 : Int) ≤ a)))) rfl) (wl_gd0 rfl rfl (fun q => r_move (v := (.int .i64 (a))) rfl) (wl_gd0 rfl rfl (fun q => r_move (v := (.int .i64 (b))) rfl) (wl_gd0 rfl rfl (fun q => r_lss (gvt q) (gvt q)) (wl_ok (r_pand rfl rfl evc) (wl_ok (r_assign (v := (.bool ((decide ((0 : Int) ≤ a) && decide ((a : Int) < b))))) rfl) (wl_nil (then_normal (wc_ret (fin1 (v := (.bool ((decide ((0 : Int) ≤ a) && decide ((a : Int) < b))))) Try.results69 rfl ?_))))))))))))))))))
 obtain rfl := hs
 exact ⟨h.grown, rfl⟩
def wandererref_fits (a : Int) : Bool :=
  (wandererref_in a (-1000000000) 1000000000)
theorem wandererref_fits_c (w0 : World) (M : BS) (hM : ∀ b, M b → b < w0.heap.size) (a : Int) (r : Bool) (hs : wandererref_fits a = r) :
    Calls Try.prog 68 #[(.int .i64 (a))] w0 (fun e w' => Grow w0 w' ∧ e = .returned (.bool r)) := by
 refine calls_start (args := [(.int .i64 (a))]) Try.func68 rfl Try.ntmps68 (Nat.le_of_ble_eq_true rfl) ?_
 have h := SH.init hM
 refine wc_seq (wc_region (wl_ok (r_assign (v := (.bool (false))) rfl) (wl_nil (then_normal (wc_seq (wc_region (wl_ok (r_move (v := (.int .i64 (a))) rfl) (w_call fnOk64 rfl rfl (wandererref_in_c _ _ h.lt a (-1000000000) 1000000000 _ rfl) ?_))))))))
 rintro _ w ⟨k1, rfl⟩
 refine ⟨_, rfl, ?_⟩
 replace h := h.grow k1
 refine wl_ok (r_assign (v := (.bool ((wandererref_in a (-1000000000) 1000000000)))) rfl) (wl_nil (then_normal (wc_ret (fin1 (v := (.bool ((wandererref_in a (-1000000000) 1000000000)))) Try.results68 rfl ?_))))
 obtain rfl := hs
 exact ⟨h.grown, rfl⟩
def wandererref_CheckTok_j1 (x2 : Bool) : Int :=
  bif (!x2) then 3 else 0
def wandererref_CheckTok (a : Tok) (b : List Fun) (c : Int) : Int :=
  bif decide ((a.kind : Int) = 1) then wandererref_CheckTok_j1 (wandererref_fits a.n) else bif decide ((a.kind : Int) = 2) then wandererref_CheckTok_j1 (wandererref_below a.n c) else bif decide ((a.kind : Int) = 3) then wandererref_CheckTok_j1 (wandererref_in a.n 1 5) else bif decide ((a.kind : Int) = 4) then wandererref_CheckTok_j1 (wandererref_in a.n 0 3) else bif decide ((a.kind : Int) = 5) then wandererref_CheckTok_j1 (wandererref_in a.n 1 4) else bif decide ((a.kind : Int) = 6) then bif (!(wandererref_below a.n (b.length : Int))) then 5 else wandererref_CheckTok_j1 true else 4
theorem wandererref_CheckTok_c (w0 : World) (M : BS) (hM : ∀ b, M b → b < w0.heap.size) (a : Tok) (vb : Value) (b : List Fun) (hb : Rd2 rFun w0 BE M vb b) (c : Int) (r : Int) (hs : wandererref_CheckTok a b c = r) :
    Calls Try.prog 95 #[(.agg #[(.int .i64 (a.kind)), (.int .i64 (a.n))]), vb, (.int .i64 (c))] w0 (fun e w' => Grow w0 w' ∧ e = .returned (.int .i64 r)) := by
 refine calls_start (args := [(.agg #[(.int .i64 (a.kind)), (.int .i64 (a.n))]), vb, (.int .i64 (c))]) Try.func95 rfl Try.ntmps95 (Nat.le_of_ble_eq_true rfl) ?_
 have h := SH.init hM
 replace h := h.argSr 1 hb none_own
 have hl_b := hb.len_le
 refine wc_seq (wc_region (w_box (cs := [(.int .i64 (a.kind)), (.int .i64 (a.n))]) h 2 rfl rfl fun w b1 h => wl_ok (r_assign (v := (.int .i64 (0))) rfl) (wl_nil (then_normal (wc_seq (wc_region (wl_ok (r_assign (v := (.bool (false))) rfl) (wl_nil (then_normal (wc_join (σ := Bool) (inl [6, 7, 8, 9, 10, 11, 12, 13, 14, 15, 16, 17, 18, 19, 20, 21, 22, 23, 24, 25, 26, 27, 28, 29, 30, 31, 32, 33, 34, 35, 36, 37, 38, 39, 40, 41, 42, 43]) (fun x2 => [(7, (.bool (x2)))]) (fun x2 w => SH w0 M BE w (hset []) ∧ wandererref_CheckTok_j1 x2 = r) ?_ ?_))))))))))
 ·
  rintro x2 w junk ⟨h, hs⟩
  refine wc_seq (wc_seq (wc_region (wl_ok (r_move (v := (.bool (x2))) rfl) (wl_ok (r_notb rfl) (wl_nil (then_normal (wc_ifb hs rfl (fun c3 hs => ?_) (fun c3 hs => ?_))))))))
  ·
   refine wc_seq (wc_region (wl_ok (r_assign (v := (.int .i64 (3))) rfl) (wl_nil (then_normal (wc_ret (then_ret (fin1 (v := (.int .i64 (3))) Try.results95 rfl ?_)))))))
   obtain rfl := hs
   exact ⟨h.grown, rfl⟩
  ·
   refine wc_skip (then_normal (wc_seq (wc_region (wl_ok (r_assign (v := (.int .i64 (0))) rfl) (wl_nil (then_normal (wc_ret (fin1 (v := (.int .i64 (0))) Try.results95 rfl ?_))))))))
   obtain rfl := hs
   exact ⟨h.grown, rfl⟩
 ·
  refine wc_seq (wc_region (wl_ok (r_fieldAddr Fld112x0 rfl) (wl_ok (r_ldB h 2 rfl One3 rfl rfl) (wl_nil (then_normal (wc_block (wc_seq (wc_region (wl_ok (r_eql rfl rfl) (wl_ok (r_assign (v := (.bool (decide ((a.kind : Int) = 1)))) rfl) (wl_nil (then_normal (wc_ifb hs rfl (fun c4 hs => ?_) (fun c4 hs => ?_))))))))))))))
  ·
   refine wc_region (wl_ok (r_fieldAddr Fld112x1 rfl) (wl_ok (r_ldB h 2 rfl One3 rfl rfl) (w_call fnOk68 rfl rfl (wandererref_fits_c _ _ h.lt a.n _ rfl) ?_)))
   rintro _ w ⟨k5, rfl⟩
   refine ⟨_, rfl, ?_⟩
   replace h := h.grow k5
   refine wl_ok (r_assign (v := (.bool ((wandererref_fits a.n)))) rfl) (wl_nil (inBlock_normal (then_loop ?_)))
   exact jend (wandererref_fits a.n) ⟨h.cn _, hs⟩
  ·
   refine wc_seq (wc_region (wl_ok (r_eql rfl rfl) (wl_ok (r_assign (v := (.bool (decide ((a.kind : Int) = 2)))) rfl) (wl_nil (then_normal (wc_ifb hs rfl (fun c6 hs => ?_) (fun c6 hs => ?_)))))))
   ·
    refine wc_region (wl_ok (r_fieldAddr Fld112x1 rfl) (wl_ok (r_ldB h 2 rfl One3 rfl rfl) (wl_ok (r_move (v := (.int .i64 (c))) rfl) (w_call fnOk69 rfl rfl (wandererref_below_c _ _ h.lt a.n c _ rfl) ?_))))
    rintro _ w ⟨k7, rfl⟩
    refine ⟨_, rfl, ?_⟩
    replace h := h.grow k7
    refine wl_ok (r_assign (v := (.bool ((wandererref_below a.n c)))) rfl) (wl_nil (inBlock_normal (then_loop ?_)))
    exact jend (wandererref_below a.n c) ⟨h.cn _, hs⟩
   ·
    refine wc_seq (wc_region (wl_ok (r_eql rfl rfl) (wl_ok (r_assign (v := (.bool (decide ((a.kind : Int) = 3)))) rfl) (wl_nil (then_normal (wc_ifb hs rfl (fun c8 hs => ?_) (fun c8 hs => ?_)))))))
    ·
     refine wc_region (wl_ok (r_fieldAddr Fld112x1 rfl) (wl_ok (r_ldB h 2 rfl One3 rfl rfl) (w_call fnOk64 rfl rfl (wandererref_in_c _ _ h.lt a.n 1 5 _ rfl) ?_)))
     rintro _ w ⟨k9, rfl⟩
     refine ⟨_, rfl, ?_⟩
     replace h := h.grow k9
     refine wl_ok (r_assign (v := (.bool ((wandererref_in a.n 1 5)))) rfl) (wl_nil (inBlock_normal (then_loop ?_)))
     exact jend (wandererref_in a.n 1 5) ⟨h.cn _, hs⟩
    ·
     refine wc_seq (wc_region (wl_ok (r_eql rfl rfl) (wl_ok (r_assign (v := (.bool (decide ((a.kind : Int) = 4)))) rfl) (wl_nil (then_normal (wc_ifb hs rfl (fun c10 hs => ?_) (fun c10 hs => ?_)))))))
     ·
      refine wc_region (wl_ok (r_fieldAddr Fld112x1 rfl) (wl_ok (r_ldB h 2 rfl One3 rfl rfl) (w_call fnOk64 rfl rfl (wandererref_in_c _ _ h.lt a.n 0 3 _ rfl) ?_)))
      rintro _ w ⟨k11, rfl⟩
      refine ⟨_, rfl, ?_⟩
      replace h := h.grow k11
      refine wl_ok (r_assign (v := (.bool ((wandererref_in a.n 0 3)))) rfl) (wl_nil (inBlock_normal (then_loop ?_)))
      exact jend (wandererref_in a.n 0 3) ⟨h.cn _, hs⟩
     ·
      refine wc_seq (wc_region (wl_ok (r_eql rfl rfl) (wl_ok (r_assign (v := (.bool (decide ((a.kind : Int) = 5)))) rfl) (wl_nil (then_normal (wc_ifb hs rfl (fun c12 hs => ?_) (fun c12 hs => ?_)))))))
      ·
       refine wc_region (wl_ok (r_fieldAddr Fld112x1 rfl) (wl_ok (r_ldB h 2 rfl One3 rfl rfl) (w_call fnOk64 rfl rfl (wandererref_in_c _ _ h.lt a.n 1 4 _ rfl) ?_)))
       rintro _ w ⟨k13, rfl⟩
       refine ⟨_, rfl, ?_⟩
       replace h := h.grow k13
       refine wl_ok (r_assign (v := (.bool ((wandererref_in a.n 1 4)))) rfl) (wl_nil (inBlock_normal (then_loop ?_)))
       exact jend (wandererref_in a.n 1 4) ⟨h.cn _, hs⟩
      ·
       refine wc_seq (wc_region (wl_ok (r_eql rfl rfl) (wl_ok (r_assign (v := (.bool (decide ((a.kind : Int) = 6)))) rfl) (wl_nil (then_normal (wc_ifb hs rfl (fun c14 hs => ?_) (fun c14 hs => ?_)))))))
       ·
        refine wc_seq (wc_seq (wc_region (wl_ok (r_fieldAddr Fld112x1 rfl) (wl_ok (r_ldB h 2 rfl One3 rfl rfl) (wl_ok (r_move (v := vb) rfl) (wl_ok (r_len SliceOf70 rfl (h.srS 1 rfl)) (w_call fnOk69 rfl rfl (wandererref_below_c _ _ h.lt a.n (b.length : Int) _ rfl) ?_)))))))
        rintro _ w ⟨k15, rfl⟩
        refine ⟨_, rfl, ?_⟩
        replace h := h.grow k15
        refine wl_ok (r_notb rfl) (wl_nil (then_normal (wc_ifb hs rfl (fun c16 hs => ?_) (fun c16 hs => ?_))))
        ·
         refine wc_seq (wc_region (wl_ok (r_assign (v := (.int .i64 (5))) rfl) (wl_nil (then_normal (wc_ret (then_ret (inBlock_ret (then_ret (fin1 (v := (.int .i64 (5))) Try.results95 rfl ?_)))))))))
         obtain rfl := hs
         exact ⟨h.grown, rfl⟩
        ·
         refine wc_skip (then_normal (wc_region (wl_ok (r_assign (v := (.bool (true))) rfl) (wl_nil (inBlock_normal (then_loop ?_))))))
         exact jend true ⟨h.cn _, hs⟩
       ·
        refine wc_seq (wc_region (wl_ok (r_assign (v := (.int .i64 (4))) rfl) (wl_nil (then_normal (wc_ret (inBlock_ret (then_ret (fin1 (v := (.int .i64 (4))) Try.results95 rfl ?_))))))))
        obtain rfl := hs
        exact ⟨h.grown, rfl⟩
def wandererref_asks (a : Tok) (b : List Fun) : Option Int :=
  bif decide ((a.kind : Int) = 3) then some 2 else bif decide ((a.kind : Int) = 4) then some 1 else bif decide ((a.kind : Int) = 6) then (idx b a.n).bind fun x5 => some x5.params else some 0
theorem wandererref_asks_c (w0 : World) (M : BS) (hM : ∀ b, M b → b < w0.heap.size) (a : Tok) (vb : Value) (b : List Fun) (hb : Rd2 rFun w0 BE M vb b) (r : Int) (hs : wandererref_asks a b = some r) :
    Calls Try.prog 96 #[(.agg #[(.int .i64 (a.kind)), (.int .i64 (a.n))]), vb] w0 (fun e w' => Grow w0 w' ∧ e = .returned (.int .i64 r)) := by
 refine calls_start (args := [(.agg #[(.int .i64 (a.kind)), (.int .i64 (a.n))]), vb]) Try.func96 rfl Try.ntmps96 (Nat.le_of_ble_eq_true rfl) ?_
 have h := SH.init hM
 replace h := h.argSr 1 hb none_own
 have hl_b := hb.len_le
 refine wc_seq (wc_region (w_box (cs := [(.int .i64 (a.kind)), (.int .i64 (a.n))]) h 2 rfl rfl fun w b1 h => wl_ok (r_assign (v := (.int .i64 (0))) rfl) (wl_nil (then_normal (wc_seq (wc_seq (wc_region (wl_ok (r_fieldAddr Fld112x0 rfl) (wl_ok (r_ldB h 2 rfl One3 rfl rfl) (wl_nil (then_normal (wc_block (wc_seq (wc_region (wl_ok (r_eql rfl rfl) (wl_ok (r_assign (v := (.bool (decide ((a.kind : Int) = 3)))) rfl) (wl_nil (then_normal (wc_ifb hs rfl (fun c2 hs => ?_) (fun c2 hs => ?_))))))))))))))))))))
 ·
  refine wc_seq (wc_region (wl_ok (r_assign (v := (.int .i64 (2))) rfl) (wl_nil (then_normal (wc_ret (inBlock_ret (then_ret (fin1 (v := (.int .i64 (2))) Try.results96 rfl ?_))))))))
  obtain rfl := Option.some.inj hs
  exact ⟨h.grown, rfl⟩
 ·
  refine wc_seq (wc_region (wl_ok (r_eql rfl rfl) (wl_ok (r_assign (v := (.bool (decide ((a.kind : Int) = 4)))) rfl) (wl_nil (then_normal (wc_ifb hs rfl (fun c3 hs => ?_) (fun c3 hs => ?_)))))))
  ·
   refine wc_seq (wc_region (wl_ok (r_assign (v := (.int .i64 (1))) rfl) (wl_nil (then_normal (wc_ret (inBlock_ret (then_ret (fin1 (v := (.int .i64 (1))) Try.results96 rfl ?_))))))))
   obtain rfl := Option.some.inj hs
   exact ⟨h.grown, rfl⟩
  ·
   refine wc_seq (wc_region (wl_ok (r_eql rfl rfl) (wl_ok (r_assign (v := (.bool (decide ((a.kind : Int) = 6)))) rfl) (wl_nil (then_normal (wc_ifb hs rfl (fun c4 hs => ?_) (fun c4 hs => ?_)))))))
   ·
    refine wc_seq (wc_region (wl_ok (r_move (v := vb) rfl) (wl_ok (r_fieldAddr Fld112x1 rfl) (wl_ok (r_ldB h 2 rfl One3 rfl rfl) ?_))))
    obtain ⟨x5, e6, hs⟩ := o_bind hs
    obtain ⟨b8, o9, cs10, h, r11, i7⟩ := h.ixS 1 3 rfl SliceOf70 rfl (o_idx e6).1 (o_idx e6).2
    obtain ⟨u12, rfl, g13⟩ := rFun_open r11
    replace h := h.knowRd 4 g13.up
    refine wl_ok (i7 _ _ _ _ _ _ _ _ _ rfl rfl) (wl_ok (r_fieldAddr Fld78x0 rfl) (wl_ok (r_ldP (k := 0) h 3 rfl One3 rfl rfl) (wl_ok (r_assign (v := (.int .i64 (x5.params))) rfl) (wl_nil (then_normal (wc_ret (inBlock_ret (then_ret (fin1 (v := (.int .i64 (x5.params))) Try.results96 rfl ?_)))))))))
    obtain rfl := Option.some.inj hs
    exact ⟨h.grown, rfl⟩
   ·
    refine wc_skip (inBlock_normal (then_normal (wc_seq (wc_region (wl_ok (r_assign (v := (.int .i64 (0))) rfl) (wl_nil (then_normal (wc_ret (fin1 (v := (.int .i64 (0))) Try.results96 rfl ?_)))))))))
    obtain rfl := Option.some.inj hs
    exact ⟨h.grown, rfl⟩
def slices_Max_int_b2 (a : List Int) (s : Int × Int) (nx21 : Int × Int → Option Int) : Option Int :=
  match s with | (x15, x16) => bif decide ((x16 : Int) < (a.length : Int)) then (idx a x16).bind fun x25 => grd (I64 (x16 + 1)) (nx21 ((max x15 x25), (x16 + 1))) else some x15
def slices_Max_int (N : Nat) (a : List Int) : Option Int :=
  bif decide (((a.length : Int) : Int) < 1) then none else (idx a 0).bind fun x2 => again (slices_Max_int_b2 a) N (x2, 1)
theorem slices_Max_int_c (N : Nat) (w0 : World) (M : BS) (hM : ∀ b, M b → b < w0.heap.size) (va : Value) (a : List Int) (ha : Rd2 rInt w0 BE M va a) (r : Int) (hs : slices_Max_int N a = some r) :
    Calls Try.prog 97 #[va] w0 (fun e w' => Grow w0 w' ∧ e = .returned (.int .i64 r)) := by
 refine calls_start (args := [va]) Try.func97 rfl Try.ntmps97 (Nat.le_of_ble_eq_true rfl) ?_
 have h := SH.init hM
 replace h := h.argSr 1 ha none_own
 have hl_a := ha.len_le
 refine wc_seq (wc_region (wl_ok (r_assign (v := (.int .i64 (0))) rfl) (wl_nil (then_normal (wc_seq (wc_seq (wc_region (wl_ok (r_move (v := va) rfl) (wl_ok (r_len SliceOf24 rfl (h.srS 1 rfl)) (wl_ok (r_lss rfl rfl) (wl_nil (then_normal (wc_ifb hs rfl (fun c1 hs => ?_) (fun c1 hs => ?_))))))))))))))
 ·
  cases hs
 ·
  refine wc_skip (then_normal (wc_seq (wc_region (wl_ok (r_move (v := va) rfl) ?_))))
  obtain ⟨x2, e3, hs⟩ := o_bind hs
  obtain ⟨b5, o6, cs7, h, r8, i4⟩ := h.ixS 1 2 rfl SliceOf24 rfl (o_idx e3).1 (o_idx e3).2
  obtain rfl := r8
  refine wl_ok (i4 _ _ _ _ _ _ _ _ _ rfl rfl) (wl_ok (r_ldP (k := 0) h 2 rfl One3 rfl rfl) (wl_ok (r_assign (v := (.int .i64 (x2))) rfl) (wl_nil (then_normal (wc_seq (wc_seq (wc_region (wl_ok (r_assign (v := (.int .i64 (1))) rfl) (wl_nil (then_normal (wc_block (wc_lp (σ := Nat × Int × Int) (inl [3, 4, 12, 13, 14, 15, 16, 17, 18, 19, 20, 21, 22, 23]) (fun ⟨m20, x15, x16⟩ => [(3, (.int .i64 (x15))), (4, (.int .i64 (x16)))]) (fun ⟨m20, x15, x16⟩ w => SH w0 M BE w (hset [(1, .sr rInt va a)]) ∧ again (slices_Max_int_b2 a) m20 (x15, x16) = some r) (fun ⟨m20, x15, x16⟩ => m20) ⟨N, x2, 1⟩ ⟨rfl, rfl, trivial⟩ ?_ ?_))))))))))))
  ·
   exact ⟨h.cn _, hs⟩
  ·
   rintro ⟨m20, x15, x16⟩ w junk ⟨h, hs⟩
   obtain ⟨m201, m20e, m20h⟩ := again_pos hs
   subst m20e
   replace hs := m20h
   generalize hnx21 : again (slices_Max_int_b2 a) m201 = nx21 at hs
   refine wc_seq (wc_seq (wc_region (wl_ok (r_move (v := (.int .i64 (x16))) rfl) (wl_ok (r_move (v := va) rfl) (wl_ok (r_len SliceOf24 rfl (h.srS 1 rfl)) (wl_ok (r_lss rfl rfl) (wl_nil (then_normal (wc_ifb hs rfl (fun c24 hs => ?_) (fun c24 hs => ?_))))))))))
   ·
    refine wc_skip (then_normal (wc_seq (wc_block (wc_region (wl_ok (r_move (v := (.int .i64 (x15))) rfl) (wl_ok (r_move (v := va) rfl) (wl_ok (r_move (v := (.int .i64 (x16))) rfl) ?_)))))))
    obtain ⟨x25, e26, hs⟩ := o_bind hs
    obtain ⟨b28, o29, cs30, h, r31, i27⟩ := h.ixS 1 3 rfl SliceOf24 rfl (o_idx e26).1 (o_idx e26).2
    obtain rfl := r31
    refine wl_ok (i27 _ _ _ _ _ _ _ _ _ rfl rfl) (wl_ok (r_ldP (k := 0) h 3 rfl One3 rfl rfl) (wl_ok (r_max rfl rfl) (wl_ok (r_assign (v := (.int .i64 ((max x15 x25)))) rfl) (wl_nil (inBlock_normal (then_normal (wc_region (wl_ok (r_move (v := (.int .i64 (x16))) rfl) ?_))))))))
    obtain ⟨a32, hs⟩ := o_grd hs
    refine wl_ok (r_add rfl rfl a32) (wl_ok (r_assign (v := (.int .i64 ((x16 + 1)))) rfl) (wl_nil (then_loop ?_)))
    subst hnx21
    exact lend ⟨m201, (max x15 x25), (x16 + 1)⟩ ⟨h.cn _, hs⟩
   ·
    refine wc_exit (then_exit (then_exit (inBlock_eq (then_normal (wc_seq (wc_region (wl_ok (r_move (v := (.int .i64 (x15))) rfl) (wl_ok (r_assign (v := (.int .i64 (x15))) rfl) (wl_nil (then_normal (wc_ret (fin1 (v := (.int .i64 (x15))) Try.results97 rfl ?_))))))))))))
    obtain rfl := Option.some.inj hs
    exact ⟨h.grown, rfl⟩
def wandererref_CheckExpr_j131 (x29 : Tok) (b : List Fun) (nx31 : List Int → Option Int) (x66 : List Int) : Option Int :=
  (wandererref_asks x29 b).bind fun y67 => grd (Room 8 x66 [y67]) (nx31 (x66 ++ [y67]))
def wandererref_CheckExpr_j130 (x49 : List Int) (nx54 : List Int → Option Int) (i28 : Int) (x29 : Tok) (b : List Fun) (nx31 : List Int → Option Int) (x57 : Bool) : Option Int :=
  bif x57 then grd (I64 ((x49.length : Int) - 1)) ((sub? x49 0 ((x49.length : Int) - 1)).bind fun x60 => nx54 (x49.take (((x49.length : Int) - 1)).toNat)) else bif (decide ((0 : Int) < i28) && decide (((x49.length : Int) : Int) = 0)) then some 4 else bif decide ((0 : Int) < i28) then grd (I64 ((x49.length : Int) - 1)) ((idx x49 ((x49.length : Int) - 1)).bind fun x75 => grd (I64 (x75 - 1)) (wandererref_CheckExpr_j131 x29 b nx31 (x49.set (((x49.length : Int) - 1)).toNat (x75 - 1)))) else wandererref_CheckExpr_j131 x29 b nx31 x49
def wandererref_CheckExpr_b132 (i28 : Int) (x29 : Tok) (b : List Fun) (nx31 : List Int → Option Int) (x49 : List Int) (nx54 : List Int → Option Int) : Option Int :=
  bif decide ((0 : Int) < (x49.length : Int)) then grd (I64 ((x49.length : Int) - 1)) ((idx x49 ((x49.length : Int) - 1)).bind fun x89 => wandererref_CheckExpr_j130 x49 nx54 i28 x29 b nx31 (decide ((x89 : Int) = 0))) else wandererref_CheckExpr_j130 x49 nx54 i28 x29 b nx31 false
def wandererref_CheckExpr_j134 (x97 : Bool) : Option Int :=
  bif x97 then some 4 else some 0
def wandererref_CheckExpr_b135 (N : Nat) (b : List Fun) (c : Int) (i28 : Int) (x29 : Tok) (x26 : List Int) (nx31 : List Int → Option Int) : Option Int :=
  bif decide (((wandererref_CheckTok x29 b c) : Int) ≠ 0) then some (wandererref_CheckTok x29 b c) else again (wandererref_CheckExpr_b132 i28 x29 b nx31) N x26
def wandererref_CheckExpr_k136 (N : Nat) (a : List Tok) (x26 : List Int) : Option Int :=
  bif decide (((a.length : Int) : Int) = 0) then wandererref_CheckExpr_j134 true else grd (Room 8 [0] x26) ((slices_Max_int N ([0] ++ x26)).bind fun y103 => wandererref_CheckExpr_j134 (decide ((0 : Int) < y103)))
def wandererref_CheckExpr_b137 (x4 : Fun) (s : Unit) (nx6 : Unit → Option Int) : Option Int :=
  bif (!(wandererref_in x4.params 0 3)) then some 3 else nx6 ()
def wandererref_CheckExpr_k138 (N : Nat) (b : List Fun) (c : Int) (a : List Tok) (s : Unit) : Option Int :=
  eachI (wandererref_CheckExpr_b135 N b c) (wandererref_CheckExpr_k136 N a) 0 a []
def wandererref_CheckExpr (N : Nat) (a : List Tok) (b : List Fun) (c : Int) : Option Int :=
  bif decide ((24 : Int) < (a.length : Int)) then some 2 else each wandererref_CheckExpr_b137 (wandererref_CheckExpr_k138 N b c a) b ()
theorem wandererref_CheckExpr_c (N : Nat) (w0 : World) (M : BS) (hM : ∀ b, M b → b < w0.heap.size) (va : Value) (a : List Tok) (ha : Rd2 rTok w0 BE M va a) (vb : Value) (b : List Fun) (hb : Rd2 rFun w0 BE M vb b) (c : Int) (r : Int) (hs : wandererref_CheckExpr N a b c = some r) :
    Calls Try.prog 49 #[va, vb, (.int .i64 (c))] w0 (fun e w' => Grow w0 w' ∧ e = .returned (.int .i64 r)) := by
 refine calls_start (args := [va, vb, (.int .i64 (c))]) Try.func49 rfl Try.ntmps49 (Nat.le_of_ble_eq_true rfl) ?_
 have h := SH.init hM
 replace h := h.argSr 1 ha none_own
 replace h := h.argSr 2 hb (hupd_own_sr none_own)
 have hl_a := ha.len_le
 have hl_b := hb.len_le
 refine wc_seq (wc_region (wl_ok (r_assign (v := (.int .i64 (0))) rfl) (wl_nil (then_normal (wc_seq (wc_seq (wc_region (wl_ok (r_move (v := va) rfl) (wl_ok (r_len SliceOf71 rfl (h.srS 1 rfl)) (wl_ok (r_gtr rfl rfl) (wl_nil (then_normal (wc_ifb hs rfl (fun c1 hs => ?_) (fun c1 hs => ?_))))))))))))))
 ·
  refine wc_seq (wc_region (wl_ok (r_assign (v := (.int .i64 (2))) rfl) (wl_nil (then_normal (wc_ret (then_ret (fin1 (v := (.int .i64 (2))) Try.results49 rfl ?_)))))))
  obtain rfl := Option.some.inj hs
  exact ⟨h.grown, rfl⟩
 ·
  refine wc_skip (then_normal (wc_seq (wc_seq (wc_region (wl_ok (r_move (v := vb) rfl) (wl_ok (r_len SliceOf70 rfl (h.srS 2 rfl)) (wl_ok (r_move (v := (.int .i64 (0))) rfl) (wl_nil (then_normal (wc_block (wc_lp (σ := Nat × Int) (inl [6, 8, 18, 19, 20, 21, 22, 23, 24, 25, 26]) (fun ⟨k2, i3⟩ => [(18, (.int .i64 (i3)))]) (fun ⟨k2, i3⟩ w => SH w0 M BE w (hset [(1, .sr rTok va a), (2, .sr rFun vb b)]) ∧ i3 = (k2 : Int) ∧ each wandererref_CheckExpr_b137 (wandererref_CheckExpr_k138 N b c a) (b.drop k2) () = some r) (fun ⟨k2, i3⟩ => b.length - k2) ⟨0, 0⟩ ⟨rfl, trivial⟩ ?_ ?_)))))))))))
  ·
   exact ⟨h.cn _, rfl, hs⟩
  ·
   rintro ⟨k2, i3⟩ w junk ⟨h, hik, hs⟩
   refine wc_seq (wc_region ?_)
   refine wl_ok (r_lss rfl rfl) (wl_nil (then_normal ?_))
   refine wc_seq (wc_if rfl (fun e7 => ?_) (fun e7 => ?_))
   ·
    refine wc_skip (then_normal ?_)
    obtain ⟨x4, e8a, e8b⟩ := drop_lt (hik ▸ e7)
    rw [e8b, each_cons] at hs
    generalize hnx6 : each wandererref_CheckExpr_b137 (wandererref_CheckExpr_k138 N b c a) (b.drop (k2 + 1)) = nx6 at hs
    have e8r := nat_rng ((h.srS 2 rfl)).len_le hik e7
    refine wc_seq (wc_block (wc_seq (wc_region ?_)))
    obtain ⟨b10, o11, cs12, h, r13, i9⟩ := h.ixS 2 3 rfl SliceOf70 rfl (nat_nn hik) (get_nat hik e8a)
    obtain ⟨u14, rfl, g15⟩ := rFun_open r13
    replace h := h.knowRd 4 g15.up
    refine wl_ok (i9 _ _ _ _ _ _ _ _ _ rfl rfl) (wl_ok (r_ldPN (k := 0) (vs := [(.int .i64 (x4.params)), (.int .i64 (x4.locals)), u14]) h 3 rfl Many78 rfl rfl rfl (Nat.le_of_ble_eq_true rfl)) (w_allocN h 5 Many78 fun w b16 h => w_stN (vs := [(.int .i64 (x4.params)), (.int .i64 (x4.locals)), u14]) h 5 [(.int .i64 (x4.params)), (.int .i64 (x4.locals)), u14] rfl Many78 rfl rfl rfl rfl rfl (ones_cons rfl (ones_cons rfl (ones_cons (h.rdAt 4 rfl).one ones_nil))) fun w h => wl_nil (then_normal (wc_seq (wc_region (wl_ok (r_fieldAddr Fld78x0 rfl) (wl_ok (r_ldB h 5 rfl One3 rfl rfl) (w_call fnOk64 rfl rfl (wandererref_in_c _ _ h.lt x4.params 0 3 _ rfl) ?_))))))))
    rintro _ w ⟨k17, rfl⟩
    refine ⟨_, rfl, ?_⟩
    replace h := h.grow k17
    refine wl_ok (r_notb rfl) (wl_nil (then_normal (wc_ifb hs rfl (fun c18 hs => ?_) (fun c18 hs => ?_))))
    ·
     refine wc_seq (wc_region (wl_ok (r_assign (v := (.int .i64 (3))) rfl) (wl_nil (then_normal (wc_ret (inBlock_ret (then_ret (then_ret (inBlock_ret (then_ret (fin1 (v := (.int .i64 (3))) Try.results49 rfl ?_)))))))))))
     obtain rfl := Option.some.inj hs
     exact ⟨h.grown, rfl⟩
    ·
     refine wc_skip (inBlock_normal (then_normal (wc_region (wl_ok (r_add rfl rfl e8r) (wl_ok (r_move (v := (.int .i64 ((i3 + 1)))) rfl) (wl_nil (then_loop ?_)))))))
     subst hnx6
     exact lend ⟨k2 + 1, i3 + 1⟩ ⟨h.cn _, by omega, hs⟩ (by have := of_decide_eq_true e7; dsimp only; omega)
   ·
    rw [drop_ge (hik ▸ e7), each_nil] at hs
    refine wc_exit (then_exit (then_exit (inBlock_eq (then_normal (wc_seq (wc_region (wl_ok (r_assign (v := (.slice none 0 0)) rfl) (wl_nil (then_normal (wc_seq (wc_seq (wc_region (wl_ok (r_move (v := va) rfl) (wl_ok (r_len SliceOf71 rfl (h.srS 1 rfl)) (wl_ok (r_move (v := (.int .i64 (0))) rfl) (wl_nil (then_normal (wc_block ?_))))))))))))))))))
    replace h := h.nilO (R := rInt) (E := 3) 9
    refine wc_lp (σ := Nat × Int × Value × List Int) (inl [6, 9, 10, 11, 12, 29, 30, 31, 32, 33, 34, 35, 36, 37, 38, 39, 40, 41, 42, 43, 44, 45, 46, 47, 48, 49, 50, 51, 52, 53, 54, 55, 56, 57, 58, 59, 60, 61, 62, 63, 64, 65, 66, 67, 68, 69, 70, 71, 72, 73, 74, 75, 76, 77, 78, 79, 80, 81]) (fun ⟨k27, i28, v25, x26⟩ => [(9, v25), (29, (.int .i64 (i28)))]) (fun ⟨k27, i28, v25, x26⟩ w => SH w0 M BE w (hset [(1, .sr rTok va a), (2, .sr rFun vb b), (9, .own rInt 3 v25 x26)]) ∧ i28 = (k27 : Int) ∧ eachI (wandererref_CheckExpr_b135 N b c) (wandererref_CheckExpr_k136 N a) i28 (a.drop k27) x26 = some r) (fun ⟨k27, i28, v25, x26⟩ => a.length - k27) ⟨0, 0, (.slice none 0 0), []⟩ ⟨rfl, rfl, trivial⟩ ?_ ?_
    ·
     exact ⟨h.cn _, rfl, hs⟩
    ·
     rintro ⟨k27, i28, v25, x26⟩ w junk ⟨h, hik, hs⟩
     refine wc_seq (wc_region ?_)
     refine wl_ok (r_lss rfl rfl) (wl_nil (then_normal ?_))
     refine wc_seq (wc_if rfl (fun e32 => ?_) (fun e32 => ?_))
     ·
      refine wc_skip (then_normal ?_)
      obtain ⟨x29, e33a, e33b⟩ := drop_lt (hik ▸ e32)
      rw [e33b, eachI_cons] at hs
      generalize hnx31 : eachI (wandererref_CheckExpr_b135 N b c) (wandererref_CheckExpr_k136 N a) (i28 + 1) (a.drop (k27 + 1)) = nx31 at hs
      have e33r := nat_rng ((h.srS 1 rfl)).len_le hik e32
      refine wc_seq (wc_block (wc_seq (wc_region (wl_ok (r_move (v := (.int .i64 (i28))) rfl) ?_))))
      obtain ⟨b35, o36, cs37, h, r38, i34⟩ := h.ixS 1 10 rfl SliceOf71 rfl (nat_nn hik) (get_nat hik e33a)
      obtain rfl := r38
      refine wl_ok (i34 _ _ _ _ _ _ _ _ _ rfl rfl) (wl_ok (r_ldPN (k := 0) (vs := [(.int .i64 (x29.kind)), (.int .i64 (x29.n))]) h 10 rfl Many112 rfl rfl rfl (Nat.le_of_ble_eq_true rfl)) (w_allocN h 11 Many112 fun w b39 h => wl_ok (r_assign (v := (.int .i64 (i28))) rfl) (w_stN (vs := [(.int .i64 (x29.kind)), (.int .i64 (x29.n))]) h 11 [(.int .i64 (x29.kind)), (.int .i64 (x29.n))] rfl Many112 rfl rfl rfl rfl rfl (ones_cons rfl (ones_cons rfl ones_nil)) fun w h => wl_nil (then_normal (wc_seq (wc_seq (wc_region (wl_ok (r_ldBN (vs := [(.int .i64 (x29.kind)), (.int .i64 (x29.n))]) h 11 rfl Many112 rfl rfl rfl) (wl_ok (r_move (v := vb) rfl) (wl_ok (r_move (v := (.int .i64 (c))) rfl) (w_call fnOk95 rfl rfl (wandererref_CheckTok_c _ _ h.lt x29 vb b (h.srS 2 rfl) c _ rfl) ?_)))))))))))
      rintro _ w ⟨k40, rfl⟩
      refine ⟨_, rfl, ?_⟩
      replace h := h.grow k40
      refine wl_ok (r_assign (v := (.int .i64 ((wandererref_CheckTok x29 b c)))) rfl) (wl_nil (then_normal (wc_seq (wc_region (wl_ok (r_move (v := (.int .i64 ((wandererref_CheckTok x29 b c)))) rfl) (wl_ok (r_neq rfl rfl) (wl_nil (then_normal (wc_ifb hs rfl (fun c41 hs => ?_) (fun c41 hs => ?_))))))))))
      ·
       refine wc_seq (wc_region (wl_ok (r_move (v := (.int .i64 ((wandererref_CheckTok x29 b c)))) rfl) (wl_ok (r_assign (v := (.int .i64 ((wandererref_CheckTok x29 b c)))) rfl) (wl_nil (then_normal (wc_ret (then_ret (inBlock_ret (then_ret (then_ret (inBlock_ret (then_ret (fin1 (v := (.int .i64 ((wandererref_CheckTok x29 b c)))) Try.results49 rfl ?_)))))))))))))
       obtain rfl := Option.some.inj hs
       exact ⟨h.grown, rfl⟩
      ·
       refine wc_skip (then_normal (wc_seq (wc_block (wc_lp (σ := Nat × Value × List Int) (inl [9, 41, 42, 43, 44, 45, 46, 47, 48, 49, 50, 51, 52, 53, 54, 55, 56, 57]) (fun ⟨m53, v48, x49⟩ => [(9, v48)]) (fun ⟨m53, v48, x49⟩ w => SH w0 M BE w (hset [(1, .sr rTok va a), (2, .sr rFun vb b), (9, .own rInt 3 v48 x49), (11, .blk b39 [(.int .i64 (x29.kind)), (.int .i64 (x29.n))])]) ∧ again (wandererref_CheckExpr_b132 i28 x29 b nx31) m53 x49 = some r) (fun ⟨m53, v48, x49⟩ => m53) ⟨N, v25, x26⟩ ⟨rfl, trivial⟩ ?_ ?_))))
       ·
        exact ⟨h.cn _, hs⟩
       ·
        rintro ⟨m53, v48, x49⟩ w junk ⟨h, hs⟩
        obtain ⟨m531, m53e, m53h⟩ := again_pos hs
        subst m53e
        replace hs := m53h
        generalize hnx54 : again (wandererref_CheckExpr_b132 i28 x29 b nx31) m531 = nx54 at hs
        refine wc_seq (wc_join (σ := Bool) (inl [41, 42, 43, 44, 45, 46, 47, 48, 49, 50, 51, 52]) (fun x57 => [(52, (.bool (x57)))]) (fun x57 w => SH w0 M BE w (hset [(1, .sr rTok va a), (2, .sr rFun vb b), (9, .own rInt 3 v48 x49), (11, .blk b39 [(.int .i64 (x29.kind)), (.int .i64 (x29.n))])]) ∧ wandererref_CheckExpr_j130 x49 nx54 i28 x29 b nx31 x57 = some r) ?_ ?_)
        ·
         rintro x57 w junk ⟨h, hs⟩
         refine wc_ifb hs rfl (fun c58 hs => ?_) (fun c58 hs => ?_)
         ·
          refine wc_skip (then_normal (wc_block (wc_region (wl_ok (r_move (v := v48) rfl) (wl_ok (r_move (v := v48) rfl) (wl_ok (r_len SliceOf24 rfl (h.ownS 9 rfl)) ?_))))))
          obtain ⟨a59, hs⟩ := o_grd hs
          refine wl_ok (r_sub rfl rfl a59) ?_
          obtain ⟨x60, e61, hs⟩ := o_bind hs
          obtain ⟨e64, e64a, e64b, e64c⟩ := o_sub e61
          obtain ⟨u62, h, i63⟩ := h.cutO 9 rfl SliceOf24 rfl e64b e64c
          refine wl_ok (i63 _ _ _ _ _ _ _ _ _ _ rfl (.inl ⟨rfl, rfl⟩) (.inr (congrArg some rfl))) (wl_ok (r_assign (v := u62) rfl) (wl_nil (inBlock_normal (then_loop ?_))))
          subst hnx54
          exact lend ⟨m531, u62, (x49.take (((x49.length : Int) - 1)).toNat)⟩ ⟨h.cn _, hs⟩
         ·
          refine wc_exit (then_exit (then_exit (inBlock_eq (then_normal (wc_seq (wc_seq (wc_region (wl_ok (r_move (v := (.int .i64 (i28))) rfl) (wl_ok (r_gtr rfl rfl) (wl_ok (r_move (v := (.bool (decide ((0 : Int) < i28)))) rfl) (wl_gd0 rfl rfl (fun q => r_move (v := v48) rfl) (wl_gd0 rfl rfl (fun q => r_len SliceOf24 (gvt q) (h.ownS 9 rfl)) (wl_gd0 rfl rfl (fun q => r_eql (gvt q) rfl) (wl_ok (r_pand rfl rfl evc) (wl_nil (then_normal (wc_ifb hs rfl (fun c65 hs => ?_) (fun c65 hs => ?_))))))))))))))))))
          ·
           refine wc_seq (wc_region (wl_ok (r_assign (v := (.int .i64 (4))) rfl) (wl_nil (then_normal (wc_ret (then_ret (inBlock_ret (then_ret (then_ret (inBlock_ret (then_ret (fin1 (v := (.int .i64 (4))) Try.results49 rfl ?_))))))))))))
           obtain rfl := Option.some.inj hs
           exact ⟨h.grown, rfl⟩
          ·
           refine wc_skip (then_normal (wc_join (σ := List Int) (inl [65, 66, 67, 68, 69, 70, 71, 72, 73, 74]) (fun x66 => []) (fun x66 w => SH w0 M BE w (hset [(1, .sr rTok va a), (2, .sr rFun vb b), (9, .own rInt 3 v48 x66), (11, .blk b39 [(.int .i64 (x29.kind)), (.int .i64 (x29.n))])]) ∧ wandererref_CheckExpr_j131 x29 b nx31 x66 = some r) ?_ ?_))
           ·
            rintro x66 w junk ⟨h, hs⟩
            refine wc_region (wl_ok (r_move (v := v48) rfl) (wl_ok (r_ldBN (vs := [(.int .i64 (x29.kind)), (.int .i64 (x29.n))]) h 11 rfl Many112 rfl rfl rfl) (wl_ok (r_move (v := vb) rfl) ?_)))
            obtain ⟨y67, e68, hs⟩ := o_bind hs
            refine w_call fnOk96 rfl rfl (wandererref_asks_c _ _ h.lt x29 vb b (h.srS 2 rfl) _ e68) ?_
            rintro _ w ⟨k69, rfl⟩
            refine ⟨_, rfl, ?_⟩
            replace h := h.grow k69
            refine w_bs (R := rInt) (vs := [(.int .i64 (y67))]) (xs := [y67]) h 13 ElemOf24 rfl rfl rfl ⟨rfl, trivial⟩ rfl fun w u70 h => ?_
            obtain ⟨a71, hs⟩ := o_grd hs
            refine w_app (R := rInt) (m := [y67]) h 9 rfl (h.ownS 13 rfl) ElemOf24 rfl rfl rfl a71.1 a71.2 fun w u72 h => wl_ok (r_assign (v := u72) rfl) (wl_nil (inBlock_normal (then_normal (wc_region (wl_ok (r_add rfl rfl e33r) (wl_ok (r_move (v := (.int .i64 ((i28 + 1)))) rfl) (wl_nil (then_loop ?_))))))))
            subst hnx31
            exact lend ⟨k27 + 1, i28 + 1, u72, (x66 ++ [y67])⟩ ⟨h.cn _, by omega, hs⟩ (by have := of_decide_eq_true e32; dsimp only; omega)
           ·
            refine wc_seq (wc_region (wl_ok (r_move (v := (.int .i64 (i28))) rfl) (wl_ok (r_gtr rfl rfl) (wl_nil (then_normal (wc_ifb hs rfl (fun c73 hs => ?_) (fun c73 hs => ?_)))))))
            ·
             refine wc_region (wl_ok (r_move (v := v48) rfl) (wl_ok (r_move (v := v48) rfl) (wl_ok (r_len SliceOf24 rfl (h.ownS 9 rfl)) ?_)))
             obtain ⟨a74, hs⟩ := o_grd hs
             refine wl_ok (r_sub rfl rfl a74) ?_
             obtain ⟨x75, e76, hs⟩ := o_bind hs
             obtain ⟨b78, q79, i77⟩ := h.ixO 9 rfl SliceOf24 rfl (o_idx e76).1 (o_idx e76).2
             refine wl_ok (i77 _ _ _ _ _ _ _ _ _ rfl rfl) ?_
             obtain ⟨cs80, m81, r82⟩ := h.elO 9 rfl q79 (o_idx e76).2
             obtain rfl := r82
             refine wl_ok (r_ldA (k := 0) m81 One3 rfl rfl) ?_
             obtain ⟨a83, hs⟩ := o_grd hs
             refine wl_ok (r_sub rfl rfl a83) ?_
             obtain ⟨b85, q86, i84⟩ := h.ixO 9 rfl SliceOf24 rfl (o_idx e76).1 (o_idx e76).2
             refine wl_ok (i84 _ _ _ _ _ _ _ _ _ rfl rfl) (w_stO (off := 0) (a' := (x75 - 1)) h 9 rfl q86 rfl (o_idx e76).2 One3 rfl rfl rfl rfl (fun cs hq => set1 rfl hq rfl rfl) fun w h => wl_nil (then_loop ?_))
             exact jend (x49.set (((x49.length : Int) - 1)).toNat (x75 - 1)) ⟨h.cn _, hs⟩
            ·
             refine wc_skip (then_loop ?_)
             exact jend x49 ⟨h.cn _, hs⟩
        ·
         refine wc_region (wl_ok (r_move (v := v48) rfl) (wl_ok (r_len SliceOf24 rfl (h.ownS 9 rfl)) (wl_ok (r_gtr rfl rfl) (wl_ok (r_move (v := (.bool (decide ((0 : Int) < (x49.length : Int))))) rfl) (c_split (b := decide ((0 : Int) < (x49.length : Int))) hs (fun c87 hs => ?_) (fun c87 hs => ?_))))))
         ·
          refine wl_on rfl (congrArg Value.bool c87) (wl_ok (r_move (v := v48) rfl) (wl_on rfl (congrArg Value.bool c87) (wl_ok (r_move (v := v48) rfl) (wl_on rfl (congrArg Value.bool c87) (wl_ok (r_len SliceOf24 rfl (h.ownS 9 rfl)) (wl_on rfl (congrArg Value.bool c87) ?_))))))
          obtain ⟨a88, hs⟩ := o_grd hs
          refine wl_ok (r_sub rfl rfl a88) (wl_on rfl (congrArg Value.bool c87) ?_)
          obtain ⟨x89, e90, hs⟩ := o_bind hs
          obtain ⟨b92, q93, i91⟩ := h.ixO 9 rfl SliceOf24 rfl (o_idx e90).1 (o_idx e90).2
          refine wl_ok (i91 _ _ _ _ _ _ _ _ _ rfl rfl) (wl_on rfl (congrArg Value.bool c87) ?_)
          obtain ⟨cs94, m95, r96⟩ := h.elO 9 rfl q93 (o_idx e90).2
          obtain rfl := r96
          refine wl_ok (r_ldA (k := 0) m95 One3 rfl rfl) (wl_on rfl (congrArg Value.bool c87) (wl_ok (r_eql rfl rfl) (wl_ok (r_pick (b := true) (v := (.bool (decide ((x89 : Int) = 0)))) (congrArg Value.bool c87) rfl) (wl_nil (then_loop ?_)))))
          exact jend (decide ((x89 : Int) = 0)) ⟨h.cn _, hs⟩
         ·
          refine wl_off (b' := false) rfl (congrArg Value.bool c87) rfl (wl_off (b' := false) rfl (congrArg Value.bool c87) rfl (wl_off (b' := false) rfl (congrArg Value.bool c87) rfl (wl_off (b' := false) rfl (congrArg Value.bool c87) rfl (wl_off (b' := false) rfl (congrArg Value.bool c87) rfl (wl_off (b' := false) rfl (congrArg Value.bool c87) rfl (wl_off (b' := false) rfl (congrArg Value.bool c87) rfl (wl_ok (r_pick (b := false) (v := (.bool (false))) (congrArg Value.bool c87) rfl) (wl_nil (then_loop ?_)))))))))
          exact jend false ⟨h.cn _, hs⟩
     ·
      rw [drop_ge (hik ▸ e32), eachI_nil] at hs
      refine wc_exit (then_exit (then_exit (inBlock_eq (then_normal (wc_seq (wc_join (σ := Bool) (inl [82, 83, 84, 85, 86, 87, 88, 89, 90, 91]) (fun x97 => [(91, (.bool (x97)))]) (fun x97 w => SH w0 M BE w (hset []) ∧ wandererref_CheckExpr_j134 x97 = some r) ?_ ?_))))))
      ·
       rintro x97 w junk ⟨h, hs⟩
       refine wc_ifb hs rfl (fun c98 hs => ?_) (fun c98 hs => ?_)
       ·
        refine wc_seq (wc_region (wl_ok (r_assign (v := (.int .i64 (4))) rfl) (wl_nil (then_normal (wc_ret (then_ret (fin1 (v := (.int .i64 (4))) Try.results49 rfl ?_)))))))
        obtain rfl := Option.some.inj hs
        exact ⟨h.grown, rfl⟩
       ·
        refine wc_skip (then_normal (wc_seq (wc_region (wl_ok (r_assign (v := (.int .i64 (0))) rfl) (wl_nil (then_normal (wc_ret (fin1 (v := (.int .i64 (0))) Try.results49 rfl ?_))))))))
        obtain rfl := Option.some.inj hs
        exact ⟨h.grown, rfl⟩
      ·
       refine wc_region (wl_ok (r_move (v := va) rfl) (wl_ok (r_len SliceOf71 rfl (h.srS 1 rfl)) (wl_ok (r_eql rfl rfl) (wl_ok (r_move (v := (.bool (decide (((a.length : Int) : Int) = 0)))) rfl) (c_split (b := decide (((a.length : Int) : Int) = 0)) hs (fun c99 hs => ?_) (fun c99 hs => ?_))))))
       ·
        refine wl_off (b' := true) rfl (congrArg Value.bool c99) rfl (wl_off (b' := true) rfl (congrArg Value.bool c99) rfl (wl_off (b' := true) rfl (congrArg Value.bool c99) rfl (wl_off (b' := true) rfl (congrArg Value.bool c99) rfl (wl_off (b' := true) rfl (congrArg Value.bool c99) rfl (wl_ok (r_pick (b := true) (v := (.bool (true))) (congrArg Value.bool c99) rfl) (wl_nil (then_loop ?_)))))))
        exact jend true ⟨h.cn _, hs⟩
       ·
        refine wl_on rfl (congrArg Value.bool c99) (w_bs (R := rInt) (vs := [(.int .i64 (0))]) (xs := [0]) h 14 ElemOf24 rfl rfl rfl ⟨rfl, trivial⟩ rfl fun w u100 h => wl_on rfl (congrArg Value.bool c99) (wl_ok (r_move (v := v25) rfl) (wl_on rfl (congrArg Value.bool c99) ?_)))
        obtain ⟨a101, hs⟩ := o_grd hs
        refine w_app (R := rInt) (m := x26) h 14 rfl (h.ownS 9 rfl) ElemOf24 rfl rfl rfl a101.1 a101.2 fun w u102 h => wl_on rfl (congrArg Value.bool c99) ?_
        obtain ⟨y103, e104, hs⟩ := o_bind hs
        refine w_call fnOk97 rfl rfl (slices_Max_int_c N _ _ h.lt u102 ([0] ++ x26) (h.ownS 14 rfl) _ e104) ?_
        rintro _ w ⟨k105, rfl⟩
        refine ⟨_, rfl, ?_⟩
        replace h := h.grow k105
        refine wl_on rfl (congrArg Value.bool c99) (wl_ok (r_gtr rfl rfl) (wl_ok (r_pick (b := false) (v := (.bool (decide ((0 : Int) < y103)))) (congrArg Value.bool c99) rfl) (wl_nil (then_loop ?_))))
        exact jend (decide ((0 : Int) < y103)) ⟨h.cn _, hs⟩
def wandererref_checkStmts_1_78 (z0_0 : Str) : Bool :=
  (hasB z0_0 78)
theorem wandererref_checkStmts_1_78_c (w0 : World) (M : BS) (hM : ∀ b, M b → b < w0.heap.size) (z0_0 : Str) (q0 : Nat) (hq0 : ∃ E, w0.heap[q0]? = some (.cells #[(strV z0_0)] E (0, 0))) (r : Bool) (hs : wandererref_checkStmts_1_78 z0_0 = r) :
    Calls Try.prog 108 #[(strV [78]), (.pointer (some ⟨q0, 0, none⟩))] w0 (fun e w' => Grow w0 w' ∧ e = .returned (.bool r)) := by
 refine calls_start (args := [(strV [78]), (.pointer (some ⟨q0, 0, none⟩))]) Try.func108 rfl Try.ntmps108 (Nat.le_of_ble_eq_true rfl) ?_
 have h := SH.init hM
 replace h := h.argPt 1 (cs := [(strV z0_0)]) hq0 none_own
 refine wc_seq (wc_region (wl_ok (r_assign (v := (.bool (false))) rfl) (wl_nil (then_normal (wc_seq (wc_region (wl_ok (r_ldP (k := 0) h 1 rfl One9 rfl rfl) (wl_ok (r_move (v := (strV [78])) rfl) (w_call fnOk109 rfl rfl (strings_Contains_c _ _ h.lt z0_0 78 _ rfl) ?_)))))))))
 rintro _ w ⟨k1, rfl⟩
 refine ⟨_, rfl, ?_⟩
 replace h := h.grow k1
 refine wl_ok (r_assign (v := (.bool ((hasB z0_0 78)))) rfl) (wl_nil (then_normal (wc_ret (fin1 (v := (.bool ((hasB z0_0 78)))) Try.results108 rfl ?_))))
 obtain rfl := hs
 exact ⟨h.grown, rfl⟩
def wandererref_checkStmts_1_69 (z0_0 : Str) : Bool :=
  (hasB z0_0 69)
theorem wandererref_checkStmts_1_69_c (w0 : World) (M : BS) (hM : ∀ b, M b → b < w0.heap.size) (z0_0 : Str) (q0 : Nat) (hq0 : ∃ E, w0.heap[q0]? = some (.cells #[(strV z0_0)] E (0, 0))) (r : Bool) (hs : wandererref_checkStmts_1_69 z0_0 = r) :
    Calls Try.prog 108 #[(strV [69]), (.pointer (some ⟨q0, 0, none⟩))] w0 (fun e w' => Grow w0 w' ∧ e = .returned (.bool r)) := by
 refine calls_start (args := [(strV [69]), (.pointer (some ⟨q0, 0, none⟩))]) Try.func108 rfl Try.ntmps108 (Nat.le_of_ble_eq_true rfl) ?_
 have h := SH.init hM
 replace h := h.argPt 1 (cs := [(strV z0_0)]) hq0 none_own
 refine wc_seq (wc_region (wl_ok (r_assign (v := (.bool (false))) rfl) (wl_nil (then_normal (wc_seq (wc_region (wl_ok (r_ldP (k := 0) h 1 rfl One9 rfl rfl) (wl_ok (r_move (v := (strV [69])) rfl) (w_call fnOk109 rfl rfl (strings_Contains_c _ _ h.lt z0_0 69 _ rfl) ?_)))))))))
 rintro _ w ⟨k1, rfl⟩
 refine ⟨_, rfl, ?_⟩
 replace h := h.grow k1
 refine wl_ok (r_assign (v := (.bool ((hasB z0_0 69)))) rfl) (wl_nil (then_normal (wc_ret (fin1 (v := (.bool ((hasB z0_0 69)))) Try.results108 rfl ?_))))
 obtain rfl := hs
 exact ⟨h.grown, rfl⟩
def wandererref_checkStmts_1_70 (z0_0 : Str) : Bool :=
  (hasB z0_0 70)
theorem wandererref_checkStmts_1_70_c (w0 : World) (M : BS) (hM : ∀ b, M b → b < w0.heap.size) (z0_0 : Str) (q0 : Nat) (hq0 : ∃ E, w0.heap[q0]? = some (.cells #[(strV z0_0)] E (0, 0))) (r : Bool) (hs : wandererref_checkStmts_1_70 z0_0 = r) :
    Calls Try.prog 108 #[(strV [70]), (.pointer (some ⟨q0, 0, none⟩))] w0 (fun e w' => Grow w0 w' ∧ e = .returned (.bool r)) := by
 refine calls_start (args := [(strV [70]), (.pointer (some ⟨q0, 0, none⟩))]) Try.func108 rfl Try.ntmps108 (Nat.le_of_ble_eq_true rfl) ?_
 have h := SH.init hM
 replace h := h.argPt 1 (cs := [(strV z0_0)]) hq0 none_own
 refine wc_seq (wc_region (wl_ok (r_assign (v := (.bool (false))) rfl) (wl_nil (then_normal (wc_seq (wc_region (wl_ok (r_ldP (k := 0) h 1 rfl One9 rfl rfl) (wl_ok (r_move (v := (strV [70])) rfl) (w_call fnOk109 rfl rfl (strings_Contains_c _ _ h.lt z0_0 70 _ rfl) ?_)))))))))
 rintro _ w ⟨k1, rfl⟩
 refine ⟨_, rfl, ?_⟩
 replace h := h.grow k1
 refine wl_ok (r_assign (v := (.bool ((hasB z0_0 70)))) rfl) (wl_nil (then_normal (wc_ret (fin1 (v := (.bool ((hasB z0_0 70)))) Try.results108 rfl ?_))))
 obtain rfl := hs
 exact ⟨h.grown, rfl⟩
def wandererref_checkStmts_1_65 (z0_0 : Str) : Bool :=
  (hasB z0_0 65)
theorem wandererref_checkStmts_1_65_c (w0 : World) (M : BS) (hM : ∀ b, M b → b < w0.heap.size) (z0_0 : Str) (q0 : Nat) (hq0 : ∃ E, w0.heap[q0]? = some (.cells #[(strV z0_0)] E (0, 0))) (r : Bool) (hs : wandererref_checkStmts_1_65 z0_0 = r) :
    Calls Try.prog 108 #[(strV [65]), (.pointer (some ⟨q0, 0, none⟩))] w0 (fun e w' => Grow w0 w' ∧ e = .returned (.bool r)) := by
 refine calls_start (args := [(strV [65]), (.pointer (some ⟨q0, 0, none⟩))]) Try.func108 rfl Try.ntmps108 (Nat.le_of_ble_eq_true rfl) ?_
 have h := SH.init hM
 replace h := h.argPt 1 (cs := [(strV z0_0)]) hq0 none_own
 refine wc_seq (wc_region (wl_ok (r_assign (v := (.bool (false))) rfl) (wl_nil (then_normal (wc_seq (wc_region (wl_ok (r_ldP (k := 0) h 1 rfl One9 rfl rfl) (wl_ok (r_move (v := (strV [65])) rfl) (w_call fnOk109 rfl rfl (strings_Contains_c _ _ h.lt z0_0 65 _ rfl) ?_)))))))))
 rintro _ w ⟨k1, rfl⟩
 refine ⟨_, rfl, ?_⟩
 replace h := h.grow k1
 refine wl_ok (r_assign (v := (.bool ((hasB z0_0 65)))) rfl) (wl_nil (then_normal (wc_ret (fin1 (v := (.bool ((hasB z0_0 65)))) Try.results108 rfl ?_))))
 obtain rfl := hs
 exact ⟨h.grown, rfl⟩
def wandererref_checkStmts_1_66 (z0_0 : Str) : Bool :=
  (hasB z0_0 66)
theorem wandererref_checkStmts_1_66_c (w0 : World) (M : BS) (hM : ∀ b, M b → b < w0.heap.size) (z0_0 : Str) (q0 : Nat) (hq0 : ∃ E, w0.heap[q0]? = some (.cells #[(strV z0_0)] E (0, 0))) (r : Bool) (hs : wandererref_checkStmts_1_66 z0_0 = r) :
    Calls Try.prog 108 #[(strV [66]), (.pointer (some ⟨q0, 0, none⟩))] w0 (fun e w' => Grow w0 w' ∧ e = .returned (.bool r)) := by
 refine calls_start (args := [(strV [66]), (.pointer (some ⟨q0, 0, none⟩))]) Try.func108 rfl Try.ntmps108 (Nat.le_of_ble_eq_true rfl) ?_
 have h := SH.init hM
 replace h := h.argPt 1 (cs := [(strV z0_0)]) hq0 none_own
 refine wc_seq (wc_region (wl_ok (r_assign (v := (.bool (false))) rfl) (wl_nil (then_normal (wc_seq (wc_region (wl_ok (r_ldP (k := 0) h 1 rfl One9 rfl rfl) (wl_ok (r_move (v := (strV [66])) rfl) (w_call fnOk109 rfl rfl (strings_Contains_c _ _ h.lt z0_0 66 _ rfl) ?_)))))))))
 rintro _ w ⟨k1, rfl⟩
 refine ⟨_, rfl, ?_⟩
 replace h := h.grow k1
 refine wl_ok (r_assign (v := (.bool ((hasB z0_0 66)))) rfl) (wl_nil (then_normal (wc_ret (fin1 (v := (.bool ((hasB z0_0 66)))) Try.results108 rfl ?_))))
 obtain rfl := hs
 exact ⟨h.grown, rfl⟩
def wandererref_checkStmts_j34 (nx5 : Unit → Option Int) (x36 : Int) : Option Int :=
  bif decide ((x36 : Int) ≠ 0) then some x36 else nx5 ()
def wandererref_checkStmts_j33 (F0 : List GStmt → List Fun → Int → Option Int) (x3 : GStmt) (b : List Fun) (c : Int) (nx5 : Unit → Option Int) (x35 : Int) : Option Int :=
  bif decide ((x35 : Int) = 0) then (F0 x3.b b c).bind fun y39 => wandererref_checkStmts_j34 nx5 y39 else wandererref_checkStmts_j34 nx5 x35
def wandererref_checkStmts_j32 (F0 : List GStmt → List Fun → Int → Option Int) (x3 : GStmt) (a : List GStmt) (b : List Fun) (c : Int) (nx5 : Unit → Option Int) (x34 : Int) : Option Int :=
  bif decide ((x34 : Int) = 0) then (F0 x3.a b c).bind fun y43 => wandererref_checkStmts_j33 F0 x3 b c nx5 y43 else wandererref_checkStmts_j33 F0 x3 b c nx5 x34
def wandererref_checkStmts_j31 (N : Nat) (F0 : List GStmt → List Fun → Int → Option Int) (x3 : GStmt) (b : List Fun) (c : Int) (a : List GStmt) (nx5 : Unit → Option Int) (x33 : Int) : Option Int :=
  bif (decide ((x33 : Int) = 0) && (wandererref_checkStmts_1_70 ((lk x3.kind ([(1, [78, 69]), (2, [78, 69, 70]), (3, [69]), (4, []), (5, [69]), (6, [69, 65, 66]), (7, [69, 65]), (8, [69])] : List (Int × Str))).getD []))) then (wandererref_CheckExpr N x3.f b c).bind fun y48 => wandererref_checkStmts_j32 F0 x3 a b c nx5 y48 else wandererref_checkStmts_j32 F0 x3 a b c nx5 x33
def wandererref_checkStmts_b35 (N : Nat) (F0 : List GStmt → List Fun → Int → Option Int) (a : List GStmt) (b : List Fun) (c : Int) (x3 : GStmt) (s : Unit) (nx5 : Unit → Option Int) : Option Int :=
  bif ((((((!(lk x3.kind ([(1, [78, 69]), (2, [78, 69, 70]), (3, [69]), (4, []), (5, [69]), (6, [69, 65, 66]), (7, [69, 65]), (8, [69])] : List (Int × Str))).isSome) || (decide ((x3.n : Int) ≠ 0) && (!(wandererref_checkStmts_1_78 ((lk x3.kind ([(1, [78, 69]), (2, [78, 69, 70]), (3, [69]), (4, []), (5, [69]), (6, [69, 65, 66]), (7, [69, 65]), (8, [69])] : List (Int × Str))).getD []))))) || (decide ((0 : Int) < (x3.e.length : Int)) && (!(wandererref_checkStmts_1_69 ((lk x3.kind ([(1, [78, 69]), (2, [78, 69, 70]), (3, [69]), (4, []), (5, [69]), (6, [69, 65, 66]), (7, [69, 65]), (8, [69])] : List (Int × Str))).getD []))))) || (decide ((0 : Int) < (x3.f.length : Int)) && (!(wandererref_checkStmts_1_70 ((lk x3.kind ([(1, [78, 69]), (2, [78, 69, 70]), (3, [69]), (4, []), (5, [69]), (6, [69, 65, 66]), (7, [69, 65]), (8, [69])] : List (Int × Str))).getD []))))) || (decide ((0 : Int) < (x3.a.length : Int)) && (!(wandererref_checkStmts_1_65 ((lk x3.kind ([(1, [78, 69]), (2, [78, 69, 70]), (3, [69]), (4, []), (5, [69]), (6, [69, 65, 66]), (7, [69, 65]), (8, [69])] : List (Int × Str))).getD []))))) || (decide ((0 : Int) < (x3.b.length : Int)) && (!(wandererref_checkStmts_1_66 ((lk x3.kind ([(1, [78, 69]), (2, [78, 69, 70]), (3, [69]), (4, []), (5, [69]), (6, [69, 65, 66]), (7, [69, 65]), (8, [69])] : List (Int × Str))).getD []))))) then some 4 else bif ((decide ((x3.kind : Int) = 1) && (!(wandererref_below x3.n c))) || (decide ((x3.kind : Int) = 2) && (!(wandererref_in x3.n 0 3)))) then some 3 else bif (hasB ((lk x3.kind ([(1, [78, 69]), (2, [78, 69, 70]), (3, [69]), (4, []), (5, [69]), (6, [69, 65, 66]), (7, [69, 65]), (8, [69])] : List (Int × Str))).getD []) 69) then (wandererref_CheckExpr N x3.e b c).bind fun y53 => wandererref_checkStmts_j31 N F0 x3 b c a nx5 y53 else wandererref_checkStmts_j31 N F0 x3 b c a nx5 0
def wandererref_checkStmts_k36 (s : Unit) : Option Int :=
  some 0
def wandererref_checkStmts_r (N : Nat) (F0 : List GStmt → List Fun → Int → Option Int) (a : List GStmt) (b : List Fun) (c : Int) : Option Int :=
  each (wandererref_checkStmts_b35 N F0 a b c) wandererref_checkStmts_k36 a ()
def wandererref_checkStmts : Nat → List GStmt → List Fun → Int → Option Int
  | 0 => fun _ _ _ => none
  | N + 1 => wandererref_checkStmts_r N (wandererref_checkStmts N)
theorem wandererref_checkStmts_c : ∀ (N : Nat) (w0 : World) (M : BS) (hM : ∀ b, M b → b < w0.heap.size) (va : Value) (a : List GStmt) (ha : Rd2 rStmt w0 BE M va a) (vb : Value) (b : List Fun) (hb : Rd2 rFun w0 BE M vb b) (c : Int) (r : Int) (hs : wandererref_checkStmts N a b c = some r),
    Calls Try.prog 86 #[va, vb, (.int .i64 (c))] w0 (fun e w' => Grow w0 w' ∧ e = .returned (.int .i64 r)) := by
  intro N
  induction N with
  | zero => intro w0 M hM va a ha vb b hb c r hs; cases hs
  | succ N ih =>
  intro w0 M hM va a ha vb b hb c r hs
  replace hs : wandererref_checkStmts_r N (wandererref_checkStmts N) a b c = some r := hs
  generalize wandererref_checkStmts N = F0 at hs ih
  refine calls_start (args := [va, vb, (.int .i64 (c))]) Try.func86 rfl Try.ntmps86 (Nat.le_of_ble_eq_true rfl) ?_
  have h := SH.init hM
  replace h := h.argSr 1 ha none_own
  replace h := h.argSr 2 hb (hupd_own_sr none_own)
  have hl_a := ha.len_le
  have hl_b := hb.len_le
  refine wc_seq (wc_region (wl_ok (r_assign (v := (.int .i64 (0))) rfl) (wl_nil (then_normal (wc_seq (wc_seq (wc_region (wl_ok (r_move (v := va) rfl) (wl_ok (r_len SliceOf76 rfl (h.srS 1 rfl)) (wl_ok (r_move (v := (.int .i64 (0))) rfl) (wl_nil (then_normal (wc_block (wc_lp (σ := Nat × Int) (inl [6, 8, 9, 10, 11, 12, 15, 16, 17, 18, 19, 20, 21, 22, 23, 24, 25, 26, 27, 28, 29, 30, 31, 32, 33, 34, 35, 36, 37, 38, 39, 40, 41, 42, 43, 44, 45, 46, 47, 48, 49, 50, 51, 52, 53, 54, 55, 56, 57, 58, 59, 60, 61, 62, 63, 64, 65, 66, 67, 68, 69, 70, 71, 72, 73, 74, 75, 76, 77, 78, 79, 80, 81, 82, 83, 84, 85, 86, 87, 88, 89, 90, 91, 92, 93, 94, 95, 96, 97, 98, 99, 100, 101, 102, 103, 104, 105, 106, 107, 108, 109, 110, 111, 112, 113, 114, 115, 116, 117, 118, 119, 120, 121, 122, 123, 124, 125, 126, 127, 128, 129, 130, 131, 132, 133, 134, 135, 136, 137, 138, 139, 140]) (fun ⟨k1, i2⟩ => [(15, (.int .i64 (i2)))]) (fun ⟨k1, i2⟩ w => SH w0 M BE w (hset [(1, .sr rStmt va a), (2, .sr rFun vb b)]) ∧ i2 = (k1 : Int) ∧ each (wandererref_checkStmts_b35 N F0 a b c) wandererref_checkStmts_k36 (a.drop k1) () = some r) (fun ⟨k1, i2⟩ => a.length - k1) ⟨0, 0⟩ ⟨rfl, trivial⟩ ?_ ?_))))))))))))))
  ·
   exact ⟨h.cn _, rfl, hs⟩
  ·
   rintro ⟨k1, i2⟩ w junk ⟨h, hik, hs⟩
   refine wc_seq (wc_region ?_)
   refine wl_ok (r_lss rfl rfl) (wl_nil (then_normal ?_))
   refine wc_seq (wc_if rfl (fun e6 => ?_) (fun e6 => ?_))
   ·
    refine wc_skip (then_normal ?_)
    obtain ⟨x3, e7a, e7b⟩ := drop_lt (hik ▸ e6)
    rw [e7b, each_cons] at hs
    generalize hnx5 : each (wandererref_checkStmts_b35 N F0 a b c) wandererref_checkStmts_k36 (a.drop (k1 + 1)) = nx5 at hs
    have e7r := nat_rng ((h.srS 1 rfl)).len_le hik e6
    refine wc_seq (wc_block (wc_seq (wc_region ?_)))
    obtain ⟨b9, o10, cs11, h, r12, i8⟩ := h.ixS 1 3 rfl SliceOf76 rfl (nat_nn hik) (get_nat hik e7a)
    obtain ⟨u13, u15, u17, u19, rfl, g14, g16, g18, g20⟩ := rStmt_open r12
    replace h := h.knowRd 4 g14.up
    replace h := h.knowRd 5 g16.up.up
    replace h := h.knowRd 6 g18.up.up.up
    replace h := h.knowRd 7 g20.up.up.up.up
    refine wl_ok (i8 _ _ _ _ _ _ _ _ _ rfl rfl) (wl_ok (r_ldPN (k := 0) (vs := [(.int .i64 (x3.kind)), (.int .i64 (x3.n)), u13, u15, u17, u19]) h 3 rfl Many82 rfl rfl rfl (Nat.le_of_ble_eq_true rfl)) (w_allocN h 8 Many82 fun w b21 h => w_stN (vs := [(.int .i64 (x3.kind)), (.int .i64 (x3.n)), u13, u15, u17, u19]) h 8 [(.int .i64 (x3.kind)), (.int .i64 (x3.n)), u13, u15, u17, u19] rfl Many82 rfl rfl rfl rfl rfl (ones_cons rfl (ones_cons rfl (ones_cons (h.rdAt 4 rfl).one (ones_cons (h.rdAt 5 rfl).one (ones_cons (h.rdAt 6 rfl).one (ones_cons (h.rdAt 7 rfl).one ones_nil)))))) fun w h => wl_nil (then_normal (wc_seq (wc_region (w_makeMap h 9 fun w b22 h => w_insert (ents' := [(1, (strV [78, 69]))]) h 9 rfl MapOf134 rfl rfl rfl rfl fun w h => w_insert (ents' := [(1, (strV [78, 69])), (2, (strV [78, 69, 70]))]) h 9 rfl MapOf134 rfl rfl rfl rfl fun w h => w_insert (ents' := [(1, (strV [78, 69])), (2, (strV [78, 69, 70])), (3, (strV [69]))]) h 9 rfl MapOf134 rfl rfl rfl rfl fun w h => w_insert (ents' := [(1, (strV [78, 69])), (2, (strV [78, 69, 70])), (3, (strV [69])), (4, (strV []))]) h 9 rfl MapOf134 rfl rfl rfl rfl fun w h => w_insert (ents' := [(1, (strV [78, 69])), (2, (strV [78, 69, 70])), (3, (strV [69])), (4, (strV [])), (5, (strV [69]))]) h 9 rfl MapOf134 rfl rfl rfl rfl fun w h => w_insert (ents' := [(1, (strV [78, 69])), (2, (strV [78, 69, 70])), (3, (strV [69])), (4, (strV [])), (5, (strV [69])), (6, (strV [69, 65, 66]))]) h 9 rfl MapOf134 rfl rfl rfl rfl fun w h => w_insert (ents' := [(1, (strV [78, 69])), (2, (strV [78, 69, 70])), (3, (strV [69])), (4, (strV [])), (5, (strV [69])), (6, (strV [69, 65, 66])), (7, (strV [69, 65]))]) h 9 rfl MapOf134 rfl rfl rfl rfl fun w h => w_insert (ents' := [(1, (strV [78, 69])), (2, (strV [78, 69, 70])), (3, (strV [69])), (4, (strV [])), (5, (strV [69])), (6, (strV [69, 65, 66])), (7, (strV [69, 65])), (8, (strV [69]))]) h 9 rfl MapOf134 rfl rfl rfl rfl fun w h => wl_ok (r_move (v := (.map (some b22))) rfl) (wl_ok (r_fieldAddr Fld82x0 rfl) (wl_ok (r_ldB h 8 rfl One3 rfl rfl) (wl_ok (r_lk2 (f := strV) (zz := []) ([(1, [78, 69]), (2, [78, 69, 70]), (3, [69]), (4, []), (5, [69]), (6, [69, 65, 66]), (7, [69, 65]), (8, [69])] : List (Int × Str)) h 9 rfl MapOf134 rfl rfl rfl rfl) (wl_ok (r_move (v := (.tuple #[(strV ((lk x3.kind ([(1, [78, 69]), (2, [78, 69, 70]), (3, [69]), (4, []), (5, [69]), (6, [69, 65, 66]), (7, [69, 65]), (8, [69])] : List (Int × Str))).getD [])), (.bool ((lk x3.kind ([(1, [78, 69]), (2, [78, 69, 70]), (3, [69]), (4, []), (5, [69]), (6, [69, 65, 66]), (7, [69, 65]), (8, [69])] : List (Int × Str))).isSome))])) rfl) (wl_ok (r_extract rfl rfl) (wl_ok (r_extract rfl rfl) ?_))))))))))))
    refine w_alloc1 h 10 One9 fun w b23 h => w_st1 h 10 [(strV ((lk x3.kind ([(1, [78, 69]), (2, [78, 69, 70]), (3, [69]), (4, []), (5, [69]), (6, [69, 65, 66]), (7, [69, 65]), (8, [69])] : List (Int × Str))).getD []))] rfl One9 rfl rfl rfl rfl rfl fun w h => wl_ok (r_assign (v := (.bool ((lk x3.kind ([(1, [78, 69]), (2, [78, 69, 70]), (3, [69]), (4, []), (5, [69]), (6, [69, 65, 66]), (7, [69, 65]), (8, [69])] : List (Int × Str))).isSome))) rfl) (wl_nil (then_normal (wc_seq (wc_region (wl_ok (r_makeFunc (c1 := []) (c2 := [(.pointer (some ⟨b23, 0, none⟩))]) rfl rfl) (wl_ok (r_assign (v := (.func (.func 108) #[] #[(.pointer (some ⟨b23, 0, none⟩))])) rfl) (wl_nil (then_normal (wc_seq (wc_seq (wc_region (wl_ok (r_move (v := (.bool ((lk x3.kind ([(1, [78, 69]), (2, [78, 69, 70]), (3, [69]), (4, []), (5, [69]), (6, [69, 65, 66]), (7, [69, 65]), (8, [69])] : List (Int × Str))).isSome))) rfl) (wl_ok (r_notb rfl) (wl_ok (r_move (v := (.bool ((!(lk x3.kind ([(1, [78, 69]), (2, [78, 69, 70]), (3, [69]), (4, []), (5, [69]), (6, [69, 65, 66]), (7, [69, 65]), (8, [69])] : List (Int × Str))).isSome)))) rfl) (wl_gd0 rfl rfl (fun q => r_fieldAddr Fld82x1 rfl) (wl_gd0 rfl rfl (fun q => r_ldB h 8 rfl One3 (gvt q) rfl) (wl_gd0 rfl rfl (fun q => r_neq (gvt q) rfl) (wl_gd0 rfl rfl (fun q => r_move (v := (.bool (decide ((x3.n : Int) ≠ 0)))) (gvt q)) (wl_gd ((!(lk x3.kind ([(1, [78, 69]), (2, [78, 69, 70]), (3, [69]), (4, []), (5, [69]), (6, [69, 65, 66]), (7, [69, 65]), (8, [69])] : List (Int × Str))).isSome) == false) rfl rfl (fun q => r_move (v := (.func (.func 108) #[] #[(.pointer (some ⟨b23, 0, none⟩))])) rfl) (w_callH [(.pointer (some ⟨b23, 0, none⟩))] ((!(lk x3.kind ([(1, [78, 69]), (2, [78, 69, 70]), (3, [69]), (4, []), (5, [69]), (6, [69, 65, 66]), (7, [69, 65]), (8, [69])] : List (Int × Str))).isSome) == false) rfl rfl fnOk108 (fun q => (gvt q)) (fun q => la_cons rfl rfl) (wandererref_checkStmts_1_78_c _ _ h.lt ((lk x3.kind ([(1, [78, 69]), (2, [78, 69, 70]), (3, [69]), (4, []), (5, [69]), (6, [69, 65, 66]), (7, [69, 65]), (8, [69])] : List (Int × Str))).getD []) b23 (h.blkAt 10 rfl) _ rfl) fun w k24 => ?_))))))))))))))))))))
    replace h := h.grow k24
    refine wl_gd ((!(lk x3.kind ([(1, [78, 69]), (2, [78, 69, 70]), (3, [69]), (4, []), (5, [69]), (6, [69, 65, 66]), (7, [69, 65]), (8, [69])] : List (Int × Str))).isSome) == false) rfl rfl (fun q => r_notb (gvt q)) (wl_gd0 rfl rfl (fun q => r_pand (gvt q) (gvn q) evc) (wl_ok (r_por rfl rfl evc) (wl_ok (r_move (v := (.bool (((!(lk x3.kind ([(1, [78, 69]), (2, [78, 69, 70]), (3, [69]), (4, []), (5, [69]), (6, [69, 65, 66]), (7, [69, 65]), (8, [69])] : List (Int × Str))).isSome) || (decide ((x3.n : Int) ≠ 0) && (!(wandererref_checkStmts_1_78 ((lk x3.kind ([(1, [78, 69]), (2, [78, 69, 70]), (3, [69]), (4, []), (5, [69]), (6, [69, 65, 66]), (7, [69, 65]), (8, [69])] : List (Int × Str))).getD [])))))))) rfl) (wl_gd0 rfl rfl (fun q => r_fieldAddr Fld82x2 rfl) (wl_gd0 rfl rfl (fun q => r_ldB h 8 rfl One71 (gvt q) rfl) (wl_gd0 rfl rfl (fun q => r_len SliceOf71 (gvt q) (h.rdS 4 rfl)) (wl_gd0 rfl rfl (fun q => r_gtr (gvt q) rfl) (wl_gd0 rfl rfl (fun q => r_move (v := (.bool (decide ((0 : Int) < (x3.e.length : Int))))) (gvt q)) (wl_gd (((!(lk x3.kind ([(1, [78, 69]), (2, [78, 69, 70]), (3, [69]), (4, []), (5, [69]), (6, [69, 65, 66]), (7, [69, 65]), (8, [69])] : List (Int × Str))).isSome) || (decide ((x3.n : Int) ≠ 0) && (!(wandererref_checkStmts_1_78 ((lk x3.kind ([(1, [78, 69]), (2, [78, 69, 70]), (3, [69]), (4, []), (5, [69]), (6, [69, 65, 66]), (7, [69, 65]), (8, [69])] : List (Int × Str))).getD []))))) == false) rfl rfl (fun q => r_move (v := (.func (.func 108) #[] #[(.pointer (some ⟨b23, 0, none⟩))])) rfl) (w_callH [(.pointer (some ⟨b23, 0, none⟩))] (((!(lk x3.kind ([(1, [78, 69]), (2, [78, 69, 70]), (3, [69]), (4, []), (5, [69]), (6, [69, 65, 66]), (7, [69, 65]), (8, [69])] : List (Int × Str))).isSome) || (decide ((x3.n : Int) ≠ 0) && (!(wandererref_checkStmts_1_78 ((lk x3.kind ([(1, [78, 69]), (2, [78, 69, 70]), (3, [69]), (4, []), (5, [69]), (6, [69, 65, 66]), (7, [69, 65]), (8, [69])] : List (Int × Str))).getD []))))) == false) rfl rfl fnOk108 (fun q => (gvt q)) (fun q => la_cons rfl rfl) (wandererref_checkStmts_1_69_c _ _ h.lt ((lk x3.kind ([(1, [78, 69]), (2, [78, 69, 70]), (3, [69]), (4, []), (5, [69]), (6, [69, 65, 66]), (7, [69, 65]), (8, [69])] : List (Int × Str))).getD []) b23 (h.blkAt 10 rfl) _ rfl) fun w k25 => ?_))))))))))
    replace h := h.grow k25
    refine wl_gd (((!(lk x3.kind ([(1, [78, 69]), (2, [78, 69, 70]), (3, [69]), (4, []), (5, [69]), (6, [69, 65, 66]), (7, [69, 65]), (8, [69])] : List (Int × Str))).isSome) || (decide ((x3.n : Int) ≠ 0) && (!(wandererref_checkStmts_1_78 ((lk x3.kind ([(1, [78, 69]), (2, [78, 69, 70]), (3, [69]), (4, []), (5, [69]), (6, [69, 65, 66]), (7, [69, 65]), (8, [69])] : List (Int × Str))).getD []))))) == false) rfl rfl (fun q => r_notb (gvt q)) (wl_gd0 rfl rfl (fun q => r_pand (gvt q) (gvn q) evc) (wl_ok (r_por rfl rfl evc) (wl_ok (r_move (v := (.bool ((((!(lk x3.kind ([(1, [78, 69]), (2, [78, 69, 70]), (3, [69]), (4, []), (5, [69]), (6, [69, 65, 66]), (7, [69, 65]), (8, [69])] : List (Int × Str))).isSome) || (decide ((x3.n : Int) ≠ 0) && (!(wandererref_checkStmts_1_78 ((lk x3.kind ([(1, [78, 69]), (2, [78, 69, 70]), (3, [69]), (4, []), (5, [69]), (6, [69, 65, 66]), (7, [69, 65]), (8, [69])] : List (Int × Str))).getD []))))) || (decide ((0 : Int) < (x3.e.length : Int)) && (!(wandererref_checkStmts_1_69 ((lk x3.kind ([(1, [78, 69]), (2, [78, 69, 70]), (3, [69]), (4, []), (5, [69]), (6, [69, 65, 66]), (7, [69, 65]), (8, [69])] : List (Int × Str))).getD [])))))))) rfl) (wl_gd0 rfl rfl (fun q => r_fieldAddr Fld82x3 rfl) (wl_gd0 rfl rfl (fun q => r_ldB h 8 rfl One71 (gvt q) rfl) (wl_gd0 rfl rfl (fun q => r_len SliceOf71 (gvt q) (h.rdS 5 rfl)) (wl_gd0 rfl rfl (fun q => r_gtr (gvt q) rfl) (wl_gd0 rfl rfl (fun q => r_move (v := (.bool (decide ((0 : Int) < (x3.f.length : Int))))) (gvt q)) (wl_gd ((((!(lk x3.kind ([(1, [78, 69]), (2, [78, 69, 70]), (3, [69]), (4, []), (5, [69]), (6, [69, 65, 66]), (7, [69, 65]), (8, [69])] : List (Int × Str))).isSome) || (decide ((x3.n : Int) ≠ 0) && (!(wandererref_checkStmts_1_78 ((lk x3.kind ([(1, [78, 69]), (2, [78, 69, 70]), (3, [69]), (4, []), (5, [69]), (6, [69, 65, 66]), (7, [69, 65]), (8, [69])] : List (Int × Str))).getD []))))) || (decide ((0 : Int) < (x3.e.length : Int)) && (!(wandererref_checkStmts_1_69 ((lk x3.kind ([(1, [78, 69]), (2, [78, 69, 70]), (3, [69]), (4, []), (5, [69]), (6, [69, 65, 66]), (7, [69, 65]), (8, [69])] : List (Int × Str))).getD []))))) == false) rfl rfl (fun q => r_move (v := (.func (.func 108) #[] #[(.pointer (some ⟨b23, 0, none⟩))])) rfl) (w_callH [(.pointer (some ⟨b23, 0, none⟩))] ((((!(lk x3.kind ([(1, [78, 69]), (2, [78, 69, 70]), (3, [69]), (4, []), (5, [69]), (6, [69, 65, 66]), (7, [69, 65]), (8, [69])] : List (Int × Str))).isSome) || (decide ((x3.n : Int) ≠ 0) && (!(wandererref_checkStmts_1_78 ((lk x3.kind ([(1, [78, 69]), (2, [78, 69, 70]), (3, [69]), (4, []), (5, [69]), (6, [69, 65, 66]), (7, [69, 65]), (8, [69])] : List (Int × Str))).getD []))))) || (decide ((0 : Int) < (x3.e.length : Int)) && (!(wandererref_checkStmts_1_69 ((lk x3.kind ([(1, [78, 69]), (2, [78, 69, 70]), (3, [69]), (4, []), (5, [69]), (6, [69, 65, 66]), (7, [69, 65]), (8, [69])] : List (Int × Str))).getD []))))) == false) rfl rfl fnOk108 (fun q => (gvt q)) (fun q => la_cons rfl rfl) (wandererref_checkStmts_1_70_c _ _ h.lt ((lk x3.kind ([(1, [78, 69]), (2, [78, 69, 70]), (3, [69]), (4, []), (5, [69]), (6, [69, 65, 66]), (7, [69, 65]), (8, [69])] : List (Int × Str))).getD []) b23 (h.blkAt 10 rfl) _ rfl) fun w k26 => ?_))))))))))
    replace h := h.grow k26
    refine wl_gd ((((!(lk x3.kind ([(1, [78, 69]), (2, [78, 69, 70]), (3, [69]), (4, []), (5, [69]), (6, [69, 65, 66]), (7, [69, 65]), (8, [69])] : List (Int × Str))).isSome) || (decide ((x3.n : Int) ≠ 0) && (!(wandererref_checkStmts_1_78 ((lk x3.kind ([(1, [78, 69]), (2, [78, 69, 70]), (3, [69]), (4, []), (5, [69]), (6, [69, 65, 66]), (7, [69, 65]), (8, [69])] : List (Int × Str))).getD []))))) || (decide ((0 : Int) < (x3.e.length : Int)) && (!(wandererref_checkStmts_1_69 ((lk x3.kind ([(1, [78, 69]), (2, [78, 69, 70]), (3, [69]), (4, []), (5, [69]), (6, [69, 65, 66]), (7, [69, 65]), (8, [69])] : List (Int × Str))).getD []))))) == false) rfl rfl (fun q => r_notb (gvt q)) (wl_gd0 rfl rfl (fun q => r_pand (gvt q) (gvn q) evc) (wl_ok (r_por rfl rfl evc) (wl_ok (r_move (v := (.bool (((((!(lk x3.kind ([(1, [78, 69]), (2, [78, 69, 70]), (3, [69]), (4, []), (5, [69]), (6, [69, 65, 66]), (7, [69, 65]), (8, [69])] : List (Int × Str))).isSome) || (decide ((x3.n : Int) ≠ 0) && (!(wandererref_checkStmts_1_78 ((lk x3.kind ([(1, [78, 69]), (2, [78, 69, 70]), (3, [69]), (4, []), (5, [69]), (6, [69, 65, 66]), (7, [69, 65]), (8, [69])] : List (Int × Str))).getD []))))) || (decide ((0 : Int) < (x3.e.length : Int)) && (!(wandererref_checkStmts_1_69 ((lk x3.kind ([(1, [78, 69]), (2, [78, 69, 70]), (3, [69]), (4, []), (5, [69]), (6, [69, 65, 66]), (7, [69, 65]), (8, [69])] : List (Int × Str))).getD []))))) || (decide ((0 : Int) < (x3.f.length : Int)) && (!(wandererref_checkStmts_1_70 ((lk x3.kind ([(1, [78, 69]), (2, [78, 69, 70]), (3, [69]), (4, []), (5, [69]), (6, [69, 65, 66]), (7, [69, 65]), (8, [69])] : List (Int × Str))).getD [])))))))) rfl) (wl_gd0 rfl rfl (fun q => r_fieldAddr Fld82x4 rfl) (wl_gd0 rfl rfl (fun q => r_ldB h 8 rfl One76 (gvt q) rfl) (wl_gd0 rfl rfl (fun q => r_len SliceOf76 (gvt q) (h.rdS 6 rfl)) (wl_gd0 rfl rfl (fun q => r_gtr (gvt q) rfl) (wl_gd0 rfl rfl (fun q => r_move (v := (.bool (decide ((0 : Int) < (x3.a.length : Int))))) (gvt q)) (wl_gd (((((!(lk x3.kind ([(1, [78, 69]), (2, [78, 69, 70]), (3, [69]), (4, []), (5, [69]), (6, [69, 65, 66]), (7, [69, 65]), (8, [69])] : List (Int × Str))).isSome) || (decide ((x3.n : Int) ≠ 0) && (!(wandererref_checkStmts_1_78 ((lk x3.kind ([(1, [78, 69]), (2, [78, 69, 70]), (3, [69]), (4, []), (5, [69]), (6, [69, 65, 66]), (7, [69, 65]), (8, [69])] : List (Int × Str))).getD []))))) || (decide ((0 : Int) < (x3.e.length : Int)) && (!(wandererref_checkStmts_1_69 ((lk x3.kind ([(1, [78, 69]), (2, [78, 69, 70]), (3, [69]), (4, []), (5, [69]), (6, [69, 65, 66]), (7, [69, 65]), (8, [69])] : List (Int × Str))).getD []))))) || (decide ((0 : Int) < (x3.f.length : Int)) && (!(wandererref_checkStmts_1_70 ((lk x3.kind ([(1, [78, 69]), (2, [78, 69, 70]), (3, [69]), (4, []), (5, [69]), (6, [69, 65, 66]), (7, [69, 65]), (8, [69])] : List (Int × Str))).getD []))))) == false) rfl rfl (fun q => r_move (v := (.func (.func 108) #[] #[(.pointer (some ⟨b23, 0, none⟩))])) rfl) (w_callH [(.pointer (some ⟨b23, 0, none⟩))] (((((!(lk x3.kind ([(1, [78, 69]), (2, [78, 69, 70]), (3, [69]), (4, []), (5, [69]), (6, [69, 65, 66]), (7, [69, 65]), (8, [69])] : List (Int × Str))).isSome) || (decide ((x3.n : Int) ≠ 0) && (!(wandererref_checkStmts_1_78 ((lk x3.kind ([(1, [78, 69]), (2, [78, 69, 70]), (3, [69]), (4, []), (5, [69]), (6, [69, 65, 66]), (7, [69, 65]), (8, [69])] : List (Int × Str))).getD []))))) || (decide ((0 : Int) < (x3.e.length : Int)) && (!(wandererref_checkStmts_1_69 ((lk x3.kind ([(1, [78, 69]), (2, [78, 69, 70]), (3, [69]), (4, []), (5, [69]), (6, [69, 65, 66]), (7, [69, 65]), (8, [69])] : List (Int × Str))).getD []))))) || (decide ((0 : Int) < (x3.f.length : Int)) && (!(wandererref_checkStmts_1_70 ((lk x3.kind ([(1, [78, 69]), (2, [78, 69, 70]), (3, [69]), (4, []), (5, [69]), (6, [69, 65, 66]), (7, [69, 65]), (8, [69])] : List (Int × Str))).getD []))))) == false) rfl rfl fnOk108 (fun q => (gvt q)) (fun q => la_cons rfl rfl) (wandererref_checkStmts_1_65_c _ _ h.lt ((lk x3.kind ([(1, [78, 69]), (2, [78, 69, 70]), (3, [69]), (4, []), (5, [69]), (6, [69, 65, 66]), (7, [69, 65]), (8, [69])] : List (Int × Str))).getD []) b23 (h.blkAt 10 rfl) _ rfl) fun w k27 => ?_))))))))))
    replace h := h.grow k27
    refine wl_gd (((((!(lk x3.kind ([(1, [78, 69]), (2, [78, 69, 70]), (3, [69]), (4, []), (5, [69]), (6, [69, 65, 66]), (7, [69, 65]), (8, [69])] : List (Int × Str))).isSome) || (decide ((x3.n : Int) ≠ 0) && (!(wandererref_checkStmts_1_78 ((lk x3.kind ([(1, [78, 69]), (2, [78, 69, 70]), (3, [69]), (4, []), (5, [69]), (6, [69, 65, 66]), (7, [69, 65]), (8, [69])] : List (Int × Str))).getD []))))) || (decide ((0 : Int) < (x3.e.length : Int)) && (!(wandererref_checkStmts_1_69 ((lk x3.kind ([(1, [78, 69]), (2, [78, 69, 70]), (3, [69]), (4, []), (5, [69]), (6, [69, 65, 66]), (7, [69, 65]), (8, [69])] : List (Int × Str))).getD []))))) || (decide ((0 : Int) < (x3.f.length : Int)) && (!(wandererref_checkStmts_1_70 ((lk x3.kind ([(1, [78, 69]), (2, [78, 69, 70]), (3, [69]), (4, []), (5, [69]), (6, [69, 65, 66]), (7, [69, 65]), (8, [69])] : List (Int × Str))).getD []))))) == false) rfl rfl (fun q => r_notb (gvt q)) (wl_gd0 rfl rfl (fun q => r_pand (gvt q) (gvn q) evc) (wl_ok (r_por rfl rfl evc) (wl_ok (r_move (v := (.bool ((((((!(lk x3.kind ([(1, [78, 69]), (2, [78, 69, 70]), (3, [69]), (4, []), (5, [69]), (6, [69, 65, 66]), (7, [69, 65]), (8, [69])] : List (Int × Str))).isSome) || (decide ((x3.n : Int) ≠ 0) && (!(wandererref_checkStmts_1_78 ((lk x3.kind ([(1, [78, 69]), (2, [78, 69, 70]), (3, [69]), (4, []), (5, [69]), (6, [69, 65, 66]), (7, [69, 65]), (8, [69])] : List (Int × Str))).getD []))))) || (decide ((0 : Int) < (x3.e.length : Int)) && (!(wandererref_checkStmts_1_69 ((lk x3.kind ([(1, [78, 69]), (2, [78, 69, 70]), (3, [69]), (4, []), (5, [69]), (6, [69, 65, 66]), (7, [69, 65]), (8, [69])] : List (Int × Str))).getD []))))) || (decide ((0 : Int) < (x3.f.length : Int)) && (!(wandererref_checkStmts_1_70 ((lk x3.kind ([(1, [78, 69]), (2, [78, 69, 70]), (3, [69]), (4, []), (5, [69]), (6, [69, 65, 66]), (7, [69, 65]), (8, [69])] : List (Int × Str))).getD []))))) || (decide ((0 : Int) < (x3.a.length : Int)) && (!(wandererref_checkStmts_1_65 ((lk x3.kind ([(1, [78, 69]), (2, [78, 69, 70]), (3, [69]), (4, []), (5, [69]), (6, [69, 65, 66]), (7, [69, 65]), (8, [69])] : List (Int × Str))).getD [])))))))) rfl) (wl_gd0 rfl rfl (fun q => r_fieldAddr Fld82x5 rfl) (wl_gd0 rfl rfl (fun q => r_ldB h 8 rfl One76 (gvt q) rfl) (wl_gd0 rfl rfl (fun q => r_len SliceOf76 (gvt q) (h.rdS 7 rfl)) (wl_gd0 rfl rfl (fun q => r_gtr (gvt q) rfl) (wl_gd0 rfl rfl (fun q => r_move (v := (.bool (decide ((0 : Int) < (x3.b.length : Int))))) (gvt q)) (wl_gd ((((((!(lk x3.kind ([(1, [78, 69]), (2, [78, 69, 70]), (3, [69]), (4, []), (5, [69]), (6, [69, 65, 66]), (7, [69, 65]), (8, [69])] : List (Int × Str))).isSome) || (decide ((x3.n : Int) ≠ 0) && (!(wandererref_checkStmts_1_78 ((lk x3.kind ([(1, [78, 69]), (2, [78, 69, 70]), (3, [69]), (4, []), (5, [69]), (6, [69, 65, 66]), (7, [69, 65]), (8, [69])] : List (Int × Str))).getD []))))) || (decide ((0 : Int) < (x3.e.length : Int)) && (!(wandererref_checkStmts_1_69 ((lk x3.kind ([(1, [78, 69]), (2, [78, 69, 70]), (3, [69]), (4, []), (5, [69]), (6, [69, 65, 66]), (7, [69, 65]), (8, [69])] : List (Int × Str))).getD []))))) || (decide ((0 : Int) < (x3.f.length : Int)) && (!(wandererref_checkStmts_1_70 ((lk x3.kind ([(1, [78, 69]), (2, [78, 69, 70]), (3, [69]), (4, []), (5, [69]), (6, [69, 65, 66]), (7, [69, 65]), (8, [69])] : List (Int × Str))).getD []))))) || (decide ((0 : Int) < (x3.a.length : Int)) && (!(wandererref_checkStmts_1_65 ((lk x3.kind ([(1, [78, 69]), (2, [78, 69, 70]), (3, [69]), (4, []), (5, [69]), (6, [69, 65, 66]), (7, [69, 65]), (8, [69])] : List (Int × Str))).getD []))))) == false) rfl rfl (fun q => r_move (v := (.func (.func 108) #[] #[(.pointer (some ⟨b23, 0, none⟩))])) rfl) (w_callH [(.pointer (some ⟨b23, 0, none⟩))] ((((((!(lk x3.kind ([(1, [78, 69]), (2, [78, 69, 70]), (3, [69]), (4, []), (5, [69]), (6, [69, 65, 66]), (7, [69, 65]), (8, [69])] : List (Int × Str))).isSome) || (decide ((x3.n : Int) ≠ 0) && (!(wandererref_checkStmts_1_78 ((lk x3.kind ([(1, [78, 69]), (2, [78, 69, 70]), (3, [69]), (4, []), (5, [69]), (6, [69, 65, 66]), (7, [69, 65]), (8, [69])] : List (Int × Str))).getD []))))) || (decide ((0 : Int) < (x3.e.length : Int)) && (!(wandererref_checkStmts_1_69 ((lk x3.kind ([(1, [78, 69]), (2, [78, 69, 70]), (3, [69]), (4, []), (5, [69]), (6, [69, 65, 66]), (7, [69, 65]), (8, [69])] : List (Int × Str))).getD []))))) || (decide ((0 : Int) < (x3.f.length : Int)) && (!(wandererref_checkStmts_1_70 ((lk x3.kind ([(1, [78, 69]), (2, [78, 69, 70]), (3, [69]), (4, []), (5, [69]), (6, [69, 65, 66]), (7, [69, 65]), (8, [69])] : List (Int × Str))).getD []))))) || (decide ((0 : Int) < (x3.a.length : Int)) && (!(wandererref_checkStmts_1_65 ((lk x3.kind ([(1, [78, 69]), (2, [78, 69, 70]), (3, [69]), (4, []), (5, [69]), (6, [69, 65, 66]), (7, [69, 65]), (8, [69])] : List (Int × Str))).getD []))))) == false) rfl rfl fnOk108 (fun q => (gvt q)) (fun q => la_cons rfl rfl) (wandererref_checkStmts_1_66_c _ _ h.lt ((lk x3.kind ([(1, [78, 69]), (2, [78, 69, 70]), (3, [69]), (4, []), (5, [69]), (6, [69, 65, 66]), (7, [69, 65]), (8, [69])] : List (Int × Str))).getD []) b23 (h.blkAt 10 rfl) _ rfl) fun w k28 => ?_))))))))))
    replace h := h.grow k28
    refine wl_gd ((((((!(lk x3.kind ([(1, [78, 69]), (2, [78, 69, 70]), (3, [69]), (4, []), (5, [69]), (6, [69, 65, 66]), (7, [69, 65]), (8, [69])] : List (Int × Str))).isSome) || (decide ((x3.n : Int) ≠ 0) && (!(wandererref_checkStmts_1_78 ((lk x3.kind ([(1, [78, 69]), (2, [78, 69, 70]), (3, [69]), (4, []), (5, [69]), (6, [69, 65, 66]), (7, [69, 65]), (8, [69])] : List (Int × Str))).getD []))))) || (decide ((0 : Int) < (x3.e.length : Int)) && (!(wandererref_checkStmts_1_69 ((lk x3.kind ([(1, [78, 69]), (2, [78, 69, 70]), (3, [69]), (4, []), (5, [69]), (6, [69, 65, 66]), (7, [69, 65]), (8, [69])] : List (Int × Str))).getD []))))) || (decide ((0 : Int) < (x3.f.length : Int)) && (!(wandererref_checkStmts_1_70 ((lk x3.kind ([(1, [78, 69]), (2, [78, 69, 70]), (3, [69]), (4, []), (5, [69]), (6, [69, 65, 66]), (7, [69, 65]), (8, [69])] : List (Int × Str))).getD []))))) || (decide ((0 : Int) < (x3.a.length : Int)) && (!(wandererref_checkStmts_1_65 ((lk x3.kind ([(1, [78, 69]), (2, [78, 69, 70]), (3, [69]), (4, []), (5, [69]), (6, [69, 65, 66]), (7, [69, 65]), (8, [69])] : List (Int × Str))).getD []))))) == false) rfl rfl (fun q => r_notb (gvt q)) (wl_gd0 rfl rfl (fun q => r_pand (gvt q) (gvn q) evc) (wl_ok (r_por rfl rfl evc) (wl_nil (then_normal (wc_ifb hs rfl (fun c29 hs => ?_) (fun c29 hs => ?_))))))
    ·
     refine wc_seq (wc_region (wl_ok (r_assign (v := (.int .i64 (4))) rfl) (wl_nil (then_normal (wc_ret (then_ret (inBlock_ret (then_ret (then_ret (inBlock_ret (then_ret (fin1 (v := (.int .i64 (4))) Try.results86 rfl ?_))))))))))))
     obtain rfl := Option.some.inj hs
     exact ⟨h.grown, rfl⟩
    ·
     refine wc_skip (then_normal (wc_seq (wc_seq (wc_region (wl_ok (r_fieldAddr Fld82x0 rfl) (wl_ok (r_ldB h 8 rfl One3 rfl rfl) (wl_ok (r_eql rfl rfl) (wl_ok (r_move (v := (.bool (decide ((x3.kind : Int) = 1)))) rfl) (wl_gd0 rfl rfl (fun q => r_fieldAddr Fld82x1 rfl) (wl_gd0 rfl rfl (fun q => r_ldB h 8 rfl One3 (gvt q) rfl) (wl_gd0 rfl rfl (fun q => r_move (v := (.int .i64 (c))) rfl) (w_callG0 rfl rfl fnOk69 rfl (fun q => la_cons (gvt q) (la_cons (gvt q) rfl)) (wandererref_below_c _ _ h.lt x3.n c _ rfl) fun w k30 => ?_))))))))))))
     replace h := h.grow k30
     refine wl_gd0 rfl rfl (fun q => r_notb (gvt q)) (wl_ok (r_pand rfl rfl evc) (wl_ok (r_move (v := (.bool ((decide ((x3.kind : Int) = 1) && (!(wandererref_below x3.n c)))))) rfl) (wl_gd0 rfl rfl (fun q => r_fieldAddr Fld82x0 rfl) (wl_gd0 rfl rfl (fun q => r_ldB h 8 rfl One3 (gvt q) rfl) (wl_gd0 rfl rfl (fun q => r_eql (gvt q) rfl) (wl_gd0 rfl rfl (fun q => r_move (v := (.bool (decide ((x3.kind : Int) = 2)))) (gvt q)) (wl_gd ((decide ((x3.kind : Int) = 1) && (!(wandererref_below x3.n c))) == false) rfl rfl (fun q => r_fieldAddr Fld82x1 rfl) (wl_gd ((decide ((x3.kind : Int) = 1) && (!(wandererref_below x3.n c))) == false) rfl rfl (fun q => r_ldB h 8 rfl One3 (gvt q) rfl) (w_callG ((decide ((x3.kind : Int) = 1) && (!(wandererref_below x3.n c))) == false) rfl rfl fnOk64 rfl (fun q => la_cons (gvt q) (la_cons rfl (la_cons rfl rfl))) (wandererref_in_c _ _ h.lt x3.n 0 3 _ rfl) fun w k31 => ?_)))))))))
     replace h := h.grow k31
     refine wl_gd ((decide ((x3.kind : Int) = 1) && (!(wandererref_below x3.n c))) == false) rfl rfl (fun q => r_notb (gvt q)) (wl_gd0 rfl rfl (fun q => r_pand (gvt q) (gvn q) evc) (wl_ok (r_por rfl rfl evc) (wl_nil (then_normal (wc_ifb hs rfl (fun c32 hs => ?_) (fun c32 hs => ?_))))))
     ·
      refine wc_seq (wc_region (wl_ok (r_assign (v := (.int .i64 (3))) rfl) (wl_nil (then_normal (wc_ret (then_ret (inBlock_ret (then_ret (then_ret (inBlock_ret (then_ret (fin1 (v := (.int .i64 (3))) Try.results86 rfl ?_))))))))))))
      obtain rfl := Option.some.inj hs
      exact ⟨h.grown, rfl⟩
     ·
      refine wc_skip (then_normal (wc_seq (wc_region (wl_ok (r_assign (v := (.int .i64 (0))) rfl) (wl_nil (then_normal (wc_join (σ := Int) (inl [12, 105, 106, 107, 108, 109, 110, 111]) (fun x33 => [(12, (.int .i64 (x33)))]) (fun x33 w => SH w0 M BE w (hset [(1, .sr rStmt va a), (2, .sr rFun vb b), (4, .rd rTok u13 x3.e), (5, .rd rTok u15 x3.f), (6, .rd rStmt u17 x3.a), (7, .rd rStmt u19 x3.b), (8, .blk b21 [(.int .i64 (x3.kind)), (.int .i64 (x3.n)), u13, u15, u17, u19]), (10, .blk b23 [(strV ((lk x3.kind ([(1, [78, 69]), (2, [78, 69, 70]), (3, [69]), (4, []), (5, [69]), (6, [69, 65, 66]), (7, [69, 65]), (8, [69])] : List (Int × Str))).getD []))])]) ∧ wandererref_checkStmts_j31 N F0 x3 b c a nx5 x33 = some r) ?_ ?_)))))))
      ·
       rintro x33 w junk ⟨h, hs⟩
       refine wc_join (σ := Int) (inl [12, 112, 113, 114, 115, 116, 117, 118, 119, 120, 121, 122]) (fun x34 => [(12, (.int .i64 (x34))), (115, (gv (decide ((x33 : Int) = 0) == true) (.func (.func 108) #[] #[(.pointer (some ⟨b23, 0, none⟩))]))), (116, (gv (decide ((x33 : Int) = 0) == true) (.bool ((wandererref_checkStmts_1_70 ((lk x3.kind ([(1, [78, 69]), (2, [78, 69, 70]), (3, [69]), (4, []), (5, [69]), (6, [69, 65, 66]), (7, [69, 65]), (8, [69])] : List (Int × Str))).getD []))))))]) (fun x34 w => SH w0 M BE w (hset [(1, .sr rStmt va a), (2, .sr rFun vb b), (4, .rd rTok u13 x3.e), (5, .rd rTok u15 x3.f), (6, .rd rStmt u17 x3.a), (7, .rd rStmt u19 x3.b), (8, .blk b21 [(.int .i64 (x3.kind)), (.int .i64 (x3.n)), u13, u15, u17, u19]), (10, .blk b23 [(strV ((lk x3.kind ([(1, [78, 69]), (2, [78, 69, 70]), (3, [69]), (4, []), (5, [69]), (6, [69, 65, 66]), (7, [69, 65]), (8, [69])] : List (Int × Str))).getD []))])]) ∧ wandererref_checkStmts_j32 F0 x3 a b c nx5 x34 = some r) ?_ ?_
       ·
        rintro x34 w junk ⟨h, hs⟩
        refine wc_join (σ := Int) (inl [12, 123, 124, 125, 126, 127, 128, 129]) (fun x35 => [(12, (.int .i64 (x35)))]) (fun x35 w => SH w0 M BE w (hset [(1, .sr rStmt va a), (2, .sr rFun vb b), (4, .rd rTok u13 x3.e), (5, .rd rTok u15 x3.f), (6, .rd rStmt u17 x3.a), (7, .rd rStmt u19 x3.b), (8, .blk b21 [(.int .i64 (x3.kind)), (.int .i64 (x3.n)), u13, u15, u17, u19]), (10, .blk b23 [(strV ((lk x3.kind ([(1, [78, 69]), (2, [78, 69, 70]), (3, [69]), (4, []), (5, [69]), (6, [69, 65, 66]), (7, [69, 65]), (8, [69])] : List (Int × Str))).getD []))])]) ∧ wandererref_checkStmts_j33 F0 x3 b c nx5 x35 = some r) ?_ ?_
        ·
         rintro x35 w junk ⟨h, hs⟩
         refine wc_join (σ := Int) (inl [12, 130, 131, 132, 133, 134, 135, 136]) (fun x36 => [(12, (.int .i64 (x36)))]) (fun x36 w => SH w0 M BE w (hset [(1, .sr rStmt va a), (2, .sr rFun vb b), (4, .rd rTok u13 x3.e), (5, .rd rTok u15 x3.f), (6, .rd rStmt u17 x3.a), (7, .rd rStmt u19 x3.b), (8, .blk b21 [(.int .i64 (x3.kind)), (.int .i64 (x3.n)), u13, u15, u17, u19]), (10, .blk b23 [(strV ((lk x3.kind ([(1, [78, 69]), (2, [78, 69, 70]), (3, [69]), (4, []), (5, [69]), (6, [69, 65, 66]), (7, [69, 65]), (8, [69])] : List (Int × Str))).getD []))])]) ∧ wandererref_checkStmts_j34 nx5 x36 = some r) ?_ ?_
         ·
          rintro x36 w junk ⟨h, hs⟩
          refine wc_seq (wc_region (wl_ok (r_move (v := (.int .i64 (x36))) rfl) (wl_ok (r_neq rfl rfl) (wl_nil (then_normal (wc_ifb hs rfl (fun c37 hs => ?_) (fun c37 hs => ?_)))))))
          ·
           refine wc_seq (wc_region (wl_ok (r_move (v := (.int .i64 (x36))) rfl) (wl_ok (r_assign (v := (.int .i64 (x36))) rfl) (wl_nil (then_normal (wc_ret (inBlock_ret (then_ret (then_ret (inBlock_ret (then_ret (fin1 (v := (.int .i64 (x36))) Try.results86 rfl ?_))))))))))))
           obtain rfl := Option.some.inj hs
           exact ⟨h.grown, rfl⟩
          ·
           refine wc_skip (inBlock_normal (then_normal (wc_region (wl_ok (r_add rfl rfl e7r) (wl_ok (r_move (v := (.int .i64 ((i2 + 1)))) rfl) (wl_nil (then_loop ?_)))))))
           subst hnx5
           exact lend ⟨k1 + 1, i2 + 1⟩ ⟨h.cn _, by omega, hs⟩ (by have := of_decide_eq_true e6; dsimp only; omega)
         ·
          refine wc_seq (wc_region (wl_ok (r_move (v := (.int .i64 (x35))) rfl) (wl_ok (r_eql rfl rfl) (wl_nil (then_normal (wc_ifb hs rfl (fun c38 hs => ?_) (fun c38 hs => ?_)))))))
          ·
           refine wc_region (wl_ok (r_fieldAddr Fld82x5 rfl) (wl_ok (r_ldB h 8 rfl One76 rfl rfl) (wl_ok (r_move (v := vb) rfl) (wl_ok (r_move (v := (.int .i64 (c))) rfl) ?_))))
           obtain ⟨y39, e40, hs⟩ := o_bind hs
           refine w_call fnOk86 rfl rfl (ih _ _ h.lt u19 x3.b (h.rdS 7 rfl) vb b (h.srS 2 rfl) c _ e40) ?_
           rintro _ w ⟨k41, rfl⟩
           refine ⟨_, rfl, ?_⟩
           replace h := h.grow k41
           refine wl_ok (r_assign (v := (.int .i64 (y39))) rfl) (wl_nil (then_loop ?_))
           exact jend y39 ⟨h.cn _, hs⟩
          ·
           refine wc_skip (then_loop ?_)
           exact jend x35 ⟨h.cn _, hs⟩
        ·
         refine wc_seq (wc_region (wl_ok (r_move (v := (.int .i64 (x34))) rfl) (wl_ok (r_eql rfl rfl) (wl_nil (then_normal (wc_ifb hs rfl (fun c42 hs => ?_) (fun c42 hs => ?_)))))))
         ·
          refine wc_region (wl_ok (r_fieldAddr Fld82x4 rfl) (wl_ok (r_ldB h 8 rfl One76 rfl rfl) (wl_ok (r_move (v := vb) rfl) (wl_ok (r_move (v := (.int .i64 (c))) rfl) ?_))))
          obtain ⟨y43, e44, hs⟩ := o_bind hs
          refine w_call fnOk86 rfl rfl (ih _ _ h.lt u17 x3.a (h.rdS 6 rfl) vb b (h.srS 2 rfl) c _ e44) ?_
          rintro _ w ⟨k45, rfl⟩
          refine ⟨_, rfl, ?_⟩
          replace h := h.grow k45
          refine wl_ok (r_assign (v := (.int .i64 (y43))) rfl) (wl_nil (then_loop ?_))
          exact jend y43 ⟨h.cn _, hs⟩
         ·
          refine wc_skip (then_loop ?_)
          exact jend x34 ⟨h.cn _, hs⟩
       ·
        refine wc_seq (wc_region (wl_ok (r_move (v := (.int .i64 (x33))) rfl) (wl_ok (r_eql rfl rfl) (wl_ok (r_move (v := (.bool (decide ((x33 : Int) = 0)))) rfl) (wl_gd0 rfl rfl (fun q => r_move (v := (.func (.func 108) #[] #[(.pointer (some ⟨b23, 0, none⟩))])) rfl) (w_callH0 [(.pointer (some ⟨b23, 0, none⟩))] rfl rfl fnOk108 (fun q => (gvt q)) (fun q => la_cons rfl rfl) (wandererref_checkStmts_1_70_c _ _ h.lt ((lk x3.kind ([(1, [78, 69]), (2, [78, 69, 70]), (3, [69]), (4, []), (5, [69]), (6, [69, 65, 66]), (7, [69, 65]), (8, [69])] : List (Int × Str))).getD []) b23 (h.blkAt 10 rfl) _ rfl) fun w k46 => ?_))))))
        replace h := h.grow k46
        refine wl_ok (r_pand rfl rfl evc) (wl_nil (then_normal (wc_ifb hs rfl (fun c47 hs => ?_) (fun c47 hs => ?_))))
        ·
         refine wc_region (wl_ok (r_fieldAddr Fld82x3 rfl) (wl_ok (r_ldB h 8 rfl One71 rfl rfl) (wl_ok (r_move (v := vb) rfl) (wl_ok (r_move (v := (.int .i64 (c))) rfl) ?_))))
         obtain ⟨y48, e49, hs⟩ := o_bind hs
         refine w_call fnOk49 rfl rfl (wandererref_CheckExpr_c N _ _ h.lt u15 x3.f (h.rdS 5 rfl) vb b (h.srS 2 rfl) c _ e49) ?_
         rintro _ w ⟨k50, rfl⟩
         refine ⟨_, rfl, ?_⟩
         replace h := h.grow k50
         refine wl_ok (r_assign (v := (.int .i64 (y48))) rfl) (wl_nil (then_loop ?_))
         exact jend y48 ⟨h.cn _, hs⟩
        ·
         refine wc_skip (then_loop ?_)
         exact jend x33 ⟨h.cn _, hs⟩
      ·
       refine wc_seq (wc_region (wl_ok (r_move (v := (.func (.func 108) #[] #[(.pointer (some ⟨b23, 0, none⟩))])) rfl) (w_callIn (args := [(strV [69]), (.pointer (some ⟨b23, 0, none⟩))]) fnOk108 rfl rfl (calls_start (args := [(strV [69]), (.pointer (some ⟨b23, 0, none⟩))]) Try.func108 rfl Try.ntmps108 (Nat.le_of_ble_eq_true rfl) (wc_seq (wc_region (wl_ok (r_assign (v := (.bool (false))) rfl) (wl_nil (then_normal (wc_seq (wc_region (wl_ok (r_ldB h 10 rfl One9 rfl rfl) (wl_ok (r_move (v := (strV [69])) rfl) (w_call fnOk109 rfl rfl (strings_Contains_c _ _ h.lt ((lk x3.kind ([(1, [78, 69]), (2, [78, 69, 70]), (3, [69]), (4, []), (5, [69]), (6, [69, 65, 66]), (7, [69, 65]), (8, [69])] : List (Int × Str))).getD []) 69 _ rfl) ?_))))))))))))))
       rintro _ w ⟨k51, rfl⟩
       refine ⟨_, rfl, ?_⟩
       replace h := h.grow k51
       refine wl_ok (r_assign (v := (.bool ((hasB ((lk x3.kind ([(1, [78, 69]), (2, [78, 69, 70]), (3, [69]), (4, []), (5, [69]), (6, [69, 65, 66]), (7, [69, 65]), (8, [69])] : List (Int × Str))).getD []) 69)))) rfl) (wl_nil (then_normal (wc_ret (fin1 (v := (.bool ((hasB ((lk x3.kind ([(1, [78, 69]), (2, [78, 69, 70]), (3, [69]), (4, []), (5, [69]), (6, [69, 65, 66]), (7, [69, 65]), (8, [69])] : List (Int × Str))).getD []) 69)))) Try.results108 rfl (⟨_, rfl, ?_⟩)))))
       refine wl_nil (then_normal (wc_ifb hs rfl (fun c52 hs => ?_) (fun c52 hs => ?_)))
       ·
        refine wc_region (wl_ok (r_fieldAddr Fld82x2 rfl) (wl_ok (r_ldB h 8 rfl One71 rfl rfl) (wl_ok (r_move (v := vb) rfl) (wl_ok (r_move (v := (.int .i64 (c))) rfl) ?_))))
        obtain ⟨y53, e54, hs⟩ := o_bind hs
        refine w_call fnOk49 rfl rfl (wandererref_CheckExpr_c N _ _ h.lt u13 x3.e (h.rdS 4 rfl) vb b (h.srS 2 rfl) c _ e54) ?_
        rintro _ w ⟨k55, rfl⟩
        refine ⟨_, rfl, ?_⟩
        replace h := h.grow k55
        refine wl_ok (r_assign (v := (.int .i64 (y53))) rfl) (wl_nil (then_loop ?_))
        exact jend y53 ⟨h.cn _, hs⟩
       ·
        refine wc_skip (then_loop ?_)
        exact jend 0 ⟨h.cn _, hs⟩
   ·
    rw [drop_ge (hik ▸ e6), each_nil] at hs
    refine wc_exit (then_exit (then_exit (inBlock_eq (then_normal (wc_seq (wc_region (wl_ok (r_assign (v := (.int .i64 (0))) rfl) (wl_nil (then_normal (wc_ret (fin1 (v := (.int .i64 (0))) Try.results86 rfl ?_)))))))))))
    obtain rfl := Option.some.inj hs
    exact ⟨h.grown, rfl⟩
def wandererref_CheckSource_b5 (N : Nat) (a : List Fun) (x23 : Fun) (s : Unit) (nx25 : Unit → Option Int) : Option Int :=
  (wandererref_sized N x23.body 4).bind fun y36 => bif (!y36.2) then some 2 else (wandererref_checkStmts N x23.body a x23.locals).bind fun y40 => bif decide ((y40 : Int) ≠ 0) then some y40 else nx25 ()
def wandererref_CheckSource_k6 (s : Unit) : Option Int :=
  some 0
def wandererref_CheckSource_b7 (i4 : Int) (x5 : Fun) (s : Unit) (nx7 : Unit → Option Int) : Option Int :=
  bif (((!(wandererref_in x5.params 0 3)) || (!(wandererref_in x5.locals x5.params 6))) || (decide ((i4 : Int) = 0) && decide ((x5.params : Int) ≠ 0))) then some 3 else nx7 ()
def wandererref_CheckSource_k8 (N : Nat) (a : List Fun) (s : Unit) : Option Int :=
  each (wandererref_CheckSource_b5 N a) wandererref_CheckSource_k6 a ()
def wandererref_CheckSource (N : Nat) (a : List Fun) : Option Int :=
  bif (!(wandererref_in (a.length : Int) 1 4)) then some 2 else eachI wandererref_CheckSource_b7 (wandererref_CheckSource_k8 N a) 0 a ()
theorem wandererref_CheckSource_c (N : Nat) (w0 : World) (M : BS) (hM : ∀ b, M b → b < w0.heap.size) (va : Value) (a : List Fun) (ha : Rd2 rFun w0 BE M va a) (r : Int) (hs : wandererref_CheckSource N a = some r) :
    Calls Try.prog 45 #[va] w0 (fun e w' => Grow w0 w' ∧ e = .returned (.int .i64 r)) := by
 refine calls_start (args := [va]) Try.func45 rfl Try.ntmps45 (Nat.le_of_ble_eq_true rfl) ?_
 have h := SH.init hM
 replace h := h.argSr 1 ha none_own
 have hl_a := ha.len_le
 refine wc_seq (wc_region (wl_ok (r_assign (v := (.int .i64 (0))) rfl) (wl_nil (then_normal (wc_seq (wc_seq (wc_region (wl_ok (r_move (v := va) rfl) (wl_ok (r_len SliceOf70 rfl (h.srS 1 rfl)) (w_call fnOk64 rfl rfl (wandererref_in_c _ _ h.lt (a.length : Int) 1 4 _ rfl) ?_))))))))))
 rintro _ w ⟨k1, rfl⟩
 refine ⟨_, rfl, ?_⟩
 replace h := h.grow k1
 refine wl_ok (r_notb rfl) (wl_nil (then_normal (wc_ifb hs rfl (fun c2 hs => ?_) (fun c2 hs => ?_))))
 ·
  refine wc_seq (wc_region (wl_ok (r_assign (v := (.int .i64 (2))) rfl) (wl_nil (then_normal (wc_ret (then_ret (fin1 (v := (.int .i64 (2))) Try.results45 rfl ?_)))))))
  obtain rfl := Option.some.inj hs
  exact ⟨h.grown, rfl⟩
 ·
  refine wc_skip (then_normal (wc_seq (wc_seq (wc_region (wl_ok (r_move (v := va) rfl) (wl_ok (r_len SliceOf70 rfl (h.srS 1 rfl)) (wl_ok (r_move (v := (.int .i64 (0))) rfl) (wl_nil (then_normal (wc_block (wc_lp (σ := Nat × Int) (inl [2, 3, 4, 16, 17, 18, 19, 20, 21, 22, 23, 24, 25, 26, 27, 28, 29, 30, 31, 32, 33, 34, 35, 36, 37, 38, 39, 40, 41, 42]) (fun ⟨k3, i4⟩ => [(16, (.int .i64 (i4)))]) (fun ⟨k3, i4⟩ w => SH w0 M BE w (hset [(1, .sr rFun va a)]) ∧ i4 = (k3 : Int) ∧ eachI wandererref_CheckSource_b7 (wandererref_CheckSource_k8 N a) i4 (a.drop k3) () = some r) (fun ⟨k3, i4⟩ => a.length - k3) ⟨0, 0⟩ ⟨rfl, trivial⟩ ?_ ?_)))))))))))
  ·
   exact ⟨h.cn _, rfl, hs⟩
  ·
   rintro ⟨k3, i4⟩ w junk ⟨h, hik, hs⟩
   refine wc_seq (wc_region ?_)
   refine wl_ok (r_lss rfl rfl) (wl_nil (then_normal ?_))
   refine wc_seq (wc_if rfl (fun e8 => ?_) (fun e8 => ?_))
   ·
    refine wc_skip (then_normal ?_)
    obtain ⟨x5, e9a, e9b⟩ := drop_lt (hik ▸ e8)
    rw [e9b, eachI_cons] at hs
    generalize hnx7 : eachI wandererref_CheckSource_b7 (wandererref_CheckSource_k8 N a) (i4 + 1) (a.drop (k3 + 1)) = nx7 at hs
    have e9r := nat_rng ((h.srS 1 rfl)).len_le hik e8
    refine wc_seq (wc_block (wc_seq (wc_region (wl_ok (r_move (v := (.int .i64 (i4))) rfl) ?_))))
    obtain ⟨b11, o12, cs13, h, r14, i10⟩ := h.ixS 1 2 rfl SliceOf70 rfl (nat_nn hik) (get_nat hik e9a)
    obtain ⟨u15, rfl, g16⟩ := rFun_open r14
    replace h := h.knowRd 3 g16.up
    refine wl_ok (i10 _ _ _ _ _ _ _ _ _ rfl rfl) (wl_ok (r_ldPN (k := 0) (vs := [(.int .i64 (x5.params)), (.int .i64 (x5.locals)), u15]) h 2 rfl Many78 rfl rfl rfl (Nat.le_of_ble_eq_true rfl)) (w_allocN h 4 Many78 fun w b17 h => wl_ok (r_assign (v := (.int .i64 (i4))) rfl) (w_stN (vs := [(.int .i64 (x5.params)), (.int .i64 (x5.locals)), u15]) h 4 [(.int .i64 (x5.params)), (.int .i64 (x5.locals)), u15] rfl Many78 rfl rfl rfl rfl rfl (ones_cons rfl (ones_cons rfl (ones_cons (h.rdAt 3 rfl).one ones_nil))) fun w h => wl_nil (then_normal (wc_seq (wc_region (wl_ok (r_fieldAddr Fld78x0 rfl) (wl_ok (r_ldB h 4 rfl One3 rfl rfl) (w_call fnOk64 rfl rfl (wandererref_in_c _ _ h.lt x5.params 0 3 _ rfl) ?_)))))))))
    rintro _ w ⟨k18, rfl⟩
    refine ⟨_, rfl, ?_⟩
    replace h := h.grow k18
    refine wl_ok (r_notb rfl) (wl_ok (r_move (v := (.bool ((!(wandererref_in x5.params 0 3))))) rfl) (wl_gd0 rfl rfl (fun q => r_fieldAddr Fld78x1 rfl) (wl_gd0 rfl rfl (fun q => r_ldB h 4 rfl One3 (gvt q) rfl) (wl_gd0 rfl rfl (fun q => r_fieldAddr Fld78x0 rfl) (wl_gd0 rfl rfl (fun q => r_ldB h 4 rfl One3 (gvt q) rfl) (w_callG0 rfl rfl fnOk64 rfl (fun q => la_cons (gvt q) (la_cons (gvt q) (la_cons rfl rfl))) (wandererref_in_c _ _ h.lt x5.locals x5.params 6 _ rfl) fun w k19 => ?_))))))
    replace h := h.grow k19
    refine wl_gd0 rfl rfl (fun q => r_notb (gvt q)) (wl_ok (r_por rfl rfl evc) (wl_ok (r_move (v := (.bool (((!(wandererref_in x5.params 0 3)) || (!(wandererref_in x5.locals x5.params 6)))))) rfl) (wl_gd0 rfl rfl (fun q => r_move (v := (.int .i64 (i4))) rfl) (wl_gd0 rfl rfl (fun q => r_eql (gvt q) rfl) (wl_gd0 rfl rfl (fun q => r_move (v := (.bool (decide ((i4 : Int) = 0)))) (gvt q)) (wl_gd (((!(wandererref_in x5.params 0 3)) || (!(wandererref_in x5.locals x5.params 6))) == false) rfl rfl (fun q => r_fieldAddr Fld78x0 rfl) (wl_gd (((!(wandererref_in x5.params 0 3)) || (!(wandererref_in x5.locals x5.params 6))) == false) rfl rfl (fun q => r_ldB h 4 rfl One3 (gvt q) rfl) (wl_gd (((!(wandererref_in x5.params 0 3)) || (!(wandererref_in x5.locals x5.params 6))) == false) rfl rfl (fun q => r_neq (gvt q) rfl) (wl_gd0 rfl rfl (fun q => r_pand (gvt q) (gvn q) evc) (wl_ok (r_por rfl rfl evc) (wl_nil (then_normal (wc_ifb hs rfl (fun c20 hs => ?_) (fun c20 hs => ?_))))))))))))))
    ·
     refine wc_seq (wc_region (wl_ok (r_assign (v := (.int .i64 (3))) rfl) (wl_nil (then_normal (wc_ret (inBlock_ret (then_ret (then_ret (inBlock_ret (then_ret (fin1 (v := (.int .i64 (3))) Try.results45 rfl ?_)))))))))))
     obtain rfl := Option.some.inj hs
     exact ⟨h.grown, rfl⟩
    ·
     refine wc_skip (inBlock_normal (then_normal (wc_region (wl_ok (r_add rfl rfl e9r) (wl_ok (r_move (v := (.int .i64 ((i4 + 1)))) rfl) (wl_nil (then_loop ?_)))))))
     subst hnx7
     exact lend ⟨k3 + 1, i4 + 1⟩ ⟨h.cn _, by omega, hs⟩ (by have := of_decide_eq_true e8; dsimp only; omega)
   ·
    rw [drop_ge (hik ▸ e8), eachI_nil] at hs
    refine wc_exit (then_exit (then_exit (inBlock_eq (then_normal (wc_seq (wc_seq (wc_region (wl_ok (r_move (v := va) rfl) (wl_ok (r_len SliceOf70 rfl (h.srS 1 rfl)) (wl_ok (r_move (v := (.int .i64 (0))) rfl) (wl_nil (then_normal (wc_block (wc_lp (σ := Nat × Int) (inl [2, 6, 7, 8, 9, 45, 46, 47, 48, 49, 50, 51, 52, 53, 54, 55, 56, 57, 58, 59, 60, 61, 62, 63, 64, 65, 66]) (fun ⟨k21, i22⟩ => [(45, (.int .i64 (i22)))]) (fun ⟨k21, i22⟩ w => SH w0 M BE w (hset [(1, .sr rFun va a)]) ∧ i22 = (k21 : Int) ∧ each (wandererref_CheckSource_b5 N a) wandererref_CheckSource_k6 (a.drop k21) () = some r) (fun ⟨k21, i22⟩ => a.length - k21) ⟨0, 0⟩ ⟨rfl, trivial⟩ ?_ ?_))))))))))))))
    ·
     exact ⟨h.cn _, rfl, hs⟩
    ·
     rintro ⟨k21, i22⟩ w junk ⟨h, hik, hs⟩
     refine wc_seq (wc_region ?_)
     refine wl_ok (r_lss rfl rfl) (wl_nil (then_normal ?_))
     refine wc_seq (wc_if rfl (fun e26 => ?_) (fun e26 => ?_))
     ·
      refine wc_skip (then_normal ?_)
      obtain ⟨x23, e27a, e27b⟩ := drop_lt (hik ▸ e26)
      rw [e27b, each_cons] at hs
      generalize hnx25 : each (wandererref_CheckSource_b5 N a) wandererref_CheckSource_k6 (a.drop (k21 + 1)) = nx25 at hs
      have e27r := nat_rng ((h.srS 1 rfl)).len_le hik e26
      refine wc_seq (wc_block (wc_seq (wc_region ?_)))
      obtain ⟨b29, o30, cs31, h, r32, i28⟩ := h.ixS 1 5 rfl SliceOf70 rfl (nat_nn hik) (get_nat hik e27a)
      obtain ⟨u33, rfl, g34⟩ := rFun_open r32
      replace h := h.knowRd 6 g34.up
      refine wl_ok (i28 _ _ _ _ _ _ _ _ _ rfl rfl) (wl_ok (r_ldPN (k := 0) (vs := [(.int .i64 (x23.params)), (.int .i64 (x23.locals)), u33]) h 5 rfl Many78 rfl rfl rfl (Nat.le_of_ble_eq_true rfl)) (w_allocN h 7 Many78 fun w b35 h => w_stN (vs := [(.int .i64 (x23.params)), (.int .i64 (x23.locals)), u33]) h 7 [(.int .i64 (x23.params)), (.int .i64 (x23.locals)), u33] rfl Many78 rfl rfl rfl rfl rfl (ones_cons rfl (ones_cons rfl (ones_cons (h.rdAt 6 rfl).one ones_nil))) fun w h => wl_nil (then_normal (wc_seq (wc_seq (wc_region (wl_ok (r_fieldAddr Fld78x2 rfl) (wl_ok (r_ldB h 7 rfl One76 rfl rfl) ?_))))))))
      obtain ⟨y36, e37, hs⟩ := o_bind hs
      refine w_call fnOk85 rfl rfl (wandererref_sized_c N _ _ h.lt u33 x23.body (h.rdS 6 rfl) 4 _ e37) ?_
      rintro _ w ⟨k38, rfl⟩
      refine ⟨_, rfl, ?_⟩
      replace h := h.grow k38
      refine wl_ok (r_move (v := (.tuple #[(.int .i64 (y36.1)), (.bool (y36.2))])) rfl) (wl_ok (r_extract rfl rfl) (wl_ok (r_extract rfl rfl) (wl_ok (r_assign (v := (.int .i64 (y36.1))) rfl) (wl_ok (r_assign (v := (.bool (y36.2))) rfl) (wl_nil (then_normal (wc_seq (wc_region (wl_ok (r_move (v := (.bool (y36.2))) rfl) (wl_ok (r_notb rfl) (wl_nil (then_normal (wc_ifb hs rfl (fun c39 hs => ?_) (fun c39 hs => ?_))))))))))))))
      ·
       refine wc_seq (wc_region (wl_ok (r_assign (v := (.int .i64 (2))) rfl) (wl_nil (then_normal (wc_ret (then_ret (inBlock_ret (then_ret (then_ret (inBlock_ret (then_ret (fin1 (v := (.int .i64 (2))) Try.results45 rfl ?_))))))))))))
       obtain rfl := Option.some.inj hs
       exact ⟨h.grown, rfl⟩
      ·
       refine wc_skip (then_normal (wc_seq (wc_region (wl_ok (r_fieldAddr Fld78x2 rfl) (wl_ok (r_ldB h 7 rfl One76 rfl rfl) (wl_ok (r_move (v := va) rfl) (wl_ok (r_fieldAddr Fld78x1 rfl) (wl_ok (r_ldB h 7 rfl One3 rfl rfl) ?_))))))))
       obtain ⟨y40, e41, hs⟩ := o_bind hs
       refine w_call fnOk86 rfl rfl (wandererref_checkStmts_c N _ _ h.lt u33 x23.body (h.rdS 6 rfl) va a (h.srS 1 rfl) x23.locals _ e41) ?_
       rintro _ w ⟨k42, rfl⟩
       refine ⟨_, rfl, ?_⟩
       replace h := h.grow k42
       refine wl_ok (r_assign (v := (.int .i64 (y40))) rfl) (wl_nil (then_normal (wc_seq (wc_region (wl_ok (r_move (v := (.int .i64 (y40))) rfl) (wl_ok (r_neq rfl rfl) (wl_nil (then_normal (wc_ifb hs rfl (fun c43 hs => ?_) (fun c43 hs => ?_))))))))))
       ·
        refine wc_seq (wc_region (wl_ok (r_move (v := (.int .i64 (y40))) rfl) (wl_ok (r_assign (v := (.int .i64 (y40))) rfl) (wl_nil (then_normal (wc_ret (inBlock_ret (then_ret (then_ret (inBlock_ret (then_ret (fin1 (v := (.int .i64 (y40))) Try.results45 rfl ?_))))))))))))
        obtain rfl := Option.some.inj hs
        exact ⟨h.grown, rfl⟩
       ·
        refine wc_skip (inBlock_normal (then_normal (wc_region (wl_ok (r_add rfl rfl e27r) (wl_ok (r_move (v := (.int .i64 ((i22 + 1)))) rfl) (wl_nil (then_loop ?_)))))))
        subst hnx25
        exact lend ⟨k21 + 1, i22 + 1⟩ ⟨h.cn _, by omega, hs⟩ (by have := of_decide_eq_true e26; dsimp only; omega)
     ·
      rw [drop_ge (hik ▸ e26), each_nil] at hs
      refine wc_exit (then_exit (then_exit (inBlock_eq (then_normal (wc_seq (wc_region (wl_ok (r_assign (v := (.int .i64 (0))) rfl) (wl_nil (then_normal (wc_ret (fin1 (v := (.int .i64 (0))) Try.results45 rfl ?_)))))))))))
      obtain rfl := Option.some.inj hs
      exact ⟨h.grown, rfl⟩
def wandererref_sameStmts_j10 (nx6 : Unit → Option Bool) (x39 : Bool) : Option Bool :=
  bif x39 then some false else nx6 ()
def wandererref_sameStmts_b11 (F0 : List GStmt → List GStmt → Option Bool) (b : List GStmt) (a : List GStmt) (i3 : Int) (x4 : GStmt) (s : Unit) (nx6 : Unit → Option Bool) : Option Bool :=
  (idx b i3).bind fun x23 => bif (decide ((x4.kind : Int) ≠ x23.kind) || decide ((x4.n : Int) ≠ x23.n)) then wandererref_sameStmts_j10 nx6 true else (slices_Equal_Tok x4.e x23.e).bind fun y42 => bif (!y42) then wandererref_sameStmts_j10 nx6 true else (slices_Equal_Tok x4.f x23.f).bind fun y46 => bif (!y46) then wandererref_sameStmts_j10 nx6 true else (F0 x4.a x23.a).bind fun y50 => bif (!y50) then wandererref_sameStmts_j10 nx6 true else (F0 x4.b x23.b).bind fun y54 => wandererref_sameStmts_j10 nx6 (!y54)
def wandererref_sameStmts_k12 (s : Unit) : Option Bool :=
  some true
def wandererref_sameStmts_r (F0 : List GStmt → List GStmt → Option Bool) (a : List GStmt) (b : List GStmt) : Option Bool :=
  bif decide (((a.length : Int) : Int) ≠ (b.length : Int)) then some false else eachI (wandererref_sameStmts_b11 F0 b a) wandererref_sameStmts_k12 0 a ()
def wandererref_sameStmts : Nat → List GStmt → List GStmt → Option Bool
  | 0 => fun _ _ => none
  | N + 1 => wandererref_sameStmts_r (wandererref_sameStmts N)
theorem wandererref_sameStmts_c : ∀ (N : Nat) (w0 : World) (M : BS) (hM : ∀ b, M b → b < w0.heap.size) (va : Value) (a : List GStmt) (ha : Rd2 rStmt w0 BE M va a) (vb : Value) (b : List GStmt) (hb : Rd2 rStmt w0 BE M vb b) (r : Bool) (hs : wandererref_sameStmts N a b = some r),
    Calls Try.prog 91 #[va, vb] w0 (fun e w' => Grow w0 w' ∧ e = .returned (.bool r)) := by
  intro N
  induction N with
  | zero => intro w0 M hM va a ha vb b hb r hs; cases hs
  | succ N ih =>
  intro w0 M hM va a ha vb b hb r hs
  replace hs : wandererref_sameStmts_r (wandererref_sameStmts N) a b = some r := hs
  generalize wandererref_sameStmts N = F0 at hs ih
  refine calls_start (args := [va, vb]) Try.func91 rfl Try.ntmps91 (Nat.le_of_ble_eq_true rfl) ?_
  have h := SH.init hM
  replace h := h.argSr 1 ha none_own
  replace h := h.argSr 2 hb (hupd_own_sr none_own)
  have hl_a := ha.len_le
  have hl_b := hb.len_le
  refine wc_seq (wc_region (wl_ok (r_assign (v := (.bool (false))) rfl) (wl_nil (then_normal (wc_seq (wc_seq (wc_region (wl_ok (r_move (v := va) rfl) (wl_ok (r_len SliceOf76 rfl (h.srS 1 rfl)) (wl_ok (r_move (v := vb) rfl) (wl_ok (r_len SliceOf76 rfl (h.srS 2 rfl)) (wl_ok (r_neq rfl rfl) (wl_nil (then_normal (wc_ifb hs rfl (fun c1 hs => ?_) (fun c1 hs => ?_))))))))))))))))
  ·
   refine wc_seq (wc_region (wl_ok (r_assign (v := (.bool (false))) rfl) (wl_nil (then_normal (wc_ret (then_ret (fin1 (v := (.bool (false))) Try.results91 rfl ?_)))))))
   obtain rfl := Option.some.inj hs
   exact ⟨h.grown, rfl⟩
  ·
   refine wc_skip (then_normal (wc_seq (wc_seq (wc_region (wl_ok (r_move (v := va) rfl) (wl_ok (r_len SliceOf76 rfl (h.srS 1 rfl)) (wl_ok (r_move (v := (.int .i64 (0))) rfl) (wl_nil (then_normal (wc_block (wc_lp (σ := Nat × Int) (inl [4, 5, 6, 7, 15, 16, 17, 18, 19, 20, 21, 22, 23, 24, 25, 26, 27, 28, 29, 30, 31, 32, 33, 34, 35, 36, 37, 38, 39, 40, 41, 42, 43, 44, 45, 46, 47, 48, 49, 50, 51, 52, 53, 54, 55, 56, 57, 58, 59, 60, 61, 62, 63, 64, 65, 66, 67, 68]) (fun ⟨k2, i3⟩ => [(15, (.int .i64 (i3)))]) (fun ⟨k2, i3⟩ w => SH w0 M BE w (hset [(1, .sr rStmt va a), (2, .sr rStmt vb b)]) ∧ i3 = (k2 : Int) ∧ eachI (wandererref_sameStmts_b11 F0 b a) wandererref_sameStmts_k12 i3 (a.drop k2) () = some r) (fun ⟨k2, i3⟩ => a.length - k2) ⟨0, 0⟩ ⟨rfl, trivial⟩ ?_ ?_)))))))))))
   ·
    exact ⟨h.cn _, rfl, hs⟩
   ·
    rintro ⟨k2, i3⟩ w junk ⟨h, hik, hs⟩
    refine wc_seq (wc_region ?_)
    refine wl_ok (r_lss rfl rfl) (wl_nil (then_normal ?_))
    refine wc_seq (wc_if rfl (fun e7 => ?_) (fun e7 => ?_))
    ·
     refine wc_skip (then_normal ?_)
     obtain ⟨x4, e8a, e8b⟩ := drop_lt (hik ▸ e7)
     rw [e8b, eachI_cons] at hs
     generalize hnx6 : eachI (wandererref_sameStmts_b11 F0 b a) wandererref_sameStmts_k12 (i3 + 1) (a.drop (k2 + 1)) = nx6 at hs
     have e8r := nat_rng ((h.srS 1 rfl)).len_le hik e7
     refine wc_seq (wc_block (wc_seq (wc_region (wl_ok (r_move (v := (.int .i64 (i3))) rfl) ?_))))
     obtain ⟨b10, o11, cs12, h, r13, i9⟩ := h.ixS 1 3 rfl SliceOf76 rfl (nat_nn hik) (get_nat hik e8a)
     obtain ⟨u14, u16, u18, u20, rfl, g15, g17, g19, g21⟩ := rStmt_open r13
     replace h := h.knowRd 4 g15.up
     replace h := h.knowRd 5 g17.up.up
     replace h := h.knowRd 6 g19.up.up.up
     replace h := h.knowRd 7 g21.up.up.up.up
     refine wl_ok (i9 _ _ _ _ _ _ _ _ _ rfl rfl) (wl_ok (r_ldPN (k := 0) (vs := [(.int .i64 (x4.kind)), (.int .i64 (x4.n)), u14, u16, u18, u20]) h 3 rfl Many82 rfl rfl rfl (Nat.le_of_ble_eq_true rfl)) (w_allocN h 8 Many82 fun w b22 h => wl_ok (r_assign (v := (.int .i64 (i3))) rfl) (w_stN (vs := [(.int .i64 (x4.kind)), (.int .i64 (x4.n)), u14, u16, u18, u20]) h 8 [(.int .i64 (x4.kind)), (.int .i64 (x4.n)), u14, u16, u18, u20] rfl Many82 rfl rfl rfl rfl rfl (ones_cons rfl (ones_cons rfl (ones_cons (h.rdAt 4 rfl).one (ones_cons (h.rdAt 5 rfl).one (ones_cons (h.rdAt 6 rfl).one (ones_cons (h.rdAt 7 rfl).one ones_nil)))))) fun w h => wl_nil (then_normal (wc_seq (wc_region (wl_ok (r_move (v := vb) rfl) (wl_ok (r_move (v := (.int .i64 (i3))) rfl) ?_))))))))
     obtain ⟨x23, e24, hs⟩ := o_bind hs
     obtain ⟨b26, o27, cs28, h, r29, i25⟩ := h.ixS 2 9 rfl SliceOf76 rfl (o_idx e24).1 (o_idx e24).2
     obtain ⟨u30, u32, u34, u36, rfl, g31, g33, g35, g37⟩ := rStmt_open r29
     replace h := h.knowRd 10 g31.up
     replace h := h.knowRd 11 g33.up.up
     replace h := h.knowRd 12 g35.up.up.up
     replace h := h.knowRd 13 g37.up.up.up.up
     refine wl_ok (i25 _ _ _ _ _ _ _ _ _ rfl rfl) (wl_ok (r_ldPN (k := 0) (vs := [(.int .i64 (x23.kind)), (.int .i64 (x23.n)), u30, u32, u34, u36]) h 9 rfl Many82 rfl rfl rfl (Nat.le_of_ble_eq_true rfl)) (w_allocN h 14 Many82 fun w b38 h => w_stN (vs := [(.int .i64 (x23.kind)), (.int .i64 (x23.n)), u30, u32, u34, u36]) h 14 [(.int .i64 (x23.kind)), (.int .i64 (x23.n)), u30, u32, u34, u36] rfl Many82 rfl rfl rfl rfl rfl (ones_cons rfl (ones_cons rfl (ones_cons (h.rdAt 10 rfl).one (ones_cons (h.rdAt 11 rfl).one (ones_cons (h.rdAt 12 rfl).one (ones_cons (h.rdAt 13 rfl).one ones_nil)))))) fun w h => wl_nil (then_normal (wc_join (σ := Bool) (inl [24, 25, 26, 27, 28, 29, 30, 31, 32, 33, 34, 35, 36, 37, 38, 39, 40, 41, 42, 43, 44, 45, 46, 47, 48, 49, 50, 51, 52, 53, 54, 55, 56, 57, 58, 59, 60, 61, 62, 63, 64, 65, 66, 67]) (fun x39 => [(30, (gv (decide ((x4.kind : Int) ≠ x23.kind) == false) (.pointer (some ⟨b22, 1, none⟩)))), (31, (gv (decide ((x4.kind : Int) ≠ x23.kind) == false) (.int .i64 (x4.n)))), (32, (gv (decide ((x4.kind : Int) ≠ x23.kind) == false) (.pointer (some ⟨b38, 1, none⟩)))), (33, (gv (decide ((x4.kind : Int) ≠ x23.kind) == false) (.int .i64 (x23.n)))), (34, (gv (decide ((x4.kind : Int) ≠ x23.kind) == false) (.bool (decide ((x4.n : Int) ≠ x23.n))))), (67, (.bool (x39)))]) (fun x39 w => SH w0 M BE w (hset [(1, .sr rStmt va a), (2, .sr rStmt vb b), (4, .rd rTok u14 x4.e), (5, .rd rTok u16 x4.f), (6, .rd rStmt u18 x4.a), (7, .rd rStmt u20 x4.b), (8, .blk b22 [(.int .i64 (x4.kind)), (.int .i64 (x4.n)), u14, u16, u18, u20]), (10, .rd rTok u30 x23.e), (11, .rd rTok u32 x23.f), (12, .rd rStmt u34 x23.a), (13, .rd rStmt u36 x23.b), (14, .blk b38 [(.int .i64 (x23.kind)), (.int .i64 (x23.n)), u30, u32, u34, u36])]) ∧ wandererref_sameStmts_j10 nx6 x39 = some r) ?_ ?_))))
     ·
      rintro x39 w junk ⟨h, hs⟩
      refine wc_ifb hs rfl (fun c40 hs => ?_) (fun c40 hs => ?_)
      ·
       refine wc_seq (wc_region (wl_ok (r_assign (v := (.bool (false))) rfl) (wl_nil (then_normal (wc_ret (inBlock_ret (then_ret (then_ret (inBlock_ret (then_ret (fin1 (v := (.bool (false))) Try.results91 rfl ?_)))))))))))
       obtain rfl := Option.some.inj hs
       exact ⟨h.grown, rfl⟩
      ·
       refine wc_skip (inBlock_normal (then_normal (wc_region (wl_ok (r_add rfl rfl e8r) (wl_ok (r_move (v := (.int .i64 ((i3 + 1)))) rfl) (wl_nil (then_loop ?_)))))))
       subst hnx6
       exact lend ⟨k2 + 1, i3 + 1⟩ ⟨h.cn _, by omega, hs⟩ (by have := of_decide_eq_true e7; dsimp only; omega)
     ·
      refine wc_region (wl_ok (r_fieldAddr Fld82x0 rfl) (wl_ok (r_ldB h 8 rfl One3 rfl rfl) (wl_ok (r_fieldAddr Fld82x0 rfl) (wl_ok (r_ldB h 14 rfl One3 rfl rfl) (wl_ok (r_neq rfl rfl) (wl_ok (r_move (v := (.bool (decide ((x4.kind : Int) ≠ x23.kind)))) rfl) (wl_gd0 rfl rfl (fun q => r_fieldAddr Fld82x1 rfl) (wl_gd0 rfl rfl (fun q => r_ldB h 8 rfl One3 (gvt q) rfl) (wl_gd0 rfl rfl (fun q => r_fieldAddr Fld82x1 rfl) (wl_gd0 rfl rfl (fun q => r_ldB h 14 rfl One3 (gvt q) rfl) (wl_gd0 rfl rfl (fun q => r_neq (gvt q) (gvt q)) (wl_ok (r_por rfl rfl evc) (wl_ok (r_move (v := (.bool ((decide ((x4.kind : Int) ≠ x23.kind) || decide ((x4.n : Int) ≠ x23.n))))) rfl) (c_split (b := (decide ((x4.kind : Int) ≠ x23.kind) || decide ((x4.n : Int) ≠ x23.n))) hs (fun c41 hs => ?_) (fun c41 hs => ?_)))))))))))))))
      ·
       refine wl_off (b' := true) rfl (congrArg Value.bool c41) rfl (wl_off (b' := true) rfl (congrArg Value.bool c41) rfl (wl_off (b' := true) rfl (congrArg Value.bool c41) rfl (wl_off (b' := true) rfl (congrArg Value.bool c41) rfl (wl_off (b' := true) rfl (congrArg Value.bool c41) rfl (wl_off (b' := true) rfl (congrArg Value.bool c41) rfl (wl_ok (r_pick (b := true) (v := (.bool (true))) (congrArg Value.bool c41) rfl) (wl_ok (r_move (v := (.bool (true))) rfl) (wl_off (b' := true) rfl rfl rfl (wl_off (b' := true) rfl rfl rfl (wl_off (b' := true) rfl rfl rfl (wl_off (b' := true) rfl rfl rfl (wl_off (b' := true) rfl rfl rfl (wl_off (b' := true) rfl rfl rfl (wl_ok (r_pick (b := true) (v := (.bool (true))) rfl rfl) (wl_ok (r_move (v := (.bool (true))) rfl) (wl_off (b' := true) rfl rfl rfl (wl_off (b' := true) rfl rfl rfl (wl_off (b' := true) rfl rfl rfl (wl_off (b' := true) rfl rfl rfl (wl_off (b' := true) rfl rfl rfl (wl_off (b' := true) rfl rfl rfl (wl_ok (r_pick (b := true) (v := (.bool (true))) rfl rfl) (wl_ok (r_move (v := (.bool (true))) rfl) ?_)))))))))))))))))))))))
       refine wl_off (b' := true) rfl rfl rfl (wl_off (b' := true) rfl rfl rfl (wl_off (b' := true) rfl rfl rfl (wl_off (b' := true) rfl rfl rfl (wl_off (b' := true) rfl rfl rfl (wl_off (b' := true) rfl rfl rfl (wl_ok (r_pick (b := true) (v := (.bool (true))) rfl rfl) (wl_nil (then_loop ?_))))))))
       exact jend true ⟨h.cn _, hs⟩
      ·
       refine wl_on rfl (congrArg Value.bool c41) (wl_ok (r_fieldAddr Fld82x2 rfl) (wl_on rfl (congrArg Value.bool c41) (wl_ok (r_ldB h 8 rfl One71 rfl rfl) (wl_on rfl (congrArg Value.bool c41) (wl_ok (r_fieldAddr Fld82x2 rfl) (wl_on rfl (congrArg Value.bool c41) (wl_ok (r_ldB h 14 rfl One71 rfl rfl) (wl_on rfl (congrArg Value.bool c41) ?_))))))))
       obtain ⟨y42, e43, hs⟩ := o_bind hs
       refine w_call fnOk112 rfl rfl (slices_Equal_Tok_c _ _ h.lt u14 x4.e (h.rdS 4 rfl) u30 x23.e (h.rdS 10 rfl) _ e43) ?_
       rintro _ w ⟨k44, rfl⟩
       refine ⟨_, rfl, ?_⟩
       replace h := h.grow k44
       refine wl_on rfl (congrArg Value.bool c41) (wl_ok (r_notb rfl) (wl_ok (r_pick (b := false) (v := (.bool ((!y42)))) (congrArg Value.bool c41) rfl) (wl_ok (r_move (v := (.bool ((!y42)))) rfl) (c_split (b := (!y42)) hs (fun c45 hs => ?_) (fun c45 hs => ?_)))))
       ·
        refine wl_off (b' := true) rfl (congrArg Value.bool c45) rfl (wl_off (b' := true) rfl (congrArg Value.bool c45) rfl (wl_off (b' := true) rfl (congrArg Value.bool c45) rfl (wl_off (b' := true) rfl (congrArg Value.bool c45) rfl (wl_off (b' := true) rfl (congrArg Value.bool c45) rfl (wl_off (b' := true) rfl (congrArg Value.bool c45) rfl (wl_ok (r_pick (b := true) (v := (.bool (true))) (congrArg Value.bool c45) rfl) (wl_ok (r_move (v := (.bool (true))) rfl) (wl_off (b' := true) rfl rfl rfl (wl_off (b' := true) rfl rfl rfl (wl_off (b' := true) rfl rfl rfl (wl_off (b' := true) rfl rfl rfl (wl_off (b' := true) rfl rfl rfl (wl_off (b' := true) rfl rfl rfl (wl_ok (r_pick (b := true) (v := (.bool (true))) rfl rfl) (wl_ok (r_move (v := (.bool (true))) rfl) (wl_off (b' := true) rfl rfl rfl (wl_off (b' := true) rfl rfl rfl (wl_off (b' := true) rfl rfl rfl (wl_off (b' := true) rfl rfl rfl (wl_off (b' := true) rfl rfl rfl (wl_off (b' := true) rfl rfl rfl (wl_ok (r_pick (b := true) (v := (.bool (true))) rfl rfl) (wl_nil ?_)))))))))))))))))))))))
        refine then_loop ?_
        exact jend true ⟨h.cn _, hs⟩
       ·
        refine wl_on rfl (congrArg Value.bool c45) (wl_ok (r_fieldAddr Fld82x3 rfl) (wl_on rfl (congrArg Value.bool c45) (wl_ok (r_ldB h 8 rfl One71 rfl rfl) (wl_on rfl (congrArg Value.bool c45) (wl_ok (r_fieldAddr Fld82x3 rfl) (wl_on rfl (congrArg Value.bool c45) (wl_ok (r_ldB h 14 rfl One71 rfl rfl) (wl_on rfl (congrArg Value.bool c45) ?_))))))))
        obtain ⟨y46, e47, hs⟩ := o_bind hs
        refine w_call fnOk112 rfl rfl (slices_Equal_Tok_c _ _ h.lt u16 x4.f (h.rdS 5 rfl) u32 x23.f (h.rdS 11 rfl) _ e47) ?_
        rintro _ w ⟨k48, rfl⟩
        refine ⟨_, rfl, ?_⟩
        replace h := h.grow k48
        refine wl_on rfl (congrArg Value.bool c45) (wl_ok (r_notb rfl) (wl_ok (r_pick (b := false) (v := (.bool ((!y46)))) (congrArg Value.bool c45) rfl) (wl_ok (r_move (v := (.bool ((!y46)))) rfl) (c_split (b := (!y46)) hs (fun c49 hs => ?_) (fun c49 hs => ?_)))))
        ·
         refine wl_off (b' := true) rfl (congrArg Value.bool c49) rfl (wl_off (b' := true) rfl (congrArg Value.bool c49) rfl (wl_off (b' := true) rfl (congrArg Value.bool c49) rfl (wl_off (b' := true) rfl (congrArg Value.bool c49) rfl (wl_off (b' := true) rfl (congrArg Value.bool c49) rfl (wl_off (b' := true) rfl (congrArg Value.bool c49) rfl (wl_ok (r_pick (b := true) (v := (.bool (true))) (congrArg Value.bool c49) rfl) (wl_ok (r_move (v := (.bool (true))) rfl) (wl_off (b' := true) rfl rfl rfl (wl_off (b' := true) rfl rfl rfl (wl_off (b' := true) rfl rfl rfl (wl_off (b' := true) rfl rfl rfl (wl_off (b' := true) rfl rfl rfl (wl_off (b' := true) rfl rfl rfl (wl_ok (r_pick (b := true) (v := (.bool (true))) rfl rfl) (wl_nil (then_loop ?_))))))))))))))))
         exact jend true ⟨h.cn _, hs⟩
        ·
         refine wl_on rfl (congrArg Value.bool c49) (wl_ok (r_fieldAddr Fld82x4 rfl) (wl_on rfl (congrArg Value.bool c49) (wl_ok (r_ldB h 8 rfl One76 rfl rfl) (wl_on rfl (congrArg Value.bool c49) (wl_ok (r_fieldAddr Fld82x4 rfl) (wl_on rfl (congrArg Value.bool c49) (wl_ok (r_ldB h 14 rfl One76 rfl rfl) (wl_on rfl (congrArg Value.bool c49) ?_))))))))
         obtain ⟨y50, e51, hs⟩ := o_bind hs
         refine w_call fnOk91 rfl rfl (ih _ _ h.lt u18 x4.a (h.rdS 6 rfl) u34 x23.a (h.rdS 12 rfl) _ e51) ?_
         rintro _ w ⟨k52, rfl⟩
         refine ⟨_, rfl, ?_⟩
         replace h := h.grow k52
         refine wl_on rfl (congrArg Value.bool c49) (wl_ok (r_notb rfl) (wl_ok (r_pick (b := false) (v := (.bool ((!y50)))) (congrArg Value.bool c49) rfl) (wl_ok (r_move (v := (.bool ((!y50)))) rfl) (c_split (b := (!y50)) hs (fun c53 hs => ?_) (fun c53 hs => ?_)))))
         ·
          refine wl_off (b' := true) rfl (congrArg Value.bool c53) rfl (wl_off (b' := true) rfl (congrArg Value.bool c53) rfl (wl_off (b' := true) rfl (congrArg Value.bool c53) rfl (wl_off (b' := true) rfl (congrArg Value.bool c53) rfl (wl_off (b' := true) rfl (congrArg Value.bool c53) rfl (wl_off (b' := true) rfl (congrArg Value.bool c53) rfl (wl_ok (r_pick (b := true) (v := (.bool (true))) (congrArg Value.bool c53) rfl) (wl_nil (then_loop ?_))))))))
          exact jend true ⟨h.cn _, hs⟩
         ·
          refine wl_on rfl (congrArg Value.bool c53) (wl_ok (r_fieldAddr Fld82x5 rfl) (wl_on rfl (congrArg Value.bool c53) (wl_ok (r_ldB h 8 rfl One76 rfl rfl) (wl_on rfl (congrArg Value.bool c53) (wl_ok (r_fieldAddr Fld82x5 rfl) (wl_on rfl (congrArg Value.bool c53) (wl_ok (r_ldB h 14 rfl One76 rfl rfl) (wl_on rfl (congrArg Value.bool c53) ?_))))))))
          obtain ⟨y54, e55, hs⟩ := o_bind hs
          refine w_call fnOk91 rfl rfl (ih _ _ h.lt u20 x4.b (h.rdS 7 rfl) u36 x23.b (h.rdS 13 rfl) _ e55) ?_
          rintro _ w ⟨k56, rfl⟩
          refine ⟨_, rfl, ?_⟩
          replace h := h.grow k56
          refine wl_on rfl (congrArg Value.bool c53) (wl_ok (r_notb rfl) (wl_ok (r_pick (b := false) (v := (.bool ((!y54)))) (congrArg Value.bool c53) rfl) (wl_nil (then_loop ?_))))
          exact jend (!y54) ⟨h.cn _, hs⟩
    ·
     rw [drop_ge (hik ▸ e7), eachI_nil] at hs
     refine wc_exit (then_exit (then_exit (inBlock_eq (then_normal (wc_seq (wc_region (wl_ok (r_assign (v := (.bool (true))) rfl) (wl_nil (then_normal (wc_ret (fin1 (v := (.bool (true))) Try.results91 rfl ?_)))))))))))
     obtain rfl := Option.some.inj hs
     exact ⟨h.grown, rfl⟩
def wandererref_SameSource_j22 (nx6 : Unit → Option Bool) (x27 : Bool) : Option Bool :=
  bif x27 then some false else nx6 ()
def wandererref_SameSource_b23 (N : Nat) (b : List Fun) (i3 : Int) (x4 : Fun) (s : Unit) (nx6 : Unit → Option Bool) : Option Bool :=
  (idx b i3).bind fun x17 => bif (decide ((x4.params : Int) = x17.params) && decide ((x4.locals : Int) = x17.locals)) then (wandererref_sameStmts N x4.body x17.body).bind fun y32 => wandererref_SameSource_j22 nx6 (!y32) else wandererref_SameSource_j22 nx6 true
def wandererref_SameSource_k24 (s : Unit) : Option Bool :=
  some true
def wandererref_SameSource (N : Nat) (a : List Fun) (b : List Fun) : Option Bool :=
  bif decide (((a.length : Int) : Int) ≠ (b.length : Int)) then some false else eachI (wandererref_SameSource_b23 N b) wandererref_SameSource_k24 0 a ()
theorem wandererref_SameSource_c (N : Nat) (w0 : World) (M : BS) (hM : ∀ b, M b → b < w0.heap.size) (va : Value) (a : List Fun) (ha : Rd2 rFun w0 BE M va a) (vb : Value) (b : List Fun) (hb : Rd2 rFun w0 BE M vb b) (r : Bool) (hs : wandererref_SameSource N a b = some r) :
    Calls Try.prog 47 #[va, vb] w0 (fun e w' => Grow w0 w' ∧ e = .returned (.bool r)) := by
 refine calls_start (args := [va, vb]) Try.func47 rfl Try.ntmps47 (Nat.le_of_ble_eq_true rfl) ?_
 have h := SH.init hM
 replace h := h.argSr 1 ha none_own
 replace h := h.argSr 2 hb (hupd_own_sr none_own)
 have hl_a := ha.len_le
 have hl_b := hb.len_le
 refine wc_seq (wc_region (wl_ok (r_assign (v := (.bool (false))) rfl) (wl_nil (then_normal (wc_seq (wc_region (wl_ok (r_move (v := va) rfl) (wl_ok (r_move (v := vb) rfl) (w_callIn (args := [va, vb, (.func (.func 90) #[] #[])]) fnOk87 rfl rfl (calls_start (args := [va, vb, (.func (.func 90) #[] #[])]) Try.func87 rfl Try.ntmps87 (Nat.le_of_ble_eq_true rfl) (wc_seq (wc_region (wl_ok (r_assign (v := (.bool (false))) rfl) (wl_nil (then_normal (wc_seq (wc_seq (wc_region (wl_ok (r_move (v := va) rfl) (wl_ok (r_len SliceOf70 rfl (h.srS 1 rfl)) (wl_ok (r_move (v := vb) rfl) (wl_ok (r_len SliceOf70 rfl (h.srS 2 rfl)) (wl_ok (r_neq rfl rfl) ?_)))))))))))))))))))))))
 refine wl_nil (then_normal (wc_ifb hs rfl (fun c1 hs => ?_) (fun c1 hs => ?_)))
 ·
  refine wc_seq (wc_region (wl_ok (r_assign (v := (.bool (false))) rfl) (wl_nil (then_normal (wc_ret (then_ret (fin1 (v := (.bool (false))) Try.results87 rfl (⟨_, rfl, ?_⟩))))))))
  refine wl_ok (r_assign (v := (.bool (false))) rfl) (wl_nil (then_normal (wc_ret (fin1 (v := (.bool (false))) Try.results47 rfl ?_))))
  obtain rfl := Option.some.inj hs
  exact ⟨h.grown, rfl⟩
 ·
  refine wc_skip (then_normal (wc_seq (wc_seq (wc_region (wl_ok (r_move (v := va) rfl) (wl_ok (r_len SliceOf70 rfl (h.srS 1 rfl)) (wl_ok (r_move (v := (.int .i64 (0))) rfl) (wl_nil (then_normal (wc_block (wc_lp (σ := Nat × Int) (inl [6, 7, 8, 9, 17, 18, 19, 20, 21, 22, 23, 24, 25, 26, 27, 28, 29, 30, 31]) (fun ⟨k2, i3⟩ => [(17, (.int .i64 (i3)))]) (fun ⟨k2, i3⟩ w => SH w0 M BE w (hset [(1, .sr rFun va a), (2, .sr rFun vb b)]) ∧ i3 = (k2 : Int) ∧ eachI (wandererref_SameSource_b23 N b) wandererref_SameSource_k24 i3 (a.drop k2) () = some r) (fun ⟨k2, i3⟩ => a.length - k2) ⟨0, 0⟩ ⟨rfl, trivial⟩ ?_ ?_)))))))))))
  ·
   exact ⟨h.cn _, rfl, hs⟩
  ·
   rintro ⟨k2, i3⟩ w junk ⟨h, hik, hs⟩
   refine wc_seq (wc_region ?_)
   refine wl_ok (r_lss rfl rfl) (wl_nil (then_normal ?_))
   refine wc_seq (wc_if rfl (fun e7 => ?_) (fun e7 => ?_))
   ·
    refine wc_skip (then_normal ?_)
    obtain ⟨x4, e8a, e8b⟩ := drop_lt (hik ▸ e7)
    rw [e8b, eachI_cons] at hs
    generalize hnx6 : eachI (wandererref_SameSource_b23 N b) wandererref_SameSource_k24 (i3 + 1) (a.drop (k2 + 1)) = nx6 at hs
    have e8r := nat_rng ((h.srS 1 rfl)).len_le hik e7
    refine wc_seq (wc_block (wc_seq (wc_region (wl_ok (r_move (v := (.int .i64 (i3))) rfl) ?_))))
    obtain ⟨b10, o11, cs12, h, r13, i9⟩ := h.ixS 1 3 rfl SliceOf70 rfl (nat_nn hik) (get_nat hik e8a)
    obtain ⟨u14, rfl, g15⟩ := rFun_open r13
    replace h := h.knowRd 4 g15.up
    refine wl_ok (i9 _ _ _ _ _ _ _ _ _ rfl rfl) (wl_ok (r_ldPN (k := 0) (vs := [(.int .i64 (x4.params)), (.int .i64 (x4.locals)), u14]) h 3 rfl Many78 rfl rfl rfl (Nat.le_of_ble_eq_true rfl)) (w_allocN h 5 Many78 fun w b16 h => wl_ok (r_assign (v := (.int .i64 (i3))) rfl) (w_stN (vs := [(.int .i64 (x4.params)), (.int .i64 (x4.locals)), u14]) h 5 [(.int .i64 (x4.params)), (.int .i64 (x4.locals)), u14] rfl Many78 rfl rfl rfl rfl rfl (ones_cons rfl (ones_cons rfl (ones_cons (h.rdAt 4 rfl).one ones_nil))) fun w h => wl_nil (then_normal (wc_seq (wc_region (wl_ok (r_move (v := vb) rfl) (wl_ok (r_move (v := (.int .i64 (i3))) rfl) ?_))))))))
    obtain ⟨x17, e18, hs⟩ := o_bind hs
    obtain ⟨b20, o21, cs22, h, r23, i19⟩ := h.ixS 2 6 rfl SliceOf70 rfl (o_idx e18).1 (o_idx e18).2
    obtain ⟨u24, rfl, g25⟩ := rFun_open r23
    replace h := h.knowRd 7 g25.up
    refine wl_ok (i19 _ _ _ _ _ _ _ _ _ rfl rfl) (wl_ok (r_ldPN (k := 0) (vs := [(.int .i64 (x17.params)), (.int .i64 (x17.locals)), u24]) h 6 rfl Many78 rfl rfl rfl (Nat.le_of_ble_eq_true rfl)) (w_allocN h 8 Many78 fun w b26 h => w_stN (vs := [(.int .i64 (x17.params)), (.int .i64 (x17.locals)), u24]) h 8 [(.int .i64 (x17.params)), (.int .i64 (x17.locals)), u24] rfl Many78 rfl rfl rfl rfl rfl (ones_cons rfl (ones_cons rfl (ones_cons (h.rdAt 7 rfl).one ones_nil))) fun w h => wl_nil (then_normal (wc_join (σ := Bool) (inl [26, 27, 28, 29, 30]) (fun x27 => [(30, (.bool (x27)))]) (fun x27 w => SH w0 M BE w (hset [(1, .sr rFun va a), (2, .sr rFun vb b)]) ∧ wandererref_SameSource_j22 nx6 x27 = some r) ?_ ?_))))
    ·
     rintro x27 w junk ⟨h, hs⟩
     refine wc_ifb hs rfl (fun c28 hs => ?_) (fun c28 hs => ?_)
     ·
      refine wc_seq (wc_region (wl_ok (r_assign (v := (.bool (false))) rfl) (wl_nil (then_normal (wc_ret (inBlock_ret (then_ret (then_ret (inBlock_ret (then_ret (fin1 (v := (.bool (false))) Try.results87 rfl (⟨_, rfl, ?_⟩))))))))))))
      refine wl_ok (r_assign (v := (.bool (false))) rfl) (wl_nil (then_normal (wc_ret (fin1 (v := (.bool (false))) Try.results47 rfl ?_))))
      obtain rfl := Option.some.inj hs
      exact ⟨h.grown, rfl⟩
     ·
      refine wc_skip (inBlock_normal (then_normal (wc_region (wl_ok (r_add rfl rfl e8r) (wl_ok (r_move (v := (.int .i64 ((i3 + 1)))) rfl) (wl_nil (then_loop ?_)))))))
      subst hnx6
      exact lend ⟨k2 + 1, i3 + 1⟩ ⟨h.cn _, by omega, hs⟩ (by have := of_decide_eq_true e7; dsimp only; omega)
    ·
     refine wc_region (wl_ok (r_move (v := (.func (.func 90) #[] #[])) rfl) (wl_ok (r_ldBN (vs := [(.int .i64 (x4.params)), (.int .i64 (x4.locals)), u14]) h 5 rfl Many78 rfl rfl rfl) (wl_ok (r_ldBN (vs := [(.int .i64 (x17.params)), (.int .i64 (x17.locals)), u24]) h 8 rfl Many78 rfl rfl rfl) (w_callIn (args := [(.agg #[(.int .i64 (x4.params)), (.int .i64 (x4.locals)), u14]), (.agg #[(.int .i64 (x17.params)), (.int .i64 (x17.locals)), u24])]) fnOk90 rfl rfl (calls_start (args := [(.agg #[(.int .i64 (x4.params)), (.int .i64 (x4.locals)), u14]), (.agg #[(.int .i64 (x17.params)), (.int .i64 (x17.locals)), u24])]) Try.func90 rfl Try.ntmps90 (Nat.le_of_ble_eq_true rfl) (wc_seq (wc_region (w_box (cs := [(.int .i64 (x4.params)), (.int .i64 (x4.locals)), u14]) h 9 rfl rfl fun w b29 h => w_box (cs := [(.int .i64 (x17.params)), (.int .i64 (x17.locals)), u24]) h 10 rfl rfl fun w b30 h => wl_ok (r_assign (v := (.bool (false))) rfl) (wl_nil (then_normal (wc_seq (wc_region (wl_ok (r_fieldAddr Fld78x0 rfl) (wl_ok (r_ldB h 9 rfl One3 rfl rfl) (wl_ok (r_fieldAddr Fld78x0 rfl) (wl_ok (r_ldB h 10 rfl One3 rfl rfl) (wl_ok (r_eql rfl rfl) (wl_ok (r_move (v := (.bool (decide ((x4.params : Int) = x17.params)))) rfl) (wl_gd0 rfl rfl (fun q => r_fieldAddr Fld78x1 rfl) (wl_gd0 rfl rfl (fun q => r_ldB h 9 rfl One3 (gvt q) rfl) (wl_gd0 rfl rfl (fun q => r_fieldAddr Fld78x1 rfl) ?_)))))))))))))))))))))
     refine wl_gd0 rfl rfl (fun q => r_ldB h 10 rfl One3 (gvt q) rfl) (wl_gd0 rfl rfl (fun q => r_eql (gvt q) (gvt q)) (wl_ok (r_pand rfl rfl evc) (wl_ok (r_move (v := (.bool ((decide ((x4.params : Int) = x17.params) && decide ((x4.locals : Int) = x17.locals))))) rfl) (c_split (b := (decide ((x4.params : Int) = x17.params) && decide ((x4.locals : Int) = x17.locals))) hs (fun c31 hs => ?_) (fun c31 hs => ?_)))))
     ·
      refine wl_on rfl (congrArg Value.bool c31) (wl_ok (r_fieldAddr Fld78x2 rfl) (wl_on rfl (congrArg Value.bool c31) (wl_ok (r_ldB h 9 rfl One76 rfl rfl) (wl_on rfl (congrArg Value.bool c31) (wl_ok (r_fieldAddr Fld78x2 rfl) (wl_on rfl (congrArg Value.bool c31) (wl_ok (r_ldB h 10 rfl One76 rfl rfl) (wl_on rfl (congrArg Value.bool c31) ?_))))))))
      obtain ⟨y32, e33, hs⟩ := o_bind hs
      refine w_call fnOk91 rfl rfl (wandererref_sameStmts_c N _ _ h.lt u14 x4.body (h.rdS 4 rfl) u24 x17.body (h.rdS 7 rfl) _ e33) ?_
      rintro _ w ⟨k34, rfl⟩
      refine ⟨_, rfl, ?_⟩
      replace h := h.grow k34
      refine wl_ok (r_pick (b := true) (v := (.bool (y32))) (congrArg Value.bool c31) rfl) (wl_ok (r_assign (v := (.bool (y32))) rfl) (wl_nil (then_normal (wc_ret (fin1 (v := (.bool (y32))) Try.results90 rfl (⟨_, rfl, ?_⟩))))))
      refine wl_ok (r_notb rfl) (wl_nil (then_loop ?_))
      exact jend (!y32) ⟨h.cn _, hs⟩
     ·
      refine wl_off (b' := false) rfl (congrArg Value.bool c31) rfl (wl_off (b' := false) rfl (congrArg Value.bool c31) rfl (wl_off (b' := false) rfl (congrArg Value.bool c31) rfl (wl_off (b' := false) rfl (congrArg Value.bool c31) rfl (wl_off (b' := false) rfl (congrArg Value.bool c31) rfl (wl_ok (r_pick (b := false) (v := (.bool (false))) (congrArg Value.bool c31) rfl) (wl_ok (r_assign (v := (.bool (false))) rfl) (wl_nil (then_normal (wc_ret (fin1 (v := (.bool (false))) Try.results90 rfl (⟨_, rfl, ?_⟩)))))))))))
      refine wl_ok (r_notb rfl) (wl_nil (then_loop ?_))
      exact jend true ⟨h.cn _, hs⟩
   ·
    rw [drop_ge (hik ▸ e7), eachI_nil] at hs
    refine wc_exit (then_exit (then_exit (inBlock_eq (then_normal (wc_seq (wc_region (wl_ok (r_assign (v := (.bool (true))) rfl) (wl_nil (then_normal (wc_ret (fin1 (v := (.bool (true))) Try.results87 rfl (⟨_, rfl, ?_⟩))))))))))))
    refine wl_ok (r_assign (v := (.bool (true))) rfl) (wl_nil (then_normal (wc_ret (fin1 (v := (.bool (true))) Try.results47 rfl ?_))))
    obtain rfl := Option.some.inj hs
    exact ⟨h.grown, rfl⟩
def wandererlaw_SourceSays (N : Nat) (a : List Fun) (b : List Fun) (c : List Tok) (d : Int) : Option Bool :=
  (wandererlaw_typed N).bind fun y1 => bif y1 then (source_Check N a).bind fun y5 => (wandererref_CheckSource N a).bind fun y8 => bif decide ((y5 : Int) = y8) then (source_Same N a b).bind fun y12 => (wandererref_SameSource N a b).bind fun y15 => bif (y12 == y15) then (source_Expr c a d).bind fun y19 => (wandererref_CheckExpr N c a d).bind fun y22 => some (decide ((y19 : Int) = y22)) else some false else some false else some false
theorem wandererlaw_SourceSays_c (N : Nat) (w0 : World) (M : BS) (hM : ∀ b, M b → b < w0.heap.size) (va : Value) (a : List Fun) (ha : Rd2 rFun w0 BE M va a) (vb : Value) (b : List Fun) (hb : Rd2 rFun w0 BE M vb b) (vc : Value) (c : List Tok) (hc : Rd2 rTok w0 BE M vc c) (d : Int) (r : Bool) (hs : wandererlaw_SourceSays N a b c d = some r) :
    Calls Try.prog 10 #[va, vb, vc, (.int .i64 (d))] w0 (fun e w' => Grow w0 w' ∧ e = .returned (.bool r)) := by
 refine calls_start (args := [va, vb, vc, (.int .i64 (d))]) Try.func10 rfl Try.ntmps10 (Nat.le_of_ble_eq_true rfl) ?_
 have h := SH.init hM
 replace h := h.argSr 1 ha none_own
 replace h := h.argSr 2 hb (hupd_own_sr none_own)
 replace h := h.argSr 3 hc (hupd_own_sr (hupd_own_sr none_own))
 have hl_a := ha.len_le
 have hl_b := hb.len_le
 have hl_c := hc.len_le
 refine wc_seq (wc_region (wl_ok (r_assign (v := (.bool (false))) rfl) (wl_nil (then_normal (wc_seq (wc_region ?_))))))
 obtain ⟨y1, e2, hs⟩ := o_bind hs
 refine w_call fnOk43 rfl rfl (wandererlaw_typed_c N _ _ h.lt  _ e2) ?_
 rintro _ w ⟨k3, rfl⟩
 refine ⟨_, rfl, ?_⟩
 replace h := h.grow k3
 refine wl_ok (r_move (v := (.bool (y1))) rfl) (c_split (b := y1) hs (fun c4 hs => ?_) (fun c4 hs => ?_))
 ·
  refine wl_on rfl (congrArg Value.bool c4) (wl_ok (r_move (v := va) rfl) (wl_on rfl (congrArg Value.bool c4) ?_))
  obtain ⟨y5, e6, hs⟩ := o_bind hs
  refine w_call fnOk44 rfl rfl (source_Check_c N _ _ h.lt va a (h.srS 1 rfl) _ e6) ?_
  rintro _ w ⟨k7, rfl⟩
  refine ⟨_, rfl, ?_⟩
  replace h := h.grow k7
  refine wl_on rfl (congrArg Value.bool c4) (wl_ok (r_move (v := va) rfl) (wl_on rfl (congrArg Value.bool c4) ?_))
  obtain ⟨y8, e9, hs⟩ := o_bind hs
  refine w_call fnOk45 rfl rfl (wandererref_CheckSource_c N _ _ h.lt va a (h.srS 1 rfl) _ e9) ?_
  rintro _ w ⟨k10, rfl⟩
  refine ⟨_, rfl, ?_⟩
  replace h := h.grow k10
  refine wl_on rfl (congrArg Value.bool c4) (wl_ok (r_eql rfl rfl) (wl_ok (r_pick (b := true) (v := (.bool (decide ((y5 : Int) = y8)))) (congrArg Value.bool c4) rfl) (wl_ok (r_move (v := (.bool (decide ((y5 : Int) = y8)))) rfl) (c_split (b := decide ((y5 : Int) = y8)) hs (fun c11 hs => ?_) (fun c11 hs => ?_)))))
  ·
   refine wl_on rfl (congrArg Value.bool c11) (wl_ok (r_move (v := va) rfl) (wl_on rfl (congrArg Value.bool c11) (wl_ok (r_move (v := vb) rfl) (wl_on rfl (congrArg Value.bool c11) ?_))))
   obtain ⟨y12, e13, hs⟩ := o_bind hs
   refine w_call fnOk46 rfl rfl (source_Same_c N _ _ h.lt va a (h.srS 1 rfl) vb b (h.srS 2 rfl) _ e13) ?_
   rintro _ w ⟨k14, rfl⟩
   refine ⟨_, rfl, ?_⟩
   replace h := h.grow k14
   refine wl_on rfl (congrArg Value.bool c11) (wl_ok (r_move (v := va) rfl) (wl_on rfl (congrArg Value.bool c11) (wl_ok (r_move (v := vb) rfl) (wl_on rfl (congrArg Value.bool c11) ?_))))
   obtain ⟨y15, e16, hs⟩ := o_bind hs
   refine w_call fnOk47 rfl rfl (wandererref_SameSource_c N _ _ h.lt va a (h.srS 1 rfl) vb b (h.srS 2 rfl) _ e16) ?_
   rintro _ w ⟨k17, rfl⟩
   refine ⟨_, rfl, ?_⟩
   replace h := h.grow k17
   refine wl_on rfl (congrArg Value.bool c11) (wl_ok (r_eqlb Try.underlying4 rfl rfl) (wl_ok (r_pick (b := true) (v := (.bool ((y12 == y15)))) (congrArg Value.bool c11) rfl) (wl_ok (r_move (v := (.bool ((y12 == y15)))) rfl) (c_split (b := (y12 == y15)) hs (fun c18 hs => ?_) (fun c18 hs => ?_)))))
   ·
    refine wl_on rfl (congrArg Value.bool c18) (wl_ok (r_move (v := vc) rfl) (wl_on rfl (congrArg Value.bool c18) (wl_ok (r_move (v := va) rfl) (wl_on rfl (congrArg Value.bool c18) (wl_ok (r_move (v := (.int .i64 (d))) rfl) (wl_on rfl (congrArg Value.bool c18) ?_))))))
    obtain ⟨y19, e20, hs⟩ := o_bind hs
    refine w_call fnOk48 rfl rfl (source_Expr_c _ _ h.lt vc c (h.srS 3 rfl) va a (h.srS 1 rfl) d _ e20) ?_
    rintro _ w ⟨k21, rfl⟩
    refine ⟨_, rfl, ?_⟩
    replace h := h.grow k21
    refine wl_on rfl (congrArg Value.bool c18) (wl_ok (r_move (v := vc) rfl) (wl_on rfl (congrArg Value.bool c18) (wl_ok (r_move (v := va) rfl) (wl_on rfl (congrArg Value.bool c18) (wl_ok (r_move (v := (.int .i64 (d))) rfl) (wl_on rfl (congrArg Value.bool c18) ?_))))))
    obtain ⟨y22, e23, hs⟩ := o_bind hs
    refine w_call fnOk49 rfl rfl (wandererref_CheckExpr_c N _ _ h.lt vc c (h.srS 3 rfl) va a (h.srS 1 rfl) d _ e23) ?_
    rintro _ w ⟨k24, rfl⟩
    refine ⟨_, rfl, ?_⟩
    replace h := h.grow k24
    refine wl_on rfl (congrArg Value.bool c18) (wl_ok (r_eql rfl rfl) (wl_ok (r_pick (b := true) (v := (.bool (decide ((y19 : Int) = y22)))) (congrArg Value.bool c18) rfl) (wl_ok (r_assign (v := (.bool (decide ((y19 : Int) = y22)))) rfl) (wl_nil (then_normal (wc_ret (fin1 (v := (.bool (decide ((y19 : Int) = y22)))) Try.results10 rfl ?_)))))))
    obtain rfl := Option.some.inj hs
    exact ⟨h.grown, rfl⟩
   ·
    refine wl_off (b' := false) rfl (congrArg Value.bool c18) rfl (wl_off (b' := false) rfl (congrArg Value.bool c18) rfl (wl_off (b' := false) rfl (congrArg Value.bool c18) rfl (wl_off (b' := false) rfl (congrArg Value.bool c18) rfl (wl_off (b' := false) rfl (congrArg Value.bool c18) rfl (wl_off (b' := false) rfl (congrArg Value.bool c18) rfl (wl_off (b' := false) rfl (congrArg Value.bool c18) rfl (wl_off (b' := false) rfl (congrArg Value.bool c18) rfl (wl_off (b' := false) rfl (congrArg Value.bool c18) rfl (wl_ok (r_pick (b := false) (v := (.bool (false))) (congrArg Value.bool c18) rfl) (wl_ok (r_assign (v := (.bool (false))) rfl) (wl_nil (then_normal (wc_ret (fin1 (v := (.bool (false))) Try.results10 rfl ?_))))))))))))))
    obtain rfl := Option.some.inj hs
    exact ⟨h.grown, rfl⟩
  ·
   refine wl_off (b' := false) rfl (congrArg Value.bool c11) rfl (wl_off (b' := false) rfl (congrArg Value.bool c11) rfl (wl_off (b' := false) rfl (congrArg Value.bool c11) rfl (wl_off (b' := false) rfl (congrArg Value.bool c11) rfl (wl_off (b' := false) rfl (congrArg Value.bool c11) rfl (wl_off (b' := false) rfl (congrArg Value.bool c11) rfl (wl_off (b' := false) rfl (congrArg Value.bool c11) rfl (wl_ok (r_pick (b := false) (v := (.bool (false))) (congrArg Value.bool c11) rfl) (wl_ok (r_move (v := (.bool (false))) rfl) (wl_off (b' := false) rfl rfl rfl (wl_off (b' := false) rfl rfl rfl (wl_off (b' := false) rfl rfl rfl (wl_off (b' := false) rfl rfl rfl (wl_off (b' := false) rfl rfl rfl (wl_off (b' := false) rfl rfl rfl (wl_off (b' := false) rfl rfl rfl (wl_off (b' := false) rfl rfl rfl (wl_off (b' := false) rfl rfl rfl (wl_ok (r_pick (b := false) (v := (.bool (false))) rfl rfl) (wl_ok (r_assign (v := (.bool (false))) rfl) (wl_nil (then_normal (wc_ret (fin1 (v := (.bool (false))) Try.results10 rfl ?_)))))))))))))))))))))))
   obtain rfl := Option.some.inj hs
   exact ⟨h.grown, rfl⟩
 ·
  refine wl_off (b' := false) rfl (congrArg Value.bool c4) rfl (wl_off (b' := false) rfl (congrArg Value.bool c4) rfl (wl_off (b' := false) rfl (congrArg Value.bool c4) rfl (wl_off (b' := false) rfl (congrArg Value.bool c4) rfl (wl_off (b' := false) rfl (congrArg Value.bool c4) rfl (wl_ok (r_pick (b := false) (v := (.bool (false))) (congrArg Value.bool c4) rfl) (wl_ok (r_move (v := (.bool (false))) rfl) (wl_off (b' := false) rfl rfl rfl (wl_off (b' := false) rfl rfl rfl (wl_off (b' := false) rfl rfl rfl (wl_off (b' := false) rfl rfl rfl (wl_off (b' := false) rfl rfl rfl (wl_off (b' := false) rfl rfl rfl (wl_off (b' := false) rfl rfl rfl (wl_ok (r_pick (b := false) (v := (.bool (false))) rfl rfl) (wl_ok (r_move (v := (.bool (false))) rfl) (wl_off (b' := false) rfl rfl rfl (wl_off (b' := false) rfl rfl rfl (wl_off (b' := false) rfl rfl rfl (wl_off (b' := false) rfl rfl rfl (wl_off (b' := false) rfl rfl rfl (wl_off (b' := false) rfl rfl rfl (wl_off (b' := false) rfl rfl rfl (wl_off (b' := false) rfl rfl rfl ?_)))))))))))))))))))))))
  refine wl_off (b' := false) rfl rfl rfl (wl_ok (r_pick (b := false) (v := (.bool (false))) rfl rfl) (wl_ok (r_assign (v := (.bool (false))) rfl) (wl_nil (then_normal (wc_ret (fin1 (v := (.bool (false))) Try.results10 rfl ?_))))))
  obtain rfl := Option.some.inj hs
  exact ⟨h.grown, rfl⟩
end Go.Proofs.Ytkjajililnbimaa
