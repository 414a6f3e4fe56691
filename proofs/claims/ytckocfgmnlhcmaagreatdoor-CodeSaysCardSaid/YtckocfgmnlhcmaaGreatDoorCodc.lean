/-
  Functions of the program, each as plain Lean, and that the code does just that.
-/
import Derived.Test.YtckocfgmnlhcmaaGreatDoorProg
import Derived.Test.YtckocfgmnlhcmaaGreatDoorLiftD
import Derived.Test.YtckocfgmnlhcmaaGreatDoorCodStrs
import Derived.Test.YtckocfgmnlhcmaaGreatDoorCodShelf
import Derived.Test.YtckocfgmnlhcmaaGreatDoorCodb
set_option linter.unusedSimpArgs false
set_option linter.unusedVariables false
set_option maxRecDepth 10000
namespace Go.Proofs.YtckocfgmnlhcmaaGreatDoor
open Go Go.Proofs Go.LX
theorem wandererref_checkIns_c (w0 : World) (M : BS) (hM : ∀ b, M b → b < w0.heap.size) (a : Ins) (va4 : Value) (ha4 : Rd2 rInt w0 BE M va4 a.args) (b : Proc) (vb2 : Value) (hb2 : Rd2 rIns w0 BE M vb2 b.code) (vc : Value) (c : List Proc) (hc : Rd2 rProc w0 BE M vc c) (r : Int) (hs : wandererref_checkIns a b c = some r) :
    Calls Tryz.prog 48 #[(.agg #[(.int .i64 (a.op)), (.int .i64 (a.a)), (.int .i64 (a.b)), (.int .i64 (a.c)), va4]), (.agg #[(.int .i64 (b.params)), (.int .i64 (b.regs)), vb2]), vc] w0 (fun e w' => Grow w0 w' ∧ e = .returned (.int .i64 r)) := by
 refine calls_start (args := [(.agg #[(.int .i64 (a.op)), (.int .i64 (a.a)), (.int .i64 (a.b)), (.int .i64 (a.c)), va4]), (.agg #[(.int .i64 (b.params)), (.int .i64 (b.regs)), vb2]), vc]) Tryz.func48 rfl Tryz.ntmps48 (Nat.le_of_ble_eq_true rfl) ?_
 have h := SH.init hM
 replace h := h.argSr 1 ha4 none_own
 replace h := h.argSr 2 hb2 (hupd_own_sr none_own)
 replace h := h.argSr 3 hc (hupd_own_sr (hupd_own_sr none_own))
 have hl_c := hc.len_le
 refine wc_seq (wc_region (w_box (cs := [(.int .i64 (a.op)), (.int .i64 (a.a)), (.int .i64 (a.b)), (.int .i64 (a.c)), va4]) h 4 rfl rfl fun w b1 h => w_box (cs := [(.int .i64 (b.params)), (.int .i64 (b.regs)), vb2]) h 5 rfl rfl fun w b2 h => wl_ok (r_assign (v := (.int .i64 (0))) rfl) (wl_nil (then_normal (wc_seq (wc_region (w_makeMap h 6 fun w b3 h => w_insert (ents' := [(1, (strV [114, 110, 45]))]) h 6 rfl MapOf72 rfl rfl rfl rfl fun w h => w_insert (ents' := [(1, (strV [114, 110, 45])), (2, (strV [114, 114, 45]))]) h 6 rfl MapOf72 rfl rfl rfl rfl fun w h => w_insert (ents' := [(1, (strV [114, 110, 45])), (2, (strV [114, 114, 45])), (3, (strV [114, 114, 114]))]) h 6 rfl MapOf72 rfl rfl rfl rfl fun w h => w_insert (ents' := [(1, (strV [114, 110, 45])), (2, (strV [114, 114, 45])), (3, (strV [114, 114, 114])), (4, (strV [114, 114, 110]))]) h 6 rfl MapOf72 rfl rfl rfl rfl fun w h => w_insert (ents' := [(1, (strV [114, 110, 45])), (2, (strV [114, 114, 45])), (3, (strV [114, 114, 114])), (4, (strV [114, 114, 110])), (5, (strV [114, 110, 45]))]) h 6 rfl MapOf72 rfl rfl rfl rfl fun w h => w_insert (ents' := [(1, (strV [114, 110, 45])), (2, (strV [114, 114, 45])), (3, (strV [114, 114, 114])), (4, (strV [114, 114, 110])), (5, (strV [114, 110, 45])), (6, (strV [114, 114, 110]))]) h 6 rfl MapOf72 rfl rfl rfl rfl fun w h => w_insert (ents' := [(1, (strV [114, 110, 45])), (2, (strV [114, 114, 45])), (3, (strV [114, 114, 114])), (4, (strV [114, 114, 110])), (5, (strV [114, 110, 45])), (6, (strV [114, 114, 110])), (7, (strV [114, 110, 45]))]) h 6 rfl MapOf72 rfl rfl rfl rfl fun w h => w_insert (ents' := [(1, (strV [114, 110, 45])), (2, (strV [114, 114, 45])), (3, (strV [114, 114, 114])), (4, (strV [114, 114, 110])), (5, (strV [114, 110, 45])), (6, (strV [114, 114, 110])), (7, (strV [114, 110, 45])), (8, (strV [114, 45, 45]))]) h 6 rfl MapOf72 rfl rfl rfl rfl fun w h => w_insert (ents' := [(1, (strV [114, 110, 45])), (2, (strV [114, 114, 45])), (3, (strV [114, 114, 114])), (4, (strV [114, 114, 110])), (5, (strV [114, 110, 45])), (6, (strV [114, 114, 110])), (7, (strV [114, 110, 45])), (8, (strV [114, 45, 45])), (9, (strV [114, 45, 45]))]) h 6 rfl MapOf72 rfl rfl rfl rfl fun w h => w_insert (ents' := [(1, (strV [114, 110, 45])), (2, (strV [114, 114, 45])), (3, (strV [114, 114, 114])), (4, (strV [114, 114, 110])), (5, (strV [114, 110, 45])), (6, (strV [114, 114, 110])), (7, (strV [114, 110, 45])), (8, (strV [114, 45, 45])), (9, (strV [114, 45, 45])), (10, (strV [45, 45, 45]))]) h 6 rfl MapOf72 rfl rfl rfl rfl fun w h => w_insert (ents' := [(1, (strV [114, 110, 45])), (2, (strV [114, 114, 45])), (3, (strV [114, 114, 114])), (4, (strV [114, 114, 110])), (5, (strV [114, 110, 45])), (6, (strV [114, 114, 110])), (7, (strV [114, 110, 45])), (8, (strV [114, 45, 45])), (9, (strV [114, 45, 45])), (10, (strV [45, 45, 45])), (11, (strV [114, 45, 45]))]) h 6 rfl MapOf72 rfl rfl rfl rfl fun w h => w_insert (ents' := [(1, (strV [114, 110, 45])), (2, (strV [114, 114, 45])), (3, (strV [114, 114, 114])), (4, (strV [114, 114, 110])), (5, (strV [114, 110, 45])), (6, (strV [114, 114, 110])), (7, (strV [114, 110, 45])), (8, (strV [114, 45, 45])), (9, (strV [114, 45, 45])), (10, (strV [45, 45, 45])), (11, (strV [114, 45, 45])), (12, (strV [45, 110, 45]))]) h 6 rfl MapOf72 rfl rfl rfl rfl fun w h => w_insert (ents' := [(1, (strV [114, 110, 45])), (2, (strV [114, 114, 45])), (3, (strV [114, 114, 114])), (4, (strV [114, 114, 110])), (5, (strV [114, 110, 45])), (6, (strV [114, 114, 110])), (7, (strV [114, 110, 45])), (8, (strV [114, 45, 45])), (9, (strV [114, 45, 45])), (10, (strV [45, 45, 45])), (11, (strV [114, 45, 45])), (12, (strV [45, 110, 45])), (13, (strV [114, 110, 45]))]) h 6 rfl MapOf72 rfl rfl rfl rfl fun w h => wl_ok (r_move (v := (.map (some b3))) rfl) ?_)))))))
 refine wl_ok (r_fieldAddr Fld90x0 rfl) (wl_ok (r_ldB h 4 rfl One3 rfl rfl) (wl_ok (r_lk2 (f := strV) (zz := []) ([(1, [114, 110, 45]), (2, [114, 114, 45]), (3, [114, 114, 114]), (4, [114, 114, 110]), (5, [114, 110, 45]), (6, [114, 114, 110]), (7, [114, 110, 45]), (8, [114, 45, 45]), (9, [114, 45, 45]), (10, [45, 45, 45]), (11, [114, 45, 45]), (12, [45, 110, 45]), (13, [114, 110, 45])] : List (Int × Str)) h 6 rfl MapOf72 rfl rfl rfl rfl) (wl_ok (r_move (v := (.tuple #[(strV ((lk a.op ([(1, [114, 110, 45]), (2, [114, 114, 45]), (3, [114, 114, 114]), (4, [114, 114, 110]), (5, [114, 110, 45]), (6, [114, 114, 110]), (7, [114, 110, 45]), (8, [114, 45, 45]), (9, [114, 45, 45]), (10, [45, 45, 45]), (11, [114, 45, 45]), (12, [45, 110, 45]), (13, [114, 110, 45])] : List (Int × Str))).getD [])), (.bool ((lk a.op ([(1, [114, 110, 45]), (2, [114, 114, 45]), (3, [114, 114, 114]), (4, [114, 114, 110]), (5, [114, 110, 45]), (6, [114, 114, 110]), (7, [114, 110, 45]), (8, [114, 45, 45]), (9, [114, 45, 45]), (10, [45, 45, 45]), (11, [114, 45, 45]), (12, [45, 110, 45]), (13, [114, 110, 45])] : List (Int × Str))).isSome))])) rfl) (wl_ok (r_extract rfl rfl) (wl_ok (r_extract rfl rfl) (wl_ok (r_assign (v := (strV ((lk a.op ([(1, [114, 110, 45]), (2, [114, 114, 45]), (3, [114, 114, 114]), (4, [114, 114, 110]), (5, [114, 110, 45]), (6, [114, 114, 110]), (7, [114, 110, 45]), (8, [114, 45, 45]), (9, [114, 45, 45]), (10, [45, 45, 45]), (11, [114, 45, 45]), (12, [45, 110, 45]), (13, [114, 110, 45])] : List (Int × Str))).getD []))) rfl) (wl_ok (r_assign (v := (.bool ((lk a.op ([(1, [114, 110, 45]), (2, [114, 114, 45]), (3, [114, 114, 114]), (4, [114, 114, 110]), (5, [114, 110, 45]), (6, [114, 114, 110]), (7, [114, 110, 45]), (8, [114, 45, 45]), (9, [114, 45, 45]), (10, [45, 45, 45]), (11, [114, 45, 45]), (12, [45, 110, 45]), (13, [114, 110, 45])] : List (Int × Str))).isSome))) rfl) (wl_nil (then_normal (wc_seq (wc_seq (wc_region (wl_ok (r_move (v := (.bool ((lk a.op ([(1, [114, 110, 45]), (2, [114, 114, 45]), (3, [114, 114, 114]), (4, [114, 114, 110]), (5, [114, 110, 45]), (6, [114, 114, 110]), (7, [114, 110, 45]), (8, [114, 45, 45]), (9, [114, 45, 45]), (10, [45, 45, 45]), (11, [114, 45, 45]), (12, [45, 110, 45]), (13, [114, 110, 45])] : List (Int × Str))).isSome))) rfl) (wl_ok (r_notb rfl) (wl_nil (then_normal (wc_ifb hs rfl (fun c4 hs => ?_) (fun c4 hs => ?_))))))))))))))))))
 ·
  refine wc_seq (wc_region (wl_ok (r_assign (v := (.int .i64 (4))) rfl) (wl_nil (then_normal (wc_ret (then_ret (fin1 (v := (.int .i64 (4))) Tryz.results48 rfl ?_)))))))
  obtain rfl := Option.some.inj hs
  exact ⟨h.grown, rfl⟩
 ·
  refine wc_skip (then_normal (wc_seq (wc_seq (wc_region (wl_ok (r_fieldAddr Fld90x1 rfl) (wl_ok (r_ldB h 4 rfl One3 rfl rfl) (wl_ok (r_fieldAddr Fld90x2 rfl) (wl_ok (r_ldB h 4 rfl One3 rfl rfl) (wl_ok (r_fieldAddr Fld90x3 rfl) (wl_ok (r_ldB h 4 rfl One3 rfl rfl) (w_bs (R := rInt) (vs := [(.int .i64 (a.a)), (.int .i64 (a.b)), (.int .i64 (a.c))]) (xs := [a.a, a.b, a.c]) h 7 ElemOf51 rfl rfl rfl ⟨rfl, ⟨rfl, ⟨rfl, trivial⟩⟩⟩ rfl fun w u5 h => wl_ok (r_len SliceOf51 rfl (h.ownS 7 rfl)) (wl_ok (r_move (v := (.int .i64 (0))) rfl) (wl_nil (then_normal (wc_block ?_)))))))))))))))
  replace h := h.freeze 7 rfl
  refine wc_lp (σ := Nat × Int) (inl [6, 9, 10, 34, 35, 36, 37, 38, 39, 40, 41, 42, 43, 44, 45, 46, 47, 48, 49, 50]) (fun ⟨k6, i7⟩ => [(34, (.int .i64 (i7)))]) (fun ⟨k6, i7⟩ w => SH w0 M BE w (hset [(1, .sr rInt va4 a.args), (2, .sr rIns vb2 b.code), (3, .sr rProc vc c), (4, .blk b1 [(.int .i64 (a.op)), (.int .i64 (a.a)), (.int .i64 (a.b)), (.int .i64 (a.c)), va4]), (5, .blk b2 [(.int .i64 (b.params)), (.int .i64 (b.regs)), vb2]), (7, .rd rInt u5 [a.a, a.b, a.c])]) ∧ i7 = (k6 : Int) ∧ eachI (wandererref_checkIns_b16 a b) (wandererref_checkIns_k17 a b c) i7 ([a.a, a.b, a.c].drop k6) () = some r) (fun ⟨k6, i7⟩ => [a.a, a.b, a.c].length - k6) ⟨0, 0⟩ ⟨rfl, trivial⟩ ?_ ?_
  ·
   exact ⟨h.cn _, rfl, hs⟩
  ·
   rintro ⟨k6, i7⟩ w junk ⟨h, hik, hs⟩
   refine wc_seq (wc_region ?_)
   refine wl_ok (r_lss rfl rfl) (wl_nil (then_normal ?_))
   refine wc_seq (wc_if rfl (fun e11 => ?_) (fun e11 => ?_))
   ·
    refine wc_skip (then_normal ?_)
    obtain ⟨x8, e12a, e12b⟩ := drop_lt (hik ▸ e11)
    rw [e12b, eachI_cons] at hs
    generalize hnx10 : eachI (wandererref_checkIns_b16 a b) (wandererref_checkIns_k17 a b c) (i7 + 1) ([a.a, a.b, a.c].drop (k6 + 1)) = nx10 at hs
    have e12r := nat_rng ((h.rdS 7 rfl)).len_le hik e11
    refine wc_seq (wc_block (wc_seq (wc_region (wl_ok (r_move (v := (.int .i64 (i7))) rfl) ?_))))
    obtain ⟨b14, o15, cs16, h, r17, i13⟩ := h.ixR 7 8 rfl SliceOf51 rfl (nat_nn hik) (get_nat hik e12a)
    obtain rfl := r17
    refine wl_ok (i13 _ _ _ _ _ _ _ _ _ rfl rfl) (wl_ok (r_ldP (k := 0) h 8 rfl One3 rfl rfl) (wl_ok (r_assign (v := (.int .i64 (i7))) rfl) (wl_ok (r_assign (v := (.int .i64 (x8))) rfl) (wl_nil (then_normal (wc_seq (wc_region (wl_ok (r_move (v := (strV ((lk a.op ([(1, [114, 110, 45]), (2, [114, 114, 45]), (3, [114, 114, 114]), (4, [114, 114, 110]), (5, [114, 110, 45]), (6, [114, 114, 110]), (7, [114, 110, 45]), (8, [114, 45, 45]), (9, [114, 45, 45]), (10, [45, 45, 45]), (11, [114, 45, 45]), (12, [45, 110, 45]), (13, [114, 110, 45])] : List (Int × Str))).getD []))) rfl) (wl_ok (r_move (v := (.int .i64 (i7))) rfl) ?_)))))))))
    obtain ⟨x18, e19, hs⟩ := o_bind hs
    refine wl_ok (r_indexS Tryz.underlying9 rfl rfl (o_idx e19).1 (o_idx e19).2) (wl_ok (r_eql rfl rfl) (wl_ok (r_move (v := (.bool (decide (((x18.toNat : Int) : Int) = 114)))) rfl) (wl_gd0 rfl rfl (fun q => r_move (v := (.int .i64 (x8))) rfl) (wl_gd0 rfl rfl (fun q => r_fieldAddr Fld40x1 rfl) (wl_gd0 rfl rfl (fun q => r_ldB h 5 rfl One3 (gvt q) rfl) (w_callG0 rfl rfl fnOk68 rfl (fun q => la_cons (gvt q) (la_cons (gvt q) rfl)) (wandererref_below_c _ _ h.lt x8 b.regs _ rfl) fun w k20 => ?_))))))
    replace h := h.grow k20
    refine wl_gd0 rfl rfl (fun q => r_notb (gvt q)) (wl_ok (r_pand rfl rfl evc) (wl_nil (then_normal (wc_ifb hs rfl (fun c21 hs => ?_) (fun c21 hs => ?_)))))
    ·
     refine wc_seq (wc_region (wl_ok (r_assign (v := (.int .i64 (3))) rfl) (wl_nil (then_normal (wc_ret (inBlock_ret (then_ret (then_ret (inBlock_ret (then_ret (fin1 (v := (.int .i64 (3))) Tryz.results48 rfl ?_)))))))))))
     obtain rfl := Option.some.inj hs
     exact ⟨h.grown, rfl⟩
    ·
     refine wc_skip (inBlock_normal (then_normal (wc_region (wl_ok (r_add rfl rfl e12r) (wl_ok (r_move (v := (.int .i64 ((i7 + 1)))) rfl) (wl_nil (then_loop ?_)))))))
     subst hnx10
     exact lend ⟨k6 + 1, i7 + 1⟩ ⟨h.cn _, by omega, hs⟩ (by have := of_decide_eq_true e11; dsimp only; omega)
   ·
    rw [drop_ge (hik ▸ e11), eachI_nil] at hs
    refine wc_exit (then_exit (then_exit (inBlock_eq (then_normal (wc_seq (wc_region (wl_ok (r_assign (v := (.int .i64 (0))) rfl) (wl_nil (then_normal (wc_join (σ := Bool × Int) (inl [6, 8, 11, 51, 52, 53, 54, 55, 56, 57, 58, 59, 60, 61, 62, 63, 64, 65, 66, 67, 68, 69, 70, 71, 72, 73, 74, 75, 76, 77, 78, 79, 80, 81, 82, 83, 84, 85, 86, 87, 88, 89, 90, 91, 92, 93, 94, 95, 96, 97, 98, 99, 100, 101, 102, 103, 104]) (fun ⟨x22, x23⟩ => [(8, (.bool (x22))), (11, (.int .i64 (x23)))]) (fun ⟨x22, x23⟩ w => SH w0 M BE w (hset [(1, .sr rInt va4 a.args), (2, .sr rIns vb2 b.code), (4, .blk b1 [(.int .i64 (a.op)), (.int .i64 (a.a)), (.int .i64 (a.b)), (.int .i64 (a.c)), va4]), (5, .blk b2 [(.int .i64 (b.params)), (.int .i64 (b.regs)), vb2])]) ∧ wandererref_checkIns_j5 a b c x22 x23 = some r) ?_ ?_))))))))))
    ·
     rintro ⟨x22, x23⟩ w junk ⟨h, hs⟩
     refine wc_seq (wc_seq (wc_region (wl_ok (r_move (v := (.bool (x22))) rfl) (wl_ok (r_notb rfl) (wl_nil (then_normal (wc_ifb hs rfl (fun c24 hs => ?_) (fun c24 hs => ?_))))))))
     ·
      refine wc_seq (wc_region (wl_ok (r_assign (v := (.int .i64 (3))) rfl) (wl_nil (then_normal (wc_ret (then_ret (fin1 (v := (.int .i64 (3))) Tryz.results48 rfl ?_)))))))
      obtain rfl := Option.some.inj hs
      exact ⟨h.grown, rfl⟩
     ·
      refine wc_skip (then_normal (wc_seq (wc_seq (wc_region (wl_ok (r_fieldAddr Fld90x1 rfl) (wl_ok (r_ldB h 4 rfl One3 rfl rfl) (wl_ok (r_fieldAddr Fld90x2 rfl) (wl_ok (r_ldB h 4 rfl One3 rfl rfl) (wl_ok (r_fieldAddr Fld90x3 rfl) (wl_ok (r_ldB h 4 rfl One3 rfl rfl) (w_bs (R := rInt) (vs := [(.int .i64 (a.a)), (.int .i64 (a.b)), (.int .i64 (a.c))]) (xs := [a.a, a.b, a.c]) h 9 ElemOf51 rfl rfl rfl ⟨rfl, ⟨rfl, ⟨rfl, trivial⟩⟩⟩ rfl fun w u25 h => wl_ok (r_len SliceOf51 rfl (h.ownS 9 rfl)) (wl_ok (r_move (v := (.int .i64 (0))) rfl) (wl_nil (then_normal (wc_block ?_)))))))))))))))
      replace h := h.freeze 9 rfl
      refine wc_lp (σ := Nat × Int) (inl [6, 12, 13, 115, 116, 117, 118, 119, 120, 121, 122, 123, 124, 125, 126, 127, 128]) (fun ⟨k26, i27⟩ => [(115, (.int .i64 (i27)))]) (fun ⟨k26, i27⟩ w => SH w0 M BE w (hset [(1, .sr rInt va4 a.args), (2, .sr rIns vb2 b.code), (4, .blk b1 [(.int .i64 (a.op)), (.int .i64 (a.a)), (.int .i64 (a.b)), (.int .i64 (a.c)), va4]), (5, .blk b2 [(.int .i64 (b.params)), (.int .i64 (b.regs)), vb2]), (9, .rd rInt u25 [a.a, a.b, a.c])]) ∧ i27 = (k26 : Int) ∧ eachI (wandererref_checkIns_b12 a) (wandererref_checkIns_k13 a x23 b) i27 ([a.a, a.b, a.c].drop k26) () = some r) (fun ⟨k26, i27⟩ => [a.a, a.b, a.c].length - k26) ⟨0, 0⟩ ⟨rfl, trivial⟩ ?_ ?_
      ·
       exact ⟨h.cn _, rfl, hs⟩
      ·
       rintro ⟨k26, i27⟩ w junk ⟨h, hik, hs⟩
       refine wc_seq (wc_region ?_)
       refine wl_ok (r_lss rfl rfl) (wl_nil (then_normal ?_))
       refine wc_seq (wc_if rfl (fun e31 => ?_) (fun e31 => ?_))
       ·
        refine wc_skip (then_normal ?_)
        obtain ⟨x28, e32a, e32b⟩ := drop_lt (hik ▸ e31)
        rw [e32b, eachI_cons] at hs
        generalize hnx30 : eachI (wandererref_checkIns_b12 a) (wandererref_checkIns_k13 a x23 b) (i27 + 1) ([a.a, a.b, a.c].drop (k26 + 1)) = nx30 at hs
        have e32r := nat_rng ((h.rdS 9 rfl)).len_le hik e31
        refine wc_seq (wc_block (wc_seq (wc_region (wl_ok (r_move (v := (.int .i64 (i27))) rfl) ?_))))
        obtain ⟨b34, o35, cs36, h, r37, i33⟩ := h.ixR 9 10 rfl SliceOf51 rfl (nat_nn hik) (get_nat hik e32a)
        obtain rfl := r37
        refine wl_ok (i33 _ _ _ _ _ _ _ _ _ rfl rfl) (wl_ok (r_ldP (k := 0) h 10 rfl One3 rfl rfl) (wl_ok (r_assign (v := (.int .i64 (i27))) rfl) (wl_ok (r_assign (v := (.int .i64 (x28))) rfl) (wl_nil (then_normal (wc_seq (wc_region (wl_ok (r_move (v := (strV ((lk a.op ([(1, [114, 110, 45]), (2, [114, 114, 45]), (3, [114, 114, 114]), (4, [114, 114, 110]), (5, [114, 110, 45]), (6, [114, 114, 110]), (7, [114, 110, 45]), (8, [114, 45, 45]), (9, [114, 45, 45]), (10, [45, 45, 45]), (11, [114, 45, 45]), (12, [45, 110, 45]), (13, [114, 110, 45])] : List (Int × Str))).getD []))) rfl) (wl_ok (r_move (v := (.int .i64 (i27))) rfl) ?_)))))))))
        obtain ⟨x38, e39, hs⟩ := o_bind hs
        refine wl_ok (r_indexS Tryz.underlying9 rfl rfl (o_idx e39).1 (o_idx e39).2) (wl_ok (r_eql rfl rfl) (wl_ok (r_move (v := (.bool (decide (((x38.toNat : Int) : Int) = 45)))) rfl) (wl_gd0 rfl rfl (fun q => r_move (v := (.int .i64 (x28))) rfl) (wl_gd0 rfl rfl (fun q => r_neq (gvt q) rfl) (wl_ok (r_pand rfl rfl evc) (wl_nil (then_normal (wc_ifb hs rfl (fun c40 hs => ?_) (fun c40 hs => ?_)))))))))
        ·
         refine wc_seq (wc_region (wl_ok (r_assign (v := (.int .i64 (4))) rfl) (wl_nil (then_normal (wc_ret (inBlock_ret (then_ret (then_ret (inBlock_ret (then_ret (fin1 (v := (.int .i64 (4))) Tryz.results48 rfl ?_)))))))))))
         obtain rfl := Option.some.inj hs
         exact ⟨h.grown, rfl⟩
        ·
         refine wc_skip (inBlock_normal (then_normal (wc_region (wl_ok (r_add rfl rfl e32r) (wl_ok (r_move (v := (.int .i64 ((i27 + 1)))) rfl) (wl_nil (then_loop ?_)))))))
         subst hnx30
         exact lend ⟨k26 + 1, i27 + 1⟩ ⟨h.cn _, by omega, hs⟩ (by have := of_decide_eq_true e31; dsimp only; omega)
       ·
        rw [drop_ge (hik ▸ e31), eachI_nil] at hs
        refine wc_exit (then_exit (then_exit (inBlock_eq (then_normal (wc_seq (wc_seq (wc_region (wl_ok (r_fieldAddr Fld90x4 rfl) (wl_ok (r_ldB h 4 rfl One51 rfl rfl) (wl_ok (r_len SliceOf51 rfl (h.srS 1 rfl)) (wl_ok (r_move (v := (.int .i64 (x23))) rfl) (wl_ok (r_neq rfl rfl) (wl_nil (then_normal (wc_ifb hs rfl (fun c41 hs => ?_) (fun c41 hs => ?_))))))))))))))))
        ·
         refine wc_seq (wc_region (wl_ok (r_assign (v := (.int .i64 (4))) rfl) (wl_nil (then_normal (wc_ret (then_ret (fin1 (v := (.int .i64 (4))) Tryz.results48 rfl ?_)))))))
         obtain rfl := Option.some.inj hs
         exact ⟨h.grown, rfl⟩
        ·
         refine wc_skip (then_normal (wc_seq (wc_seq (wc_region (wl_ok (r_fieldAddr Fld90x4 rfl) (wl_ok (r_ldB h 4 rfl One51 rfl rfl) (wl_ok (r_len SliceOf51 rfl (h.srS 1 rfl)) (wl_ok (r_move (v := (.int .i64 (0))) rfl) (wl_nil (then_normal (wc_block (wc_lp (σ := Nat × Int) (inl [6, 15, 137, 138, 139, 140, 141, 142, 143, 144, 145, 146, 147, 148, 149, 150, 151]) (fun ⟨k42, i43⟩ => [(137, (.int .i64 (i43)))]) (fun ⟨k42, i43⟩ w => SH w0 M BE w (hset [(1, .sr rInt va4 a.args), (2, .sr rIns vb2 b.code), (4, .blk b1 [(.int .i64 (a.op)), (.int .i64 (a.a)), (.int .i64 (a.b)), (.int .i64 (a.c)), va4]), (5, .blk b2 [(.int .i64 (b.params)), (.int .i64 (b.regs)), vb2])]) ∧ i43 = (k42 : Int) ∧ each (wandererref_checkIns_b10 a b) wandererref_checkIns_k11 (a.args.drop k42) () = some r) (fun ⟨k42, i43⟩ => a.args.length - k42) ⟨0, 0⟩ ⟨rfl, trivial⟩ ?_ ?_))))))))))))
         ·
          exact ⟨h.cn _, rfl, hs⟩
         ·
          rintro ⟨k42, i43⟩ w junk ⟨h, hik, hs⟩
          refine wc_seq (wc_region ?_)
          refine wl_ok (r_lss rfl rfl) (wl_nil (then_normal ?_))
          refine wc_seq (wc_if rfl (fun e47 => ?_) (fun e47 => ?_))
          ·
           refine wc_skip (then_normal ?_)
           obtain ⟨x44, e48a, e48b⟩ := drop_lt (hik ▸ e47)
           rw [e48b, each_cons] at hs
           generalize hnx46 : each (wandererref_checkIns_b10 a b) wandererref_checkIns_k11 (a.args.drop (k42 + 1)) = nx46 at hs
           have e48r := nat_rng ((h.srS 1 rfl)).len_le hik e47
           refine wc_seq (wc_block (wc_seq (wc_region ?_)))
           obtain ⟨b50, o51, cs52, h, r53, i49⟩ := h.ixS 1 11 rfl SliceOf51 rfl (nat_nn hik) (get_nat hik e48a)
           obtain rfl := r53
           refine wl_ok (i49 _ _ _ _ _ _ _ _ _ rfl rfl) (wl_ok (r_ldP (k := 0) h 11 rfl One3 rfl rfl) (wl_ok (r_assign (v := (.int .i64 (x44))) rfl) (wl_nil (then_normal (wc_seq (wc_region (wl_ok (r_fieldAddr Fld90x0 rfl) (wl_ok (r_ldB h 4 rfl One3 rfl rfl) (wl_ok (r_eql rfl rfl) (wl_ok (r_move (v := (.bool (decide ((a.op : Int) = 7)))) rfl) (wl_gd0 rfl rfl (fun q => r_move (v := (.int .i64 (x44))) rfl) (wl_gd0 rfl rfl (fun q => r_fieldAddr Fld40x1 rfl) (wl_gd0 rfl rfl (fun q => r_ldB h 5 rfl One3 (gvt q) rfl) (w_callG0 rfl rfl fnOk68 rfl (fun q => la_cons (gvt q) (la_cons (gvt q) rfl)) (wandererref_below_c _ _ h.lt x44 b.regs _ rfl) fun w k54 => ?_))))))))))))))
           replace h := h.grow k54
           refine wl_gd0 rfl rfl (fun q => r_notb (gvt q)) (wl_ok (r_pand rfl rfl evc) (wl_nil (then_normal (wc_ifb hs rfl (fun c55 hs => ?_) (fun c55 hs => ?_)))))
           ·
            refine wc_seq (wc_region (wl_ok (r_assign (v := (.int .i64 (3))) rfl) (wl_nil (then_normal (wc_ret (inBlock_ret (then_ret (then_ret (inBlock_ret (then_ret (fin1 (v := (.int .i64 (3))) Tryz.results48 rfl ?_)))))))))))
            obtain rfl := Option.some.inj hs
            exact ⟨h.grown, rfl⟩
           ·
            refine wc_skip (inBlock_normal (then_normal (wc_region (wl_ok (r_add rfl rfl e48r) (wl_ok (r_move (v := (.int .i64 ((i43 + 1)))) rfl) (wl_nil (then_loop ?_)))))))
            subst hnx46
            exact lend ⟨k42 + 1, i43 + 1⟩ ⟨h.cn _, by omega, hs⟩ (by have := of_decide_eq_true e47; dsimp only; omega)
          ·
           rw [drop_ge (hik ▸ e47), each_nil] at hs
           refine wc_exit (then_exit (then_exit (inBlock_eq (then_normal (wc_seq (wc_region (wl_ok (r_assign (v := (.int .i64 (0))) rfl) (wl_nil (then_normal (wc_ret (fin1 (v := (.int .i64 (0))) Tryz.results48 rfl ?_)))))))))))
           obtain rfl := Option.some.inj hs
           exact ⟨h.grown, rfl⟩
    ·
     refine wc_seq (wc_region (wl_ok (r_fieldAddr Fld90x0 rfl) (wl_ok (r_ldB h 4 rfl One3 rfl rfl) (wl_nil (then_normal (wc_block (wc_seq (wc_region (wl_ok (r_eql rfl rfl) (wl_ok (r_assign (v := (.bool (decide ((a.op : Int) = 7)))) rfl) (wl_nil (then_normal (wc_ifb hs rfl (fun c56 hs => ?_) (fun c56 hs => ?_))))))))))))))
     ·
      refine wc_seq (wc_seq (wc_region (wl_ok (r_fieldAddr Fld90x2 rfl) (wl_ok (r_ldB h 4 rfl One3 rfl rfl) (wl_ok (r_move (v := vc) rfl) (wl_ok (r_len SliceOf33 rfl (h.srS 3 rfl)) (w_call fnOk68 rfl rfl (wandererref_below_c _ _ h.lt a.b (c.length : Int) _ rfl) ?_)))))))
      rintro _ w ⟨k57, rfl⟩
      refine ⟨_, rfl, ?_⟩
      replace h := h.grow k57
      refine wl_ok (r_notb rfl) (wl_nil (then_normal (wc_ifb hs rfl (fun c58 hs => ?_) (fun c58 hs => ?_))))
      ·
       refine wc_seq (wc_region (wl_ok (r_assign (v := (.int .i64 (5))) rfl) (wl_nil (then_normal (wc_ret (then_ret (inBlock_ret (then_ret (fin1 (v := (.int .i64 (5))) Tryz.results48 rfl ?_)))))))))
       obtain rfl := Option.some.inj hs
       exact ⟨h.grown, rfl⟩
      ·
       refine wc_skip (then_normal (wc_region (wl_ok (r_move (v := vc) rfl) (wl_ok (r_fieldAddr Fld90x2 rfl) (wl_ok (r_ldB h 4 rfl One3 rfl rfl) ?_)))))
       obtain ⟨x59, e60, hs⟩ := o_bind hs
       obtain ⟨b62, o63, cs64, h, r65, i61⟩ := h.ixS 3 12 rfl SliceOf33 rfl (o_idx e60).1 (o_idx e60).2
       obtain ⟨u66, rfl, g67⟩ := rProc_open r65
       replace h := h.knowRd 13 g67.up
       refine wl_ok (i61 _ _ _ _ _ _ _ _ _ rfl rfl) (wl_ok (r_fieldAddr Fld40x0 rfl) (wl_ok (r_ldP (k := 0) h 12 rfl One3 rfl rfl) (wl_ok (r_assign (v := (.int .i64 (x59.params))) rfl) (wl_nil (inBlock_normal (then_loop ?_))))))
       exact jend ((lk a.op ([(1, [114, 110, 45]), (2, [114, 114, 45]), (3, [114, 114, 114]), (4, [114, 114, 110]), (5, [114, 110, 45]), (6, [114, 114, 110]), (7, [114, 110, 45]), (8, [114, 45, 45]), (9, [114, 45, 45]), (10, [45, 45, 45]), (11, [114, 45, 45]), (12, [45, 110, 45]), (13, [114, 110, 45])] : List (Int × Str))).isSome, x59.params) ⟨h.cn _, hs⟩
     ·
      refine wc_seq (wc_region (wl_ok (r_eql rfl rfl) (wl_ok (r_assign (v := (.bool (decide ((a.op : Int) = 1)))) rfl) (wl_nil (then_normal (wc_ifb hs rfl (fun c68 hs => ?_) (fun c68 hs => ?_)))))))
      ·
       refine wc_region (wl_ok (r_fieldAddr Fld90x2 rfl) (wl_ok (r_ldB h 4 rfl One3 rfl rfl) (w_call fnOk74 rfl rfl (wandererref_fits_c _ _ h.lt a.b _ rfl) ?_)))
       rintro _ w ⟨k69, rfl⟩
       refine ⟨_, rfl, ?_⟩
       replace h := h.grow k69
       refine wl_ok (r_assign (v := (.bool ((wandererref_fits a.b)))) rfl) (wl_nil (inBlock_normal (then_loop ?_)))
       exact jend ((wandererref_fits a.b), 0) ⟨h.cn _, hs⟩
      ·
       refine wc_seq (wc_region (wl_ok (r_eql rfl rfl) (wl_ok (r_assign (v := (.bool (decide ((a.op : Int) = 5)))) rfl) (wl_nil (then_normal (wc_ifb hs rfl (fun c70 hs => ?_) (fun c70 hs => ?_)))))))
       ·
        refine wc_region (wl_ok (r_fieldAddr Fld90x2 rfl) (wl_ok (r_ldB h 4 rfl One3 rfl rfl) (w_call fnOk27 rfl rfl (wandererref_in_c _ _ h.lt a.b 1 4 _ rfl) ?_)))
        rintro _ w ⟨k71, rfl⟩
        refine ⟨_, rfl, ?_⟩
        replace h := h.grow k71
        refine wl_ok (r_assign (v := (.bool ((wandererref_in a.b 1 4)))) rfl) (wl_nil (inBlock_normal (then_loop ?_)))
        exact jend ((wandererref_in a.b 1 4), 0) ⟨h.cn _, hs⟩
       ·
        refine wc_join (σ := Bool) (inl [77, 78, 79]) (fun x72 => [(77, (.bool (x72)))]) (fun x72 w => SH w0 M BE w (hset [(1, .sr rInt va4 a.args), (2, .sr rIns vb2 b.code), (4, .blk b1 [(.int .i64 (a.op)), (.int .i64 (a.a)), (.int .i64 (a.b)), (.int .i64 (a.c)), va4]), (5, .blk b2 [(.int .i64 (b.params)), (.int .i64 (b.regs)), vb2])]) ∧ wandererref_checkIns_j14 a b c x72 = some r) ?_ ?_
        ·
         rintro x72 w junk ⟨h, hs⟩
         refine wc_ifb hs rfl (fun c73 hs => ?_) (fun c73 hs => ?_)
         ·
          refine wc_region (wl_ok (r_fieldAddr Fld90x3 rfl) (wl_ok (r_ldB h 4 rfl One3 rfl rfl) (w_call fnOk27 rfl rfl (wandererref_in_c _ _ h.lt a.c 0 3 _ rfl) ?_)))
          rintro _ w ⟨k74, rfl⟩
          refine ⟨_, rfl, ?_⟩
          replace h := h.grow k74
          refine wl_ok (r_assign (v := (.bool ((wandererref_in a.c 0 3)))) rfl) (wl_nil (inBlock_normal (then_loop ?_)))
          exact jend ((wandererref_in a.c 0 3), 0) ⟨h.cn _, hs⟩
         ·
          refine wc_seq (wc_region (wl_ok (r_eql rfl rfl) (wl_ok (r_assign (v := (.bool (decide ((a.op : Int) = 3)))) rfl) (wl_nil (then_normal (wc_ifb hs rfl (fun c75 hs => ?_) (fun c75 hs => ?_)))))))
          ·
           refine wc_seq (wc_region (wl_ok (r_assign (v := (.int .i64 (1))) rfl) (wl_nil (then_normal (wc_region (wl_ok (r_fieldAddr Fld90x4 rfl) (wl_ok (r_ldB h 4 rfl One51 rfl rfl) (wl_ok (r_len SliceOf51 rfl (h.srS 1 rfl)) (wl_ok (r_eql rfl rfl) (wl_ok (r_move (v := (.bool (decide (((a.args.length : Int) : Int) = 1)))) rfl) (c_split (b := decide (((a.args.length : Int) : Int) = 1)) hs (fun c76 hs => ?_) (fun c76 hs => ?_))))))))))))
           ·
            refine wl_on rfl (congrArg Value.bool c76) (wl_ok (r_fieldAddr Fld90x4 rfl) (wl_on rfl (congrArg Value.bool c76) (wl_ok (r_ldB h 4 rfl One51 rfl rfl) (wl_on rfl (congrArg Value.bool c76) ?_))))
            obtain ⟨x77, e78, hs⟩ := o_bind hs
            obtain ⟨b80, o81, cs82, h, r83, i79⟩ := h.ixS 1 14 rfl SliceOf51 rfl (o_idx e78).1 (o_idx e78).2
            obtain rfl := r83
            refine wl_ok (i79 _ _ _ _ _ _ _ _ _ rfl rfl) (wl_on rfl (congrArg Value.bool c76) (wl_ok (r_ldP (k := 0) h 14 rfl One3 rfl rfl) (wl_on rfl (congrArg Value.bool c76) (w_call fnOk27 rfl rfl (wandererref_in_c _ _ h.lt x77 1 5 _ rfl) ?_))))
            rintro _ w ⟨k84, rfl⟩
            refine ⟨_, rfl, ?_⟩
            replace h := h.grow k84
            refine wl_ok (r_pick (b := true) (v := (.bool ((wandererref_in x77 1 5)))) (congrArg Value.bool c76) rfl) (wl_ok (r_assign (v := (.bool ((wandererref_in x77 1 5)))) rfl) (wl_nil (inBlock_normal (then_loop ?_))))
            exact jend ((wandererref_in x77 1 5), 1) ⟨h.cn _, hs⟩
           ·
            refine wl_off (b' := false) rfl (congrArg Value.bool c76) rfl (wl_off (b' := false) rfl (congrArg Value.bool c76) rfl (wl_off (b' := false) rfl (congrArg Value.bool c76) rfl (wl_off (b' := false) rfl (congrArg Value.bool c76) rfl (wl_off (b' := false) rfl (congrArg Value.bool c76) rfl (wl_ok (r_pick (b := false) (v := (.bool (false))) (congrArg Value.bool c76) rfl) (wl_ok (r_assign (v := (.bool (false))) rfl) (wl_nil (inBlock_normal (then_loop ?_)))))))))
            exact jend (false, 1) ⟨h.cn _, hs⟩
          ·
           refine wc_join (σ := Bool) (inl [96, 97, 98]) (fun x85 => [(96, (.bool (x85)))]) (fun x85 w => SH w0 M BE w (hset [(1, .sr rInt va4 a.args), (2, .sr rIns vb2 b.code), (4, .blk b1 [(.int .i64 (a.op)), (.int .i64 (a.a)), (.int .i64 (a.b)), (.int .i64 (a.c)), va4]), (5, .blk b2 [(.int .i64 (b.params)), (.int .i64 (b.regs)), vb2])]) ∧ wandererref_checkIns_j15 a b c x85 = some r) ?_ ?_
           ·
            rintro x85 w junk ⟨h, hs⟩
            refine wc_ifb hs rfl (fun c86 hs => ?_) (fun c86 hs => ?_)
            ·
             refine wc_region (wl_ok (r_fieldAddr Fld90x2 rfl) (wl_ok (r_ldB h 4 rfl One3 rfl rfl) (wl_ok (r_fieldAddr Fld40x2 rfl) (wl_ok (r_ldB h 5 rfl One38 rfl rfl) (wl_ok (r_len SliceOf38 rfl (h.srS 2 rfl)) (w_call fnOk68 rfl rfl (wandererref_below_c _ _ h.lt a.b (b.code.length : Int) _ rfl) ?_))))))
             rintro _ w ⟨k87, rfl⟩
             refine ⟨_, rfl, ?_⟩
             replace h := h.grow k87
             refine wl_ok (r_assign (v := (.bool ((wandererref_below a.b (b.code.length : Int))))) rfl) (wl_nil (inBlock_normal (then_loop ?_)))
             exact jend ((wandererref_below a.b (b.code.length : Int)), 0) ⟨h.cn _, hs⟩
            ·
             refine wc_skip (inBlock_normal (then_loop ?_))
             exact jend ((lk a.op ([(1, [114, 110, 45]), (2, [114, 114, 45]), (3, [114, 114, 114]), (4, [114, 114, 110]), (5, [114, 110, 45]), (6, [114, 114, 110]), (7, [114, 110, 45]), (8, [114, 45, 45]), (9, [114, 45, 45]), (10, [45, 45, 45]), (11, [114, 45, 45]), (12, [45, 110, 45]), (13, [114, 110, 45])] : List (Int × Str))).isSome, 0) ⟨h.cn _, hs⟩
           ·
            refine wc_seq (wc_region (wl_ok (r_eql rfl rfl) (wl_ok (r_assign (v := (.bool (decide ((a.op : Int) = 12)))) rfl) (wl_nil (then_normal (wc_ifb hs rfl (fun c88 hs => ?_) (fun c88 hs => ?_)))))))
            ·
             refine wc_skip (then_loop ?_)
             exact jend (decide ((a.op : Int) = 12)) ⟨h.cn _, hs⟩
            ·
             refine wc_region (wl_ok (r_eql rfl rfl) (wl_ok (r_assign (v := (.bool (decide ((a.op : Int) = 13)))) rfl) (wl_nil (then_loop ?_))))
             exact jend (decide ((a.op : Int) = 13)) ⟨h.cn _, hs⟩
        ·
         refine wc_seq (wc_region (wl_ok (r_eql rfl rfl) (wl_ok (r_assign (v := (.bool (decide ((a.op : Int) = 4)))) rfl) (wl_nil (then_normal (wc_ifb hs rfl (fun c89 hs => ?_) (fun c89 hs => ?_)))))))
         ·
          refine wc_skip (then_loop ?_)
          exact jend (decide ((a.op : Int) = 4)) ⟨h.cn _, hs⟩
         ·
          refine wc_region (wl_ok (r_eql rfl rfl) (wl_ok (r_assign (v := (.bool (decide ((a.op : Int) = 6)))) rfl) (wl_nil (then_loop ?_))))
          exact jend (decide ((a.op : Int) = 6)) ⟨h.cn _, hs⟩
def wandererref_CheckCode_b35 (x25 : Proc) (a : List Proc) (x40 : Ins) (s : Unit) (nx42 : Unit → Option Int) : Option Int :=
  (wandererref_checkIns x40 x25 a).bind fun y53 => bif decide ((y53 : Int) ≠ 0) then some y53 else nx42 ()
def wandererref_CheckCode_k36 (x25 : Proc) (nx27 : Unit → Option Int) (s : Unit) : Option Int :=
  grd (I64 ((x25.code.length : Int) - 1)) ((idx x25.code ((x25.code.length : Int) - 1)).bind fun x58 => bif (decide ((x58.op : Int) ≠ 8) && decide ((x58.op : Int) ≠ 12)) then some 4 else nx27 ())
def wandererref_CheckCode_b37 (a : List Proc) (x25 : Proc) (s : Unit) (nx27 : Unit → Option Int) : Option Int :=
  each (wandererref_CheckCode_b35 x25 a) (wandererref_CheckCode_k36 x25 nx27) x25.code ()
def wandererref_CheckCode_k38 (s : Unit) : Option Int :=
  some 0
def wandererref_CheckCode_b39 (i4 : Int) (x5 : Proc) (s : Unit) (nx7 : Unit → Option Int) : Option Int :=
  bif (((!(wandererref_in x5.params 0 3)) || (!(wandererref_in x5.regs (max 1 x5.params) 40))) || (decide ((i4 : Int) = 0) && decide ((x5.params : Int) ≠ 0))) then some 3 else bif (!(wandererref_in (x5.code.length : Int) 1 2000)) then some 2 else nx7 ()
def wandererref_CheckCode_k40 (a : List Proc) (s : Unit) : Option Int :=
  each (wandererref_CheckCode_b37 a) wandererref_CheckCode_k38 a ()
def wandererref_CheckCode (a : List Proc) : Option Int :=
  bif (!(wandererref_in (a.length : Int) 1 4)) then some 2 else eachI wandererref_CheckCode_b39 (wandererref_CheckCode_k40 a) 0 a ()
theorem wandererref_CheckCode_c (w0 : World) (M : BS) (hM : ∀ b, M b → b < w0.heap.size) (va : Value) (a : List Proc) (ha : Rd2 rProc w0 BE M va a) (r : Int) (hs : wandererref_CheckCode a = some r) :
    Calls Tryz.prog 15 #[va] w0 (fun e w' => Grow w0 w' ∧ e = .returned (.int .i64 r)) := by
 refine calls_start (args := [va]) Tryz.func15 rfl Tryz.ntmps15 (Nat.le_of_ble_eq_true rfl) ?_
 have h := SH.init hM
 replace h := h.argSr 1 ha none_own
 have hl_a := ha.len_le
 refine wc_seq (wc_region (wl_ok (r_assign (v := (.int .i64 (0))) rfl) (wl_nil (then_normal (wc_seq (wc_seq (wc_region (wl_ok (r_move (v := va) rfl) (wl_ok (r_len SliceOf33 rfl (h.srS 1 rfl)) (w_call fnOk27 rfl rfl (wandererref_in_c _ _ h.lt (a.length : Int) 1 4 _ rfl) ?_))))))))))
 rintro _ w ⟨k1, rfl⟩
 refine ⟨_, rfl, ?_⟩
 replace h := h.grow k1
 refine wl_ok (r_notb rfl) (wl_nil (then_normal (wc_ifb hs rfl (fun c2 hs => ?_) (fun c2 hs => ?_))))
 ·
  refine wc_seq (wc_region (wl_ok (r_assign (v := (.int .i64 (2))) rfl) (wl_nil (then_normal (wc_ret (then_ret (fin1 (v := (.int .i64 (2))) Tryz.results15 rfl ?_)))))))
  obtain rfl := Option.some.inj hs
  exact ⟨h.grown, rfl⟩
 ·
  refine wc_skip (then_normal (wc_seq (wc_seq (wc_region (wl_ok (r_move (v := va) rfl) (wl_ok (r_len SliceOf33 rfl (h.srS 1 rfl)) (wl_ok (r_move (v := (.int .i64 (0))) rfl) (wl_nil (then_normal (wc_block (wc_lp (σ := Nat × Int) (inl [2, 3, 4, 17, 18, 19, 20, 21, 22, 23, 24, 25, 26, 27, 28, 29, 30, 31, 32, 33, 34, 35, 36, 37, 38, 39, 40, 41, 42, 43, 44, 45, 46, 47, 48, 49]) (fun ⟨k3, i4⟩ => [(17, (.int .i64 (i4)))]) (fun ⟨k3, i4⟩ w => SH w0 M BE w (hset [(1, .sr rProc va a)]) ∧ i4 = (k3 : Int) ∧ eachI wandererref_CheckCode_b39 (wandererref_CheckCode_k40 a) i4 (a.drop k3) () = some r) (fun ⟨k3, i4⟩ => a.length - k3) ⟨0, 0⟩ ⟨rfl, trivial⟩ ?_ ?_)))))))))))
  ·
   exact ⟨h.cn _, rfl, hs⟩
  ·
   rintro ⟨k3, i4⟩ w junk ⟨h, hik, hs⟩
   refine wc_seq (wc_region ?_)
   refine wl_ok (r_lss rfl rfl) (wl_nil (then_normal ?_))
   refine wc_seq (wc_if rfl (fun e8 => ?_) (fun e8 => ?_))
   ·
    refine wc_skip (then_normal ?_)
    obtain ⟨x5, e9a, e9b⟩ := drop_lt (hik ▸ e8)
    rw [e9b, eachI_cons] at hs
    generalize hnx7 : eachI wandererref_CheckCode_b39 (wandererref_CheckCode_k40 a) (i4 + 1) (a.drop (k3 + 1)) = nx7 at hs
    have e9r := nat_rng ((h.srS 1 rfl)).len_le hik e8
    refine wc_seq (wc_block (wc_seq (wc_region (wl_ok (r_move (v := (.int .i64 (i4))) rfl) ?_))))
    obtain ⟨b11, o12, cs13, h, r14, i10⟩ := h.ixS 1 2 rfl SliceOf33 rfl (nat_nn hik) (get_nat hik e9a)
    obtain ⟨u15, rfl, g16⟩ := rProc_open r14
    replace h := h.knowRd 3 g16.up
    refine wl_ok (i10 _ _ _ _ _ _ _ _ _ rfl rfl) (wl_ok (r_ldPN (k := 0) (vs := [(.int .i64 (x5.params)), (.int .i64 (x5.regs)), u15]) h 2 rfl Many40 rfl rfl rfl (Nat.le_of_ble_eq_true rfl)) (w_allocN h 4 Many40 fun w b17 h => wl_ok (r_assign (v := (.int .i64 (i4))) rfl) (w_stN (vs := [(.int .i64 (x5.params)), (.int .i64 (x5.regs)), u15]) h 4 [(.int .i64 (x5.params)), (.int .i64 (x5.regs)), u15] rfl Many40 rfl rfl rfl rfl rfl (ones_cons rfl (ones_cons rfl (ones_cons (h.rdAt 3 rfl).one ones_nil))) fun w h => wl_nil (then_normal (wc_seq (wc_seq (wc_region (wl_ok (r_fieldAddr Fld40x0 rfl) (wl_ok (r_ldB h 4 rfl One3 rfl rfl) (w_call fnOk27 rfl rfl (wandererref_in_c _ _ h.lt x5.params 0 3 _ rfl) ?_))))))))))
    rintro _ w ⟨k18, rfl⟩
    refine ⟨_, rfl, ?_⟩
    replace h := h.grow k18
    refine wl_ok (r_notb rfl) (wl_ok (r_move (v := (.bool ((!(wandererref_in x5.params 0 3))))) rfl) (wl_gd0 rfl rfl (fun q => r_fieldAddr Fld40x1 rfl) (wl_gd0 rfl rfl (fun q => r_ldB h 4 rfl One3 (gvt q) rfl) (wl_gd0 rfl rfl (fun q => r_fieldAddr Fld40x0 rfl) (wl_gd0 rfl rfl (fun q => r_ldB h 4 rfl One3 (gvt q) rfl) (wl_gd0 rfl rfl (fun q => r_max rfl (gvt q)) (w_callG0 rfl rfl fnOk27 rfl (fun q => la_cons (gvt q) (la_cons (gvt q) (la_cons rfl rfl))) (wandererref_in_c _ _ h.lt x5.regs (max 1 x5.params) 40 _ rfl) fun w k19 => ?_)))))))
    replace h := h.grow k19
    refine wl_gd0 rfl rfl (fun q => r_notb (gvt q)) (wl_ok (r_por rfl rfl evc) (wl_ok (r_move (v := (.bool (((!(wandererref_in x5.params 0 3)) || (!(wandererref_in x5.regs (max 1 x5.params) 40)))))) rfl) (wl_gd0 rfl rfl (fun q => r_move (v := (.int .i64 (i4))) rfl) (wl_gd0 rfl rfl (fun q => r_eql (gvt q) rfl) (wl_gd0 rfl rfl (fun q => r_move (v := (.bool (decide ((i4 : Int) = 0)))) (gvt q)) (wl_gd (((!(wandererref_in x5.params 0 3)) || (!(wandererref_in x5.regs (max 1 x5.params) 40))) == false) rfl rfl (fun q => r_fieldAddr Fld40x0 rfl) (wl_gd (((!(wandererref_in x5.params 0 3)) || (!(wandererref_in x5.regs (max 1 x5.params) 40))) == false) rfl rfl (fun q => r_ldB h 4 rfl One3 (gvt q) rfl) (wl_gd (((!(wandererref_in x5.params 0 3)) || (!(wandererref_in x5.regs (max 1 x5.params) 40))) == false) rfl rfl (fun q => r_neq (gvt q) rfl) (wl_gd0 rfl rfl (fun q => r_pand (gvt q) (gvn q) evc) (wl_ok (r_por rfl rfl evc) (wl_nil (then_normal (wc_ifb hs rfl (fun c20 hs => ?_) (fun c20 hs => ?_))))))))))))))
    ·
     refine wc_seq (wc_region (wl_ok (r_assign (v := (.int .i64 (3))) rfl) (wl_nil (then_normal (wc_ret (then_ret (inBlock_ret (then_ret (then_ret (inBlock_ret (then_ret (fin1 (v := (.int .i64 (3))) Tryz.results15 rfl ?_))))))))))))
     obtain rfl := Option.some.inj hs
     exact ⟨h.grown, rfl⟩
    ·
     refine wc_skip (then_normal (wc_seq (wc_region (wl_ok (r_fieldAddr Fld40x2 rfl) (wl_ok (r_ldB h 4 rfl One38 rfl rfl) (wl_ok (r_len SliceOf38 rfl (h.rdS 3 rfl)) (w_call fnOk27 rfl rfl (wandererref_in_c _ _ h.lt (x5.code.length : Int) 1 2000 _ rfl) ?_)))))))
     rintro _ w ⟨k21, rfl⟩
     refine ⟨_, rfl, ?_⟩
     replace h := h.grow k21
     refine wl_ok (r_notb rfl) (wl_nil (then_normal (wc_ifb hs rfl (fun c22 hs => ?_) (fun c22 hs => ?_))))
     ·
      refine wc_seq (wc_region (wl_ok (r_assign (v := (.int .i64 (2))) rfl) (wl_nil (then_normal (wc_ret (inBlock_ret (then_ret (then_ret (inBlock_ret (then_ret (fin1 (v := (.int .i64 (2))) Tryz.results15 rfl ?_)))))))))))
      obtain rfl := Option.some.inj hs
      exact ⟨h.grown, rfl⟩
     ·
      refine wc_skip (inBlock_normal (then_normal (wc_region (wl_ok (r_add rfl rfl e9r) (wl_ok (r_move (v := (.int .i64 ((i4 + 1)))) rfl) (wl_nil (then_loop ?_)))))))
      subst hnx7
      exact lend ⟨k3 + 1, i4 + 1⟩ ⟨h.cn _, by omega, hs⟩ (by have := of_decide_eq_true e8; dsimp only; omega)
   ·
    rw [drop_ge (hik ▸ e8), eachI_nil] at hs
    refine wc_exit (then_exit (then_exit (inBlock_eq (then_normal (wc_seq (wc_seq (wc_region (wl_ok (r_move (v := va) rfl) (wl_ok (r_len SliceOf33 rfl (h.srS 1 rfl)) (wl_ok (r_move (v := (.int .i64 (0))) rfl) (wl_nil (then_normal (wc_block (wc_lp (σ := Nat × Int) (inl [2, 6, 8, 9, 10, 52, 53, 54, 55, 56, 57, 58, 59, 60, 61, 62, 63, 64, 65, 66, 67, 68, 69, 70, 71, 72, 73, 74, 75, 76, 77, 78, 79, 80, 81, 82, 83, 84, 85, 86]) (fun ⟨k23, i24⟩ => [(52, (.int .i64 (i24)))]) (fun ⟨k23, i24⟩ w => SH w0 M BE w (hset [(1, .sr rProc va a)]) ∧ i24 = (k23 : Int) ∧ each (wandererref_CheckCode_b37 a) wandererref_CheckCode_k38 (a.drop k23) () = some r) (fun ⟨k23, i24⟩ => a.length - k23) ⟨0, 0⟩ ⟨rfl, trivial⟩ ?_ ?_))))))))))))))
    ·
     exact ⟨h.cn _, rfl, hs⟩
    ·
     rintro ⟨k23, i24⟩ w junk ⟨h, hik, hs⟩
     refine wc_seq (wc_region ?_)
     refine wl_ok (r_lss rfl rfl) (wl_nil (then_normal ?_))
     refine wc_seq (wc_if rfl (fun e28 => ?_) (fun e28 => ?_))
     ·
      refine wc_skip (then_normal ?_)
      obtain ⟨x25, e29a, e29b⟩ := drop_lt (hik ▸ e28)
      rw [e29b, each_cons] at hs
      generalize hnx27 : each (wandererref_CheckCode_b37 a) wandererref_CheckCode_k38 (a.drop (k23 + 1)) = nx27 at hs
      have e29r := nat_rng ((h.srS 1 rfl)).len_le hik e28
      refine wc_seq (wc_block (wc_seq (wc_region ?_)))
      obtain ⟨b31, o32, cs33, h, r34, i30⟩ := h.ixS 1 5 rfl SliceOf33 rfl (nat_nn hik) (get_nat hik e29a)
      obtain ⟨u35, rfl, g36⟩ := rProc_open r34
      replace h := h.knowRd 6 g36.up
      refine wl_ok (i30 _ _ _ _ _ _ _ _ _ rfl rfl) (wl_ok (r_ldPN (k := 0) (vs := [(.int .i64 (x25.params)), (.int .i64 (x25.regs)), u35]) h 5 rfl Many40 rfl rfl rfl (Nat.le_of_ble_eq_true rfl)) (w_allocN h 7 Many40 fun w b37 h => w_stN (vs := [(.int .i64 (x25.params)), (.int .i64 (x25.regs)), u35]) h 7 [(.int .i64 (x25.params)), (.int .i64 (x25.regs)), u35] rfl Many40 rfl rfl rfl rfl rfl (ones_cons rfl (ones_cons rfl (ones_cons (h.rdAt 6 rfl).one ones_nil))) fun w h => wl_nil (then_normal (wc_seq (wc_seq (wc_region (wl_ok (r_fieldAddr Fld40x2 rfl) (wl_ok (r_ldB h 7 rfl One38 rfl rfl) (wl_ok (r_len SliceOf38 rfl (h.rdS 6 rfl)) (wl_ok (r_move (v := (.int .i64 (0))) rfl) (wl_nil (then_normal (wc_block (wc_lp (σ := Nat × Int) (inl [2, 8, 9, 59, 60, 61, 62, 63, 64, 65, 66, 67, 68, 69, 70]) (fun ⟨k38, i39⟩ => [(59, (.int .i64 (i39)))]) (fun ⟨k38, i39⟩ w => SH w0 M BE w (hset [(1, .sr rProc va a), (6, .rd rIns u35 x25.code), (7, .blk b37 [(.int .i64 (x25.params)), (.int .i64 (x25.regs)), u35])]) ∧ i39 = (k38 : Int) ∧ each (wandererref_CheckCode_b35 x25 a) (wandererref_CheckCode_k36 x25 nx27) (x25.code.drop k38) () = some r) (fun ⟨k38, i39⟩ => x25.code.length - k38) ⟨0, 0⟩ ⟨rfl, trivial⟩ ?_ ?_))))))))))))))
      ·
       exact ⟨h.cn _, rfl, hs⟩
      ·
       rintro ⟨k38, i39⟩ w junk ⟨h, hik, hs⟩
       refine wc_seq (wc_region ?_)
       refine wl_ok (r_lss rfl rfl) (wl_nil (then_normal ?_))
       refine wc_seq (wc_if rfl (fun e43 => ?_) (fun e43 => ?_))
       ·
        refine wc_skip (then_normal ?_)
        obtain ⟨x40, e44a, e44b⟩ := drop_lt (hik ▸ e43)
        rw [e44b, each_cons] at hs
        generalize hnx42 : each (wandererref_CheckCode_b35 x25 a) (wandererref_CheckCode_k36 x25 nx27) (x25.code.drop (k38 + 1)) = nx42 at hs
        have e44r := nat_rng ((h.rdS 6 rfl)).len_le hik e43
        refine wc_seq (wc_block (wc_seq (wc_region ?_)))
        obtain ⟨b46, o47, cs48, h, r49, i45⟩ := h.ixR 6 8 rfl SliceOf38 rfl (nat_nn hik) (get_nat hik e44a)
        obtain ⟨u50, rfl, g51⟩ := rIns_open r49
        replace h := h.knowRd 9 g51.up
        refine wl_ok (i45 _ _ _ _ _ _ _ _ _ rfl rfl) (wl_ok (r_ldPN (k := 0) (vs := [(.int .i64 (x40.op)), (.int .i64 (x40.a)), (.int .i64 (x40.b)), (.int .i64 (x40.c)), u50]) h 8 rfl Many90 rfl rfl rfl (Nat.le_of_ble_eq_true rfl)) (w_allocN h 10 Many90 fun w b52 h => w_stN (vs := [(.int .i64 (x40.op)), (.int .i64 (x40.a)), (.int .i64 (x40.b)), (.int .i64 (x40.c)), u50]) h 10 [(.int .i64 (x40.op)), (.int .i64 (x40.a)), (.int .i64 (x40.b)), (.int .i64 (x40.c)), u50] rfl Many90 rfl rfl rfl rfl rfl (ones_cons rfl (ones_cons rfl (ones_cons rfl (ones_cons rfl (ones_cons (h.rdAt 9 rfl).one ones_nil))))) fun w h => wl_nil (then_normal (wc_seq (wc_region (wl_ok (r_ldBN (vs := [(.int .i64 (x40.op)), (.int .i64 (x40.a)), (.int .i64 (x40.b)), (.int .i64 (x40.c)), u50]) h 10 rfl Many90 rfl rfl rfl) (wl_ok (r_ldBN (vs := [(.int .i64 (x25.params)), (.int .i64 (x25.regs)), u35]) h 7 rfl Many40 rfl rfl rfl) (wl_ok (r_move (v := va) rfl) ?_))))))))
        obtain ⟨y53, e54, hs⟩ := o_bind hs
        refine w_call fnOk48 rfl rfl (wandererref_checkIns_c _ _ h.lt x40 u50 (h.rdS 9 rfl) x25 u35 (h.rdS 6 rfl) va a (h.srS 1 rfl) _ e54) ?_
        rintro _ w ⟨k55, rfl⟩
        refine ⟨_, rfl, ?_⟩
        replace h := h.grow k55
        refine wl_ok (r_assign (v := (.int .i64 (y53))) rfl) (wl_nil (then_normal (wc_seq (wc_region (wl_ok (r_move (v := (.int .i64 (y53))) rfl) (wl_ok (r_neq rfl rfl) (wl_nil (then_normal (wc_ifb hs rfl (fun c56 hs => ?_) (fun c56 hs => ?_))))))))))
        ·
         refine wc_seq (wc_region (wl_ok (r_move (v := (.int .i64 (y53))) rfl) (wl_ok (r_assign (v := (.int .i64 (y53))) rfl) (wl_nil (then_normal (wc_ret (inBlock_ret (then_ret (then_ret (inBlock_ret (then_ret (inBlock_ret (then_ret (then_ret (inBlock_ret (then_ret (fin1 (v := (.int .i64 (y53))) Tryz.results15 rfl ?_)))))))))))))))))
         obtain rfl := Option.some.inj hs
         exact ⟨h.grown, rfl⟩
        ·
         refine wc_skip (inBlock_normal (then_normal (wc_region (wl_ok (r_add rfl rfl e44r) (wl_ok (r_move (v := (.int .i64 ((i39 + 1)))) rfl) (wl_nil (then_loop ?_)))))))
         subst hnx42
         exact lend ⟨k38 + 1, i39 + 1⟩ ⟨h.cn _, by omega, hs⟩ (by have := of_decide_eq_true e43; dsimp only; omega)
       ·
        rw [drop_ge (hik ▸ e43), each_nil] at hs
        refine wc_exit (then_exit (then_exit (inBlock_eq (then_normal (wc_seq (wc_region (wl_ok (r_fieldAddr Fld40x2 rfl) (wl_ok (r_ldB h 7 rfl One38 rfl rfl) (wl_ok (r_fieldAddr Fld40x2 rfl) (wl_ok (r_ldB h 7 rfl One38 rfl rfl) (wl_ok (r_len SliceOf38 rfl (h.rdS 6 rfl)) ?_)))))))))))
        obtain ⟨a57, hs⟩ := o_grd hs
        refine wl_ok (r_sub rfl rfl a57) ?_
        obtain ⟨x58, e59, hs⟩ := o_bind hs
        obtain ⟨b61, o62, cs63, h, r64, i60⟩ := h.ixR 6 11 rfl SliceOf38 rfl (o_idx e59).1 (o_idx e59).2
        obtain ⟨u65, rfl, g66⟩ := rIns_open r64
        replace h := h.knowRd 12 g66.up
        refine wl_ok (i60 _ _ _ _ _ _ _ _ _ rfl rfl) (wl_ok (r_fieldAddr Fld90x0 rfl) (wl_ok (r_ldP (k := 0) h 11 rfl One3 rfl rfl) (wl_ok (r_assign (v := (.int .i64 (x58.op))) rfl) (wl_nil (then_normal (wc_seq (wc_region (wl_ok (r_move (v := (.int .i64 (x58.op))) rfl) (wl_ok (r_neq rfl rfl) (wl_ok (r_move (v := (.bool (decide ((x58.op : Int) ≠ 8)))) rfl) (wl_gd0 rfl rfl (fun q => r_move (v := (.int .i64 (x58.op))) rfl) (wl_gd0 rfl rfl (fun q => r_neq (gvt q) rfl) (wl_ok (r_pand rfl rfl evc) (wl_nil (then_normal (wc_ifb hs rfl (fun c67 hs => ?_) (fun c67 hs => ?_)))))))))))))))))
        ·
         refine wc_seq (wc_region (wl_ok (r_assign (v := (.int .i64 (4))) rfl) (wl_nil (then_normal (wc_ret (inBlock_ret (then_ret (then_ret (inBlock_ret (then_ret (fin1 (v := (.int .i64 (4))) Tryz.results15 rfl ?_)))))))))))
         obtain rfl := Option.some.inj hs
         exact ⟨h.grown, rfl⟩
        ·
         refine wc_skip (inBlock_normal (then_normal (wc_region (wl_ok (r_add rfl rfl e29r) (wl_ok (r_move (v := (.int .i64 ((i24 + 1)))) rfl) (wl_nil (then_loop ?_)))))))
         subst hnx27
         exact lend ⟨k23 + 1, i24 + 1⟩ ⟨h.cn _, by omega, hs⟩ (by have := of_decide_eq_true e28; dsimp only; omega)
     ·
      rw [drop_ge (hik ▸ e28), each_nil] at hs
      refine wc_exit (then_exit (then_exit (inBlock_eq (then_normal (wc_seq (wc_region (wl_ok (r_assign (v := (.int .i64 (0))) rfl) (wl_nil (then_normal (wc_ret (fin1 (v := (.int .i64 (0))) Tryz.results15 rfl ?_)))))))))))
      obtain rfl := Option.some.inj hs
      exact ⟨h.grown, rfl⟩
def slices_Equal_int_b3 (a : List Int) (b : List Int) (i3 : Int) (s : Unit) (nx6 : Unit → Option Bool) : Option Bool :=
  (idx a i3).bind fun x9 => (idx b i3).bind fun x16 => bif decide ((x9 : Int) ≠ x16) then some false else nx6 ()
def slices_Equal_int_k4 (s : Unit) : Option Bool :=
  some true
def slices_Equal_int (a : List Int) (b : List Int) : Option Bool :=
  bif decide (((a.length : Int) : Int) ≠ (b.length : Int)) then some false else upto (slices_Equal_int_b3 a b) slices_Equal_int_k4 0 ((a.length : Int)).toNat ()
theorem slices_Equal_int_c (w0 : World) (M : BS) (hM : ∀ b, M b → b < w0.heap.size) (va : Value) (a : List Int) (ha : Rd2 rInt w0 BE M va a) (vb : Value) (b : List Int) (hb : Rd2 rInt w0 BE M vb b) (r : Bool) (hs : slices_Equal_int a b = some r) :
    Calls Tryz.prog 53 #[va, vb] w0 (fun e w' => Grow w0 w' ∧ e = .returned (.bool r)) := by
 refine calls_start (args := [va, vb]) Tryz.func53 rfl Tryz.ntmps53 (Nat.le_of_ble_eq_true rfl) ?_
 have h := SH.init hM
 replace h := h.argSr 1 ha none_own
 replace h := h.argSr 2 hb (hupd_own_sr none_own)
 have hl_a := ha.len_le
 have hl_b := hb.len_le
 refine wc_seq (wc_region (wl_ok (r_assign (v := (.bool (false))) rfl) (wl_nil (then_normal (wc_seq (wc_seq (wc_region (wl_ok (r_move (v := va) rfl) (wl_ok (r_len SliceOf51 rfl (h.srS 1 rfl)) (wl_ok (r_move (v := vb) rfl) (wl_ok (r_len SliceOf51 rfl (h.srS 2 rfl)) (wl_ok (r_neq rfl rfl) (wl_nil (then_normal (wc_ifb hs rfl (fun c1 hs => ?_) (fun c1 hs => ?_))))))))))))))))
 ·
  refine wc_seq (wc_region (wl_ok (r_assign (v := (.bool (false))) rfl) (wl_nil (then_normal (wc_ret (then_ret (fin1 (v := (.bool (false))) Tryz.results53 rfl ?_)))))))
  obtain rfl := Option.some.inj hs
  exact ⟨h.grown, rfl⟩
 ·
  refine wc_skip (then_normal (wc_seq (wc_seq (wc_region (wl_ok (r_move (v := va) rfl) (wl_ok (r_len SliceOf51 rfl (h.srS 1 rfl)) (wl_ok (r_move (v := (.int .i64 (0))) rfl) (wl_nil (then_normal (wc_block ?_))))))))))
  have hli3 := (h.srS 1 rfl).len_le
  refine wc_lp (σ := Nat × Int) (inl [4, 5, 13, 14, 15, 16, 17, 18, 19, 20, 21, 22, 23, 24, 25]) (fun ⟨k2, i3⟩ => [(13, (.int .i64 (i3)))]) (fun ⟨k2, i3⟩ w => SH w0 M BE w (hset [(1, .sr rInt va a), (2, .sr rInt vb b)]) ∧ i3 = (k2 : Int) ∧ upto (slices_Equal_int_b3 a b) slices_Equal_int_k4 i3 (((a.length : Int)).toNat - k2) () = some r) (fun ⟨k2, i3⟩ => ((a.length : Int)).toNat - k2) ⟨0, 0⟩ ⟨rfl, trivial⟩ ?_ ?_
  ·
   exact ⟨h.cn _, rfl, hs⟩
  ·
   rintro ⟨k2, i3⟩ w junk ⟨h, hik, hs⟩
   refine wc_seq (wc_region ?_)
   refine wl_ok (r_lss rfl rfl) (wl_nil (then_normal ?_))
   refine wc_seq (wc_if rfl (fun e7 => ?_) (fun e7 => ?_))
   ·
    refine wc_skip (then_normal ?_)
    rw [upto_lt (by have := of_decide_eq_true e7; omega)] at hs
    generalize hnx6 : upto (slices_Equal_int_b3 a b) slices_Equal_int_k4 (i3 + 1) (((a.length : Int)).toNat - (k2 + 1)) = nx6 at hs
    have e8r : I64 (i3 + 1) := (by have := of_decide_eq_true e7; have := hli3; exact I64.mk (by omega) (by omega))
    refine wc_seq (wc_block (wc_seq (wc_region (wl_ok (r_move (v := (.int .i64 (i3))) rfl) (wl_ok (r_assign (v := (.int .i64 (i3))) rfl) (wl_nil (then_normal (wc_seq (wc_still mixed (by kernel_rfl) h fun w h => wk_ok (r_move (v := va) rfl) (wk_ok (r_move (v := (.int .i64 (i3))) rfl) ?_))))))))))
    obtain ⟨x9, e10, hs⟩ := o_bind hs
    obtain ⟨b12, o13, cs14, h, r15, i11⟩ := h.ixS 1 3 rfl SliceOf51 rfl (o_idx e10).1 (o_idx e10).2
    obtain rfl := r15
    refine wk_ok (i11 _ _ _ _ _ _ _ _ _ rfl rfl) (wk_ok (r_ldP (k := 0) h 3 rfl One3 rfl rfl) (wk_ok (r_move (v := vb) rfl) (wk_ok (r_move (v := (.int .i64 (i3))) rfl) ?_)))
    obtain ⟨x16, e17, hs⟩ := o_bind hs
    obtain ⟨b19, o20, cs21, h, r22, i18⟩ := h.ixS 2 4 rfl SliceOf51 rfl (o_idx e17).1 (o_idx e17).2
    obtain rfl := r22
    refine wk_ok (i18 _ _ _ _ _ _ _ _ _ rfl rfl) (wk_ok (r_ldP (k := 0) h 4 rfl One3 rfl rfl) (wk_ok (r_neq rfl rfl) (wk_end (then_normal (wc_ifb hs rfl (fun c23 hs => ?_) (fun c23 hs => ?_))))))
    ·
     refine wc_seq (wc_region (wl_ok (r_assign (v := (.bool (false))) rfl) (wl_nil (then_normal (wc_ret (inBlock_ret (then_ret (then_ret (inBlock_ret (then_ret (fin1 (v := (.bool (false))) Tryz.results53 rfl ?_)))))))))))
     obtain rfl := Option.some.inj hs
     exact ⟨h.grown, rfl⟩
    ·
     refine wc_skip (inBlock_normal (then_normal (wc_region (wl_ok (r_add rfl rfl e8r) (wl_ok (r_move (v := (.int .i64 ((i3 + 1)))) rfl) (wl_nil (then_loop ?_)))))))
     subst hnx6
     exact lend ⟨k2 + 1, i3 + 1⟩ ⟨h.cn _, by omega, hs⟩ (by have := of_decide_eq_true e7; dsimp only; omega)
   ·
    rw [upto_ge (by have := of_decide_eq_false e7; omega)] at hs
    refine wc_exit (then_exit (then_exit (inBlock_eq (then_normal (wc_seq (wc_region (wl_ok (r_assign (v := (.bool (true))) rfl) (wl_nil (then_normal (wc_ret (fin1 (v := (.bool (true))) Tryz.results53 rfl ?_)))))))))))
    obtain rfl := Option.some.inj hs
    exact ⟨h.grown, rfl⟩
def code_Same_j766 (nx6 : Unit → Option Bool) (x27 : Bool) : Option Bool :=
  bif x27 then some false else nx6 ()
def code_Same_j788 (nx6 : Unit → Option Bool) (nx37 : Unit → Option Bool) (x58 : Bool) : Option Bool :=
  bif x58 then code_Same_j766 nx6 true else nx37 ()
def code_Same_b789 (x17 : Proc) (a : List Proc) (b : List Proc) (nx6 : Unit → Option Bool) (i34 : Int) (x35 : Ins) (s : Unit) (nx37 : Unit → Option Bool) : Option Bool :=
  (idx x17.code i34).bind fun x48 => bif (((decide ((x35.op : Int) = x48.op) && decide ((x35.a : Int) = x48.a)) && decide ((x35.b : Int) = x48.b)) && decide ((x35.c : Int) = x48.c)) then (slices_Equal_int x35.args x48.args).bind fun y63 => code_Same_j788 nx6 nx37 (!y63) else code_Same_j788 nx6 nx37 true
def code_Same_k790 (nx6 : Unit → Option Bool) (s : Unit) : Option Bool :=
  code_Same_j766 nx6 false
def code_Same_b791 (b : List Proc) (a : List Proc) (i3 : Int) (x4 : Proc) (s : Unit) (nx6 : Unit → Option Bool) : Option Bool :=
  (idx b i3).bind fun x17 => bif (decide ((x4.params : Int) = x17.params) && decide ((x4.regs : Int) = x17.regs)) then bif decide (((x4.code.length : Int) : Int) ≠ (x17.code.length : Int)) then code_Same_j766 nx6 true else eachI (code_Same_b789 x17 a b nx6) (code_Same_k790 nx6) 0 x4.code () else code_Same_j766 nx6 true
def code_Same_k792 (s : Unit) : Option Bool :=
  some true
def code_Same (a : List Proc) (b : List Proc) : Option Bool :=
  bif decide (((a.length : Int) : Int) ≠ (b.length : Int)) then some false else eachI (code_Same_b791 b a) code_Same_k792 0 a ()
theorem code_Same_c (w0 : World) (M : BS) (hM : ∀ b, M b → b < w0.heap.size) (va : Value) (a : List Proc) (ha : Rd2 rProc w0 BE M va a) (vb : Value) (b : List Proc) (hb : Rd2 rProc w0 BE M vb b) (r : Bool) (hs : code_Same a b = some r) :
    Calls Tryz.prog 16 #[va, vb] w0 (fun e w' => Grow w0 w' ∧ e = .returned (.bool r)) := by
 refine calls_start (args := [va, vb]) Tryz.func16 rfl Tryz.ntmps16 (Nat.le_of_ble_eq_true rfl) ?_
 have h := SH.init hM
 replace h := h.argSr 1 ha none_own
 replace h := h.argSr 2 hb (hupd_own_sr none_own)
 have hl_a := ha.len_le
 have hl_b := hb.len_le
 refine wc_seq (wc_region (wl_ok (r_assign (v := (.bool (false))) rfl) (wl_nil (then_normal (wc_seq (wc_region (wl_ok (r_move (v := va) rfl) (wl_ok (r_move (v := vb) rfl) (w_callIn (args := [va, vb, (.func (.func 50) #[] #[])]) fnOk49 rfl rfl (calls_start (args := [va, vb, (.func (.func 50) #[] #[])]) Tryz.func49 rfl Tryz.ntmps49 (Nat.le_of_ble_eq_true rfl) (wc_seq (wc_region (wl_ok (r_assign (v := (.bool (false))) rfl) (wl_nil (then_normal (wc_seq (wc_seq (wc_region (wl_ok (r_move (v := va) rfl) (wl_ok (r_len SliceOf33 rfl (h.srS 1 rfl)) (wl_ok (r_move (v := vb) rfl) (wl_ok (r_len SliceOf33 rfl (h.srS 2 rfl)) (wl_ok (r_neq rfl rfl) ?_)))))))))))))))))))))))
 refine wl_nil (then_normal (wc_ifb hs rfl (fun c1 hs => ?_) (fun c1 hs => ?_)))
 ·
  refine wc_seq (wc_region (wl_ok (r_assign (v := (.bool (false))) rfl) (wl_nil (then_normal (wc_ret (then_ret (fin1 (v := (.bool (false))) Tryz.results49 rfl (⟨_, rfl, ?_⟩))))))))
  refine wl_ok (r_assign (v := (.bool (false))) rfl) (wl_nil (then_normal (wc_ret (fin1 (v := (.bool (false))) Tryz.results16 rfl ?_))))
  obtain rfl := Option.some.inj hs
  exact ⟨h.grown, rfl⟩
 ·
  refine wc_skip (then_normal (wc_seq (wc_seq (wc_region (wl_ok (r_move (v := va) rfl) (wl_ok (r_len SliceOf33 rfl (h.srS 1 rfl)) (wl_ok (r_move (v := (.int .i64 (0))) rfl) (wl_nil (then_normal (wc_block (wc_lp (σ := Nat × Int) (inl [6, 7, 8, 9, 17, 18, 19, 20, 21, 22, 23, 24, 25, 26, 27, 28, 29, 30, 31]) (fun ⟨k2, i3⟩ => [(17, (.int .i64 (i3)))]) (fun ⟨k2, i3⟩ w => SH w0 M BE w (hset [(1, .sr rProc va a), (2, .sr rProc vb b)]) ∧ i3 = (k2 : Int) ∧ eachI (code_Same_b791 b a) code_Same_k792 i3 (a.drop k2) () = some r) (fun ⟨k2, i3⟩ => a.length - k2) ⟨0, 0⟩ ⟨rfl, trivial⟩ ?_ ?_)))))))))))
  ·
   exact ⟨h.cn _, rfl, hs⟩
  ·
   rintro ⟨k2, i3⟩ w junk ⟨h, hik, hs⟩
   refine wc_seq (wc_region ?_)
   refine wl_ok (r_lss rfl rfl) (wl_nil (then_normal ?_))
   refine wc_seq (wc_if rfl (fun e7 => ?_) (fun e7 => ?_))
   ·
    refine wc_skip (then_normal ?_)
    obtain ⟨x4, e8a, e8b⟩ := drop_lt (hik ▸ e7)
    rw [e8b, eachI_cons] at hs
    generalize hnx6 : eachI (code_Same_b791 b a) code_Same_k792 (i3 + 1) (a.drop (k2 + 1)) = nx6 at hs
    have e8r := nat_rng ((h.srS 1 rfl)).len_le hik e7
    refine wc_seq (wc_block (wc_seq (wc_region (wl_ok (r_move (v := (.int .i64 (i3))) rfl) ?_))))
    obtain ⟨b10, o11, cs12, h, r13, i9⟩ := h.ixS 1 3 rfl SliceOf33 rfl (nat_nn hik) (get_nat hik e8a)
    obtain ⟨u14, rfl, g15⟩ := rProc_open r13
    replace h := h.knowRd 4 g15.up
    refine wl_ok (i9 _ _ _ _ _ _ _ _ _ rfl rfl) (wl_ok (r_ldPN (k := 0) (vs := [(.int .i64 (x4.params)), (.int .i64 (x4.regs)), u14]) h 3 rfl Many40 rfl rfl rfl (Nat.le_of_ble_eq_true rfl)) (w_allocN h 5 Many40 fun w b16 h => wl_ok (r_assign (v := (.int .i64 (i3))) rfl) (w_stN (vs := [(.int .i64 (x4.params)), (.int .i64 (x4.regs)), u14]) h 5 [(.int .i64 (x4.params)), (.int .i64 (x4.regs)), u14] rfl Many40 rfl rfl rfl rfl rfl (ones_cons rfl (ones_cons rfl (ones_cons (h.rdAt 4 rfl).one ones_nil))) fun w h => wl_nil (then_normal (wc_seq (wc_region (wl_ok (r_move (v := vb) rfl) (wl_ok (r_move (v := (.int .i64 (i3))) rfl) ?_))))))))
    obtain ⟨x17, e18, hs⟩ := o_bind hs
    obtain ⟨b20, o21, cs22, h, r23, i19⟩ := h.ixS 2 6 rfl SliceOf33 rfl (o_idx e18).1 (o_idx e18).2
    obtain ⟨u24, rfl, g25⟩ := rProc_open r23
    replace h := h.knowRd 7 g25.up
    refine wl_ok (i19 _ _ _ _ _ _ _ _ _ rfl rfl) (wl_ok (r_ldPN (k := 0) (vs := [(.int .i64 (x17.params)), (.int .i64 (x17.regs)), u24]) h 6 rfl Many40 rfl rfl rfl (Nat.le_of_ble_eq_true rfl)) (w_allocN h 8 Many40 fun w b26 h => w_stN (vs := [(.int .i64 (x17.params)), (.int .i64 (x17.regs)), u24]) h 8 [(.int .i64 (x17.params)), (.int .i64 (x17.regs)), u24] rfl Many40 rfl rfl rfl rfl rfl (ones_cons rfl (ones_cons rfl (ones_cons (h.rdAt 7 rfl).one ones_nil))) fun w h => wl_nil (then_normal (wc_join (σ := Bool) (inl [26, 27, 28, 29, 30]) (fun x27 => [(30, (.bool (x27)))]) (fun x27 w => SH w0 M BE w (hset [(1, .sr rProc va a), (2, .sr rProc vb b)]) ∧ code_Same_j766 nx6 x27 = some r) ?_ ?_))))
    ·
     rintro x27 w junk ⟨h, hs⟩
     refine wc_ifb hs rfl (fun c28 hs => ?_) (fun c28 hs => ?_)
     ·
      refine wc_seq (wc_region (wl_ok (r_assign (v := (.bool (false))) rfl) (wl_nil (then_normal (wc_ret (inBlock_ret (then_ret (then_ret (inBlock_ret (then_ret (fin1 (v := (.bool (false))) Tryz.results49 rfl (⟨_, rfl, ?_⟩))))))))))))
      refine wl_ok (r_assign (v := (.bool (false))) rfl) (wl_nil (then_normal (wc_ret (fin1 (v := (.bool (false))) Tryz.results16 rfl ?_))))
      obtain rfl := Option.some.inj hs
      exact ⟨h.grown, rfl⟩
     ·
      refine wc_skip (inBlock_normal (then_normal (wc_region (wl_ok (r_add rfl rfl e8r) (wl_ok (r_move (v := (.int .i64 ((i3 + 1)))) rfl) (wl_nil (then_loop ?_)))))))
      subst hnx6
      exact lend ⟨k2 + 1, i3 + 1⟩ ⟨h.cn _, by omega, hs⟩ (by have := of_decide_eq_true e7; dsimp only; omega)
    ·
     refine wc_region (wl_ok (r_move (v := (.func (.func 50) #[] #[])) rfl) (wl_ok (r_ldBN (vs := [(.int .i64 (x4.params)), (.int .i64 (x4.regs)), u14]) h 5 rfl Many40 rfl rfl rfl) (wl_ok (r_ldBN (vs := [(.int .i64 (x17.params)), (.int .i64 (x17.regs)), u24]) h 8 rfl Many40 rfl rfl rfl) (w_callIn (args := [(.agg #[(.int .i64 (x4.params)), (.int .i64 (x4.regs)), u14]), (.agg #[(.int .i64 (x17.params)), (.int .i64 (x17.regs)), u24])]) fnOk50 rfl rfl (calls_start (args := [(.agg #[(.int .i64 (x4.params)), (.int .i64 (x4.regs)), u14]), (.agg #[(.int .i64 (x17.params)), (.int .i64 (x17.regs)), u24])]) Tryz.func50 rfl Tryz.ntmps50 (Nat.le_of_ble_eq_true rfl) (wc_seq (wc_region (w_box (cs := [(.int .i64 (x4.params)), (.int .i64 (x4.regs)), u14]) h 9 rfl rfl fun w b29 h => w_box (cs := [(.int .i64 (x17.params)), (.int .i64 (x17.regs)), u24]) h 10 rfl rfl fun w b30 h => wl_ok (r_assign (v := (.bool (false))) rfl) (wl_nil (then_normal (wc_seq (wc_region (wl_ok (r_fieldAddr Fld40x0 rfl) (wl_ok (r_ldB h 9 rfl One3 rfl rfl) (wl_ok (r_fieldAddr Fld40x0 rfl) (wl_ok (r_ldB h 10 rfl One3 rfl rfl) (wl_ok (r_eql rfl rfl) (wl_ok (r_move (v := (.bool (decide ((x4.params : Int) = x17.params)))) rfl) (wl_gd0 rfl rfl (fun q => r_fieldAddr Fld40x1 rfl) (wl_gd0 rfl rfl (fun q => r_ldB h 9 rfl One3 (gvt q) rfl) (wl_gd0 rfl rfl (fun q => r_fieldAddr Fld40x1 rfl) ?_)))))))))))))))))))))
     refine wl_gd0 rfl rfl (fun q => r_ldB h 10 rfl One3 (gvt q) rfl) (wl_gd0 rfl rfl (fun q => r_eql (gvt q) (gvt q)) (wl_ok (r_pand rfl rfl evc) (wl_ok (r_move (v := (.bool ((decide ((x4.params : Int) = x17.params) && decide ((x4.regs : Int) = x17.regs))))) rfl) (c_split (b := (decide ((x4.params : Int) = x17.params) && decide ((x4.regs : Int) = x17.regs))) hs (fun c31 hs => ?_) (fun c31 hs => ?_)))))
     ·
      refine wl_on rfl (congrArg Value.bool c31) (wl_ok (r_fieldAddr Fld40x2 rfl) (wl_on rfl (congrArg Value.bool c31) (wl_ok (r_ldB h 9 rfl One38 rfl rfl) (wl_on rfl (congrArg Value.bool c31) (wl_ok (r_fieldAddr Fld40x2 rfl) (wl_on rfl (congrArg Value.bool c31) (wl_ok (r_ldB h 10 rfl One38 rfl rfl) (wl_on rfl (congrArg Value.bool c31) (w_callIn (args := [u14, u24, (.func (.func 52) #[] #[])]) fnOk51 rfl rfl (calls_start (args := [u14, u24, (.func (.func 52) #[] #[])]) Tryz.func51 rfl Tryz.ntmps51 (Nat.le_of_ble_eq_true rfl) (wc_seq (wc_region (wl_ok (r_assign (v := (.bool (false))) rfl) (wl_nil (then_normal (wc_seq (wc_seq (wc_region (wl_ok (r_move (v := u14) rfl) (wl_ok (r_len SliceOf38 rfl (h.rdS 4 rfl)) (wl_ok (r_move (v := u24) rfl) (wl_ok (r_len SliceOf38 rfl (h.rdS 7 rfl)) (wl_ok (r_neq rfl rfl) ?_)))))))))))))))))))))))
      refine wl_nil (then_normal (wc_ifb hs rfl (fun c32 hs => ?_) (fun c32 hs => ?_)))
      ·
       refine wc_seq (wc_region (wl_ok (r_assign (v := (.bool (false))) rfl) (wl_nil (then_normal (wc_ret (then_ret (fin1 (v := (.bool (false))) Tryz.results51 rfl (⟨_, rfl, ?_⟩))))))))
       refine wl_ok (r_pick (b := true) (v := (.bool (false))) (congrArg Value.bool c31) rfl) (wl_ok (r_assign (v := (.bool (false))) rfl) (wl_nil (then_normal (wc_ret (fin1 (v := (.bool (false))) Tryz.results50 rfl (⟨_, rfl, ?_⟩))))))
       refine wl_ok (r_notb rfl) (wl_nil (then_loop ?_))
       exact jend true ⟨h.cn _, hs⟩
      ·
       refine wc_skip (then_normal (wc_seq (wc_seq (wc_region (wl_ok (r_move (v := u14) rfl) (wl_ok (r_len SliceOf38 rfl (h.rdS 4 rfl)) (wl_ok (r_move (v := (.int .i64 (0))) rfl) (wl_nil (then_normal (wc_block (wc_lp (σ := Nat × Int) (inl [6, 7, 8, 9, 17, 18, 19, 20, 21, 22, 23, 24, 25, 26, 27, 28, 29, 30, 31]) (fun ⟨k33, i34⟩ => [(17, (.int .i64 (i34)))]) (fun ⟨k33, i34⟩ w => SH w0 M BE w (hset [(1, .sr rProc va a), (2, .sr rProc vb b), (3, .pt b10 o11 [(.int .i64 (x4.params)), (.int .i64 (x4.regs)), u14]), (4, .rd rIns u14 x4.code), (5, .blk b16 [(.int .i64 (x4.params)), (.int .i64 (x4.regs)), u14]), (6, .pt b20 o21 [(.int .i64 (x17.params)), (.int .i64 (x17.regs)), u24]), (7, .rd rIns u24 x17.code), (8, .blk b26 [(.int .i64 (x17.params)), (.int .i64 (x17.regs)), u24]), (9, .blk b29 [(.int .i64 (x4.params)), (.int .i64 (x4.regs)), u14]), (10, .blk b30 [(.int .i64 (x17.params)), (.int .i64 (x17.regs)), u24])]) ∧ i34 = (k33 : Int) ∧ eachI (code_Same_b789 x17 a b nx6) (code_Same_k790 nx6) i34 (x4.code.drop k33) () = some r) (fun ⟨k33, i34⟩ => x4.code.length - k33) ⟨0, 0⟩ ⟨rfl, trivial⟩ ?_ ?_)))))))))))
       ·
        exact ⟨h.cn _, rfl, hs⟩
       ·
        rintro ⟨k33, i34⟩ w junk ⟨h, hik, hs⟩
        refine wc_seq (wc_region ?_)
        refine wl_ok (r_lss rfl rfl) (wl_nil (then_normal ?_))
        refine wc_seq (wc_if rfl (fun e38 => ?_) (fun e38 => ?_))
        ·
         refine wc_skip (then_normal ?_)
         obtain ⟨x35, e39a, e39b⟩ := drop_lt (hik ▸ e38)
         rw [e39b, eachI_cons] at hs
         generalize hnx37 : eachI (code_Same_b789 x17 a b nx6) (code_Same_k790 nx6) (i34 + 1) (x4.code.drop (k33 + 1)) = nx37 at hs
         have e39r := nat_rng ((h.rdS 4 rfl)).len_le hik e38
         refine wc_seq (wc_block (wc_seq (wc_region (wl_ok (r_move (v := (.int .i64 (i34))) rfl) ?_))))
         obtain ⟨b41, o42, cs43, h, r44, i40⟩ := h.ixR 4 11 rfl SliceOf38 rfl (nat_nn hik) (get_nat hik e39a)
         obtain ⟨u45, rfl, g46⟩ := rIns_open r44
         replace h := h.knowRd 12 g46.up
         refine wl_ok (i40 _ _ _ _ _ _ _ _ _ rfl rfl) (wl_ok (r_ldPN (k := 0) (vs := [(.int .i64 (x35.op)), (.int .i64 (x35.a)), (.int .i64 (x35.b)), (.int .i64 (x35.c)), u45]) h 11 rfl Many90 rfl rfl rfl (Nat.le_of_ble_eq_true rfl)) (w_allocN h 13 Many90 fun w b47 h => wl_ok (r_assign (v := (.int .i64 (i34))) rfl) (w_stN (vs := [(.int .i64 (x35.op)), (.int .i64 (x35.a)), (.int .i64 (x35.b)), (.int .i64 (x35.c)), u45]) h 13 [(.int .i64 (x35.op)), (.int .i64 (x35.a)), (.int .i64 (x35.b)), (.int .i64 (x35.c)), u45] rfl Many90 rfl rfl rfl rfl rfl (ones_cons rfl (ones_cons rfl (ones_cons rfl (ones_cons rfl (ones_cons (h.rdAt 12 rfl).one ones_nil))))) fun w h => wl_nil (then_normal (wc_seq (wc_region (wl_ok (r_move (v := u24) rfl) (wl_ok (r_move (v := (.int .i64 (i34))) rfl) ?_))))))))
         obtain ⟨x48, e49, hs⟩ := o_bind hs
         obtain ⟨b51, o52, cs53, h, r54, i50⟩ := h.ixR 7 14 rfl SliceOf38 rfl (o_idx e49).1 (o_idx e49).2
         obtain ⟨u55, rfl, g56⟩ := rIns_open r54
         replace h := h.knowRd 15 g56.up
         refine wl_ok (i50 _ _ _ _ _ _ _ _ _ rfl rfl) (wl_ok (r_ldPN (k := 0) (vs := [(.int .i64 (x48.op)), (.int .i64 (x48.a)), (.int .i64 (x48.b)), (.int .i64 (x48.c)), u55]) h 14 rfl Many90 rfl rfl rfl (Nat.le_of_ble_eq_true rfl)) (w_allocN h 16 Many90 fun w b57 h => w_stN (vs := [(.int .i64 (x48.op)), (.int .i64 (x48.a)), (.int .i64 (x48.b)), (.int .i64 (x48.c)), u55]) h 16 [(.int .i64 (x48.op)), (.int .i64 (x48.a)), (.int .i64 (x48.b)), (.int .i64 (x48.c)), u55] rfl Many90 rfl rfl rfl rfl rfl (ones_cons rfl (ones_cons rfl (ones_cons rfl (ones_cons rfl (ones_cons (h.rdAt 15 rfl).one ones_nil))))) fun w h => wl_nil (then_normal (wc_join (σ := Bool) (inl [26, 27, 28, 29, 30]) (fun x58 => [(30, (.bool (x58)))]) (fun x58 w => SH w0 M BE w (hset [(1, .sr rProc va a), (2, .sr rProc vb b), (3, .pt b10 o11 [(.int .i64 (x4.params)), (.int .i64 (x4.regs)), u14]), (4, .rd rIns u14 x4.code), (5, .blk b16 [(.int .i64 (x4.params)), (.int .i64 (x4.regs)), u14]), (6, .pt b20 o21 [(.int .i64 (x17.params)), (.int .i64 (x17.regs)), u24]), (7, .rd rIns u24 x17.code), (8, .blk b26 [(.int .i64 (x17.params)), (.int .i64 (x17.regs)), u24]), (9, .blk b29 [(.int .i64 (x4.params)), (.int .i64 (x4.regs)), u14]), (10, .blk b30 [(.int .i64 (x17.params)), (.int .i64 (x17.regs)), u24])]) ∧ code_Same_j788 nx6 nx37 x58 = some r) ?_ ?_))))
         ·
          rintro x58 w junk ⟨h, hs⟩
          refine wc_ifb hs rfl (fun c59 hs => ?_) (fun c59 hs => ?_)
          ·
           refine wc_seq (wc_region (wl_ok (r_assign (v := (.bool (false))) rfl) (wl_nil (then_normal (wc_ret (inBlock_ret (then_ret (then_ret (inBlock_ret (then_ret (fin1 (v := (.bool (false))) Tryz.results51 rfl (⟨_, rfl, ?_⟩))))))))))))
           refine wl_ok (r_pick (b := true) (v := (.bool (false))) (congrArg Value.bool c31) rfl) (wl_ok (r_assign (v := (.bool (false))) rfl) (wl_nil (then_normal (wc_ret (fin1 (v := (.bool (false))) Tryz.results50 rfl (⟨_, rfl, ?_⟩))))))
           refine wl_ok (r_notb rfl) (wl_nil (then_loop ?_))
           exact jend true ⟨h.cn _, hs⟩
          ·
           refine wc_skip (inBlock_normal (then_normal (wc_region (wl_ok (r_add rfl rfl e39r) (wl_ok (r_move (v := (.int .i64 ((i34 + 1)))) rfl) (wl_nil (then_loop ?_)))))))
           subst hnx37
           exact lend ⟨k33 + 1, i34 + 1⟩ ⟨h.cn _, by omega, hs⟩ (by have := of_decide_eq_true e38; dsimp only; omega)
         ·
          refine wc_region (wl_ok (r_move (v := (.func (.func 52) #[] #[])) rfl) (wl_ok (r_ldBN (vs := [(.int .i64 (x35.op)), (.int .i64 (x35.a)), (.int .i64 (x35.b)), (.int .i64 (x35.c)), u45]) h 13 rfl Many90 rfl rfl rfl) (wl_ok (r_ldBN (vs := [(.int .i64 (x48.op)), (.int .i64 (x48.a)), (.int .i64 (x48.b)), (.int .i64 (x48.c)), u55]) h 16 rfl Many90 rfl rfl rfl) (w_callIn (args := [(.agg #[(.int .i64 (x35.op)), (.int .i64 (x35.a)), (.int .i64 (x35.b)), (.int .i64 (x35.c)), u45]), (.agg #[(.int .i64 (x48.op)), (.int .i64 (x48.a)), (.int .i64 (x48.b)), (.int .i64 (x48.c)), u55])]) fnOk52 rfl rfl (calls_start (args := [(.agg #[(.int .i64 (x35.op)), (.int .i64 (x35.a)), (.int .i64 (x35.b)), (.int .i64 (x35.c)), u45]), (.agg #[(.int .i64 (x48.op)), (.int .i64 (x48.a)), (.int .i64 (x48.b)), (.int .i64 (x48.c)), u55])]) Tryz.func52 rfl Tryz.ntmps52 (Nat.le_of_ble_eq_true rfl) (wc_seq (wc_region (w_box (cs := [(.int .i64 (x35.op)), (.int .i64 (x35.a)), (.int .i64 (x35.b)), (.int .i64 (x35.c)), u45]) h 17 rfl rfl fun w b60 h => w_box (cs := [(.int .i64 (x48.op)), (.int .i64 (x48.a)), (.int .i64 (x48.b)), (.int .i64 (x48.c)), u55]) h 18 rfl rfl fun w b61 h => wl_ok (r_assign (v := (.bool (false))) rfl) (wl_nil (then_normal (wc_seq (wc_region (wl_ok (r_fieldAddr Fld90x0 rfl) (wl_ok (r_ldB h 17 rfl One3 rfl rfl) (wl_ok (r_fieldAddr Fld90x0 rfl) (wl_ok (r_ldB h 18 rfl One3 rfl rfl) (wl_ok (r_eql rfl rfl) (wl_ok (r_move (v := (.bool (decide ((x35.op : Int) = x48.op)))) rfl) (wl_gd0 rfl rfl (fun q => r_fieldAddr Fld90x1 rfl) (wl_gd0 rfl rfl (fun q => r_ldB h 17 rfl One3 (gvt q) rfl) (wl_gd0 rfl rfl (fun q => r_fieldAddr Fld90x1 rfl) ?_)))))))))))))))))))))
          refine wl_gd0 rfl rfl (fun q => r_ldB h 18 rfl One3 (gvt q) rfl) (wl_gd0 rfl rfl (fun q => r_eql (gvt q) (gvt q)) (wl_ok (r_pand rfl rfl evc) (wl_ok (r_move (v := (.bool ((decide ((x35.op : Int) = x48.op) && decide ((x35.a : Int) = x48.a))))) rfl) (wl_gd0 rfl rfl (fun q => r_fieldAddr Fld90x2 rfl) (wl_gd0 rfl rfl (fun q => r_ldB h 17 rfl One3 (gvt q) rfl) (wl_gd0 rfl rfl (fun q => r_fieldAddr Fld90x2 rfl) (wl_gd0 rfl rfl (fun q => r_ldB h 18 rfl One3 (gvt q) rfl) (wl_gd0 rfl rfl (fun q => r_eql (gvt q) (gvt q)) (wl_ok (r_pand rfl rfl evc) (wl_ok (r_move (v := (.bool (((decide ((x35.op : Int) = x48.op) && decide ((x35.a : Int) = x48.a)) && decide ((x35.b : Int) = x48.b))))) rfl) (wl_gd0 rfl rfl (fun q => r_fieldAddr Fld90x3 rfl) (wl_gd0 rfl rfl (fun q => r_ldB h 17 rfl One3 (gvt q) rfl) (wl_gd0 rfl rfl (fun q => r_fieldAddr Fld90x3 rfl) (wl_gd0 rfl rfl (fun q => r_ldB h 18 rfl One3 (gvt q) rfl) (wl_gd0 rfl rfl (fun q => r_eql (gvt q) (gvt q)) (wl_ok (r_pand rfl rfl evc) (wl_ok (r_move (v := (.bool ((((decide ((x35.op : Int) = x48.op) && decide ((x35.a : Int) = x48.a)) && decide ((x35.b : Int) = x48.b)) && decide ((x35.c : Int) = x48.c))))) rfl) (c_split (b := (((decide ((x35.op : Int) = x48.op) && decide ((x35.a : Int) = x48.a)) && decide ((x35.b : Int) = x48.b)) && decide ((x35.c : Int) = x48.c))) hs (fun c62 hs => ?_) (fun c62 hs => ?_)))))))))))))))))))
          ·
           refine wl_on rfl (congrArg Value.bool c62) (wl_ok (r_fieldAddr Fld90x4 rfl) (wl_on rfl (congrArg Value.bool c62) (wl_ok (r_ldB h 17 rfl One51 rfl rfl) (wl_on rfl (congrArg Value.bool c62) (wl_ok (r_fieldAddr Fld90x4 rfl) (wl_on rfl (congrArg Value.bool c62) (wl_ok (r_ldB h 18 rfl One51 rfl rfl) (wl_on rfl (congrArg Value.bool c62) ?_))))))))
           obtain ⟨y63, e64, hs⟩ := o_bind hs
           refine w_call fnOk53 rfl rfl (slices_Equal_int_c _ _ h.lt u45 x35.args (h.rdS 12 rfl) u55 x48.args (h.rdS 15 rfl) _ e64) ?_
           rintro _ w ⟨k65, rfl⟩
           refine ⟨_, rfl, ?_⟩
           replace h := h.grow k65
           refine wl_ok (r_pick (b := true) (v := (.bool (y63))) (congrArg Value.bool c62) rfl) (wl_ok (r_assign (v := (.bool (y63))) rfl) (wl_nil (then_normal (wc_ret (fin1 (v := (.bool (y63))) Tryz.results52 rfl (⟨_, rfl, ?_⟩))))))
           refine wl_ok (r_notb rfl) (wl_nil (then_loop ?_))
           exact jend (!y63) ⟨h.cn _, hs⟩
          ·
           refine wl_off (b' := false) rfl (congrArg Value.bool c62) rfl (wl_off (b' := false) rfl (congrArg Value.bool c62) rfl (wl_off (b' := false) rfl (congrArg Value.bool c62) rfl (wl_off (b' := false) rfl (congrArg Value.bool c62) rfl (wl_off (b' := false) rfl (congrArg Value.bool c62) rfl (wl_ok (r_pick (b := false) (v := (.bool (false))) (congrArg Value.bool c62) rfl) (wl_ok (r_assign (v := (.bool (false))) rfl) (wl_nil (then_normal (wc_ret (fin1 (v := (.bool (false))) Tryz.results52 rfl (⟨_, rfl, ?_⟩)))))))))))
           refine wl_ok (r_notb rfl) (wl_nil (then_loop ?_))
           exact jend true ⟨h.cn _, hs⟩
        ·
         rw [drop_ge (hik ▸ e38), eachI_nil] at hs
         refine wc_exit (then_exit (then_exit (inBlock_eq (then_normal (wc_seq (wc_region (wl_ok (r_assign (v := (.bool (true))) rfl) (wl_nil (then_normal (wc_ret (fin1 (v := (.bool (true))) Tryz.results51 rfl (⟨_, rfl, ?_⟩))))))))))))
         refine wl_ok (r_pick (b := true) (v := (.bool (true))) (congrArg Value.bool c31) rfl) (wl_ok (r_assign (v := (.bool (true))) rfl) (wl_nil (then_normal (wc_ret (fin1 (v := (.bool (true))) Tryz.results50 rfl (⟨_, rfl, ?_⟩))))))
         refine wl_ok (r_notb rfl) (wl_nil (then_loop ?_))
         exact jend false ⟨h.cn _, hs⟩
     ·
      refine wl_off (b' := false) rfl (congrArg Value.bool c31) rfl (wl_off (b' := false) rfl (congrArg Value.bool c31) rfl (wl_off (b' := false) rfl (congrArg Value.bool c31) rfl (wl_off (b' := false) rfl (congrArg Value.bool c31) rfl (wl_off (b' := false) rfl (congrArg Value.bool c31) rfl (wl_ok (r_pick (b := false) (v := (.bool (false))) (congrArg Value.bool c31) rfl) (wl_ok (r_assign (v := (.bool (false))) rfl) (wl_nil (then_normal (wc_ret (fin1 (v := (.bool (false))) Tryz.results50 rfl (⟨_, rfl, ?_⟩)))))))))))
      refine wl_ok (r_notb rfl) (wl_nil (then_loop ?_))
      exact jend true ⟨h.cn _, hs⟩
   ·
    rw [drop_ge (hik ▸ e7), eachI_nil] at hs
    refine wc_exit (then_exit (then_exit (inBlock_eq (then_normal (wc_seq (wc_region (wl_ok (r_assign (v := (.bool (true))) rfl) (wl_nil (then_normal (wc_ret (fin1 (v := (.bool (true))) Tryz.results49 rfl (⟨_, rfl, ?_⟩))))))))))))
    refine wl_ok (r_assign (v := (.bool (true))) rfl) (wl_nil (then_normal (wc_ret (fin1 (v := (.bool (true))) Tryz.results16 rfl ?_))))
    obtain rfl := Option.some.inj hs
    exact ⟨h.grown, rfl⟩
def wandererref_SameCode_j766 (nx6 : Unit → Option Bool) (x27 : Bool) : Option Bool :=
  bif x27 then some false else nx6 ()
def wandererref_SameCode_j788 (nx6 : Unit → Option Bool) (nx37 : Unit → Option Bool) (x58 : Bool) : Option Bool :=
  bif x58 then wandererref_SameCode_j766 nx6 true else nx37 ()
def wandererref_SameCode_b789 (x17 : Proc) (a : List Proc) (b : List Proc) (nx6 : Unit → Option Bool) (i34 : Int) (x35 : Ins) (s : Unit) (nx37 : Unit → Option Bool) : Option Bool :=
  (idx x17.code i34).bind fun x48 => bif (((decide ((x35.op : Int) = x48.op) && decide ((x35.a : Int) = x48.a)) && decide ((x35.b : Int) = x48.b)) && decide ((x35.c : Int) = x48.c)) then (slices_Equal_int x35.args x48.args).bind fun y63 => wandererref_SameCode_j788 nx6 nx37 (!y63) else wandererref_SameCode_j788 nx6 nx37 true
def wandererref_SameCode_k790 (nx6 : Unit → Option Bool) (s : Unit) : Option Bool :=
  wandererref_SameCode_j766 nx6 false
def wandererref_SameCode_b791 (b : List Proc) (a : List Proc) (i3 : Int) (x4 : Proc) (s : Unit) (nx6 : Unit → Option Bool) : Option Bool :=
  (idx b i3).bind fun x17 => bif (decide ((x4.params : Int) = x17.params) && decide ((x4.regs : Int) = x17.regs)) then bif decide (((x4.code.length : Int) : Int) ≠ (x17.code.length : Int)) then wandererref_SameCode_j766 nx6 true else eachI (wandererref_SameCode_b789 x17 a b nx6) (wandererref_SameCode_k790 nx6) 0 x4.code () else wandererref_SameCode_j766 nx6 true
def wandererref_SameCode_k792 (s : Unit) : Option Bool :=
  some true
def wandererref_SameCode (a : List Proc) (b : List Proc) : Option Bool :=
  bif decide (((a.length : Int) : Int) ≠ (b.length : Int)) then some false else eachI (wandererref_SameCode_b791 b a) wandererref_SameCode_k792 0 a ()
theorem wandererref_SameCode_c (w0 : World) (M : BS) (hM : ∀ b, M b → b < w0.heap.size) (va : Value) (a : List Proc) (ha : Rd2 rProc w0 BE M va a) (vb : Value) (b : List Proc) (hb : Rd2 rProc w0 BE M vb b) (r : Bool) (hs : wandererref_SameCode a b = some r) :
    Calls Tryz.prog 17 #[va, vb] w0 (fun e w' => Grow w0 w' ∧ e = .returned (.bool r)) := by
 refine calls_start (args := [va, vb]) Tryz.func17 rfl Tryz.ntmps17 (Nat.le_of_ble_eq_true rfl) ?_
 have h := SH.init hM
 replace h := h.argSr 1 ha none_own
 replace h := h.argSr 2 hb (hupd_own_sr none_own)
 have hl_a := ha.len_le
 have hl_b := hb.len_le
 refine wc_seq (wc_region (wl_ok (r_assign (v := (.bool (false))) rfl) (wl_nil (then_normal (wc_seq (wc_region (wl_ok (r_move (v := va) rfl) (wl_ok (r_move (v := vb) rfl) (w_callIn (args := [va, vb, (.func (.func 54) #[] #[])]) fnOk49 rfl rfl (calls_start (args := [va, vb, (.func (.func 54) #[] #[])]) Tryz.func49 rfl Tryz.ntmps49 (Nat.le_of_ble_eq_true rfl) (wc_seq (wc_region (wl_ok (r_assign (v := (.bool (false))) rfl) (wl_nil (then_normal (wc_seq (wc_seq (wc_region (wl_ok (r_move (v := va) rfl) (wl_ok (r_len SliceOf33 rfl (h.srS 1 rfl)) (wl_ok (r_move (v := vb) rfl) (wl_ok (r_len SliceOf33 rfl (h.srS 2 rfl)) (wl_ok (r_neq rfl rfl) ?_)))))))))))))))))))))))
 refine wl_nil (then_normal (wc_ifb hs rfl (fun c1 hs => ?_) (fun c1 hs => ?_)))
 ·
  refine wc_seq (wc_region (wl_ok (r_assign (v := (.bool (false))) rfl) (wl_nil (then_normal (wc_ret (then_ret (fin1 (v := (.bool (false))) Tryz.results49 rfl (⟨_, rfl, ?_⟩))))))))
  refine wl_ok (r_assign (v := (.bool (false))) rfl) (wl_nil (then_normal (wc_ret (fin1 (v := (.bool (false))) Tryz.results17 rfl ?_))))
  obtain rfl := Option.some.inj hs
  exact ⟨h.grown, rfl⟩
 ·
  refine wc_skip (then_normal (wc_seq (wc_seq (wc_region (wl_ok (r_move (v := va) rfl) (wl_ok (r_len SliceOf33 rfl (h.srS 1 rfl)) (wl_ok (r_move (v := (.int .i64 (0))) rfl) (wl_nil (then_normal (wc_block (wc_lp (σ := Nat × Int) (inl [6, 7, 8, 9, 17, 18, 19, 20, 21, 22, 23, 24, 25, 26, 27, 28, 29, 30, 31]) (fun ⟨k2, i3⟩ => [(17, (.int .i64 (i3)))]) (fun ⟨k2, i3⟩ w => SH w0 M BE w (hset [(1, .sr rProc va a), (2, .sr rProc vb b)]) ∧ i3 = (k2 : Int) ∧ eachI (wandererref_SameCode_b791 b a) wandererref_SameCode_k792 i3 (a.drop k2) () = some r) (fun ⟨k2, i3⟩ => a.length - k2) ⟨0, 0⟩ ⟨rfl, trivial⟩ ?_ ?_)))))))))))
  ·
   exact ⟨h.cn _, rfl, hs⟩
  ·
   rintro ⟨k2, i3⟩ w junk ⟨h, hik, hs⟩
   refine wc_seq (wc_region ?_)
   refine wl_ok (r_lss rfl rfl) (wl_nil (then_normal ?_))
   refine wc_seq (wc_if rfl (fun e7 => ?_) (fun e7 => ?_))
   ·
    refine wc_skip (then_normal ?_)
    obtain ⟨x4, e8a, e8b⟩ := drop_lt (hik ▸ e7)
    rw [e8b, eachI_cons] at hs
    generalize hnx6 : eachI (wandererref_SameCode_b791 b a) wandererref_SameCode_k792 (i3 + 1) (a.drop (k2 + 1)) = nx6 at hs
    have e8r := nat_rng ((h.srS 1 rfl)).len_le hik e7
    refine wc_seq (wc_block (wc_seq (wc_region (wl_ok (r_move (v := (.int .i64 (i3))) rfl) ?_))))
    obtain ⟨b10, o11, cs12, h, r13, i9⟩ := h.ixS 1 3 rfl SliceOf33 rfl (nat_nn hik) (get_nat hik e8a)
    obtain ⟨u14, rfl, g15⟩ := rProc_open r13
    replace h := h.knowRd 4 g15.up
    refine wl_ok (i9 _ _ _ _ _ _ _ _ _ rfl rfl) (wl_ok (r_ldPN (k := 0) (vs := [(.int .i64 (x4.params)), (.int .i64 (x4.regs)), u14]) h 3 rfl Many40 rfl rfl rfl (Nat.le_of_ble_eq_true rfl)) (w_allocN h 5 Many40 fun w b16 h => wl_ok (r_assign (v := (.int .i64 (i3))) rfl) (w_stN (vs := [(.int .i64 (x4.params)), (.int .i64 (x4.regs)), u14]) h 5 [(.int .i64 (x4.params)), (.int .i64 (x4.regs)), u14] rfl Many40 rfl rfl rfl rfl rfl (ones_cons rfl (ones_cons rfl (ones_cons (h.rdAt 4 rfl).one ones_nil))) fun w h => wl_nil (then_normal (wc_seq (wc_region (wl_ok (r_move (v := vb) rfl) (wl_ok (r_move (v := (.int .i64 (i3))) rfl) ?_))))))))
    obtain ⟨x17, e18, hs⟩ := o_bind hs
    obtain ⟨b20, o21, cs22, h, r23, i19⟩ := h.ixS 2 6 rfl SliceOf33 rfl (o_idx e18).1 (o_idx e18).2
    obtain ⟨u24, rfl, g25⟩ := rProc_open r23
    replace h := h.knowRd 7 g25.up
    refine wl_ok (i19 _ _ _ _ _ _ _ _ _ rfl rfl) (wl_ok (r_ldPN (k := 0) (vs := [(.int .i64 (x17.params)), (.int .i64 (x17.regs)), u24]) h 6 rfl Many40 rfl rfl rfl (Nat.le_of_ble_eq_true rfl)) (w_allocN h 8 Many40 fun w b26 h => w_stN (vs := [(.int .i64 (x17.params)), (.int .i64 (x17.regs)), u24]) h 8 [(.int .i64 (x17.params)), (.int .i64 (x17.regs)), u24] rfl Many40 rfl rfl rfl rfl rfl (ones_cons rfl (ones_cons rfl (ones_cons (h.rdAt 7 rfl).one ones_nil))) fun w h => wl_nil (then_normal (wc_join (σ := Bool) (inl [26, 27, 28, 29, 30]) (fun x27 => [(30, (.bool (x27)))]) (fun x27 w => SH w0 M BE w (hset [(1, .sr rProc va a), (2, .sr rProc vb b)]) ∧ wandererref_SameCode_j766 nx6 x27 = some r) ?_ ?_))))
    ·
     rintro x27 w junk ⟨h, hs⟩
     refine wc_ifb hs rfl (fun c28 hs => ?_) (fun c28 hs => ?_)
     ·
      refine wc_seq (wc_region (wl_ok (r_assign (v := (.bool (false))) rfl) (wl_nil (then_normal (wc_ret (inBlock_ret (then_ret (then_ret (inBlock_ret (then_ret (fin1 (v := (.bool (false))) Tryz.results49 rfl (⟨_, rfl, ?_⟩))))))))))))
      refine wl_ok (r_assign (v := (.bool (false))) rfl) (wl_nil (then_normal (wc_ret (fin1 (v := (.bool (false))) Tryz.results17 rfl ?_))))
      obtain rfl := Option.some.inj hs
      exact ⟨h.grown, rfl⟩
     ·
      refine wc_skip (inBlock_normal (then_normal (wc_region (wl_ok (r_add rfl rfl e8r) (wl_ok (r_move (v := (.int .i64 ((i3 + 1)))) rfl) (wl_nil (then_loop ?_)))))))
      subst hnx6
      exact lend ⟨k2 + 1, i3 + 1⟩ ⟨h.cn _, by omega, hs⟩ (by have := of_decide_eq_true e7; dsimp only; omega)
    ·
     refine wc_region (wl_ok (r_move (v := (.func (.func 54) #[] #[])) rfl) (wl_ok (r_ldBN (vs := [(.int .i64 (x4.params)), (.int .i64 (x4.regs)), u14]) h 5 rfl Many40 rfl rfl rfl) (wl_ok (r_ldBN (vs := [(.int .i64 (x17.params)), (.int .i64 (x17.regs)), u24]) h 8 rfl Many40 rfl rfl rfl) (w_callIn (args := [(.agg #[(.int .i64 (x4.params)), (.int .i64 (x4.regs)), u14]), (.agg #[(.int .i64 (x17.params)), (.int .i64 (x17.regs)), u24])]) fnOk54 rfl rfl (calls_start (args := [(.agg #[(.int .i64 (x4.params)), (.int .i64 (x4.regs)), u14]), (.agg #[(.int .i64 (x17.params)), (.int .i64 (x17.regs)), u24])]) Tryz.func54 rfl Tryz.ntmps54 (Nat.le_of_ble_eq_true rfl) (wc_seq (wc_region (w_box (cs := [(.int .i64 (x4.params)), (.int .i64 (x4.regs)), u14]) h 9 rfl rfl fun w b29 h => w_box (cs := [(.int .i64 (x17.params)), (.int .i64 (x17.regs)), u24]) h 10 rfl rfl fun w b30 h => wl_ok (r_assign (v := (.bool (false))) rfl) (wl_nil (then_normal (wc_seq (wc_region (wl_ok (r_fieldAddr Fld40x0 rfl) (wl_ok (r_ldB h 9 rfl One3 rfl rfl) (wl_ok (r_fieldAddr Fld40x0 rfl) (wl_ok (r_ldB h 10 rfl One3 rfl rfl) (wl_ok (r_eql rfl rfl) (wl_ok (r_move (v := (.bool (decide ((x4.params : Int) = x17.params)))) rfl) (wl_gd0 rfl rfl (fun q => r_fieldAddr Fld40x1 rfl) (wl_gd0 rfl rfl (fun q => r_ldB h 9 rfl One3 (gvt q) rfl) (wl_gd0 rfl rfl (fun q => r_fieldAddr Fld40x1 rfl) ?_)))))))))))))))))))))
     refine wl_gd0 rfl rfl (fun q => r_ldB h 10 rfl One3 (gvt q) rfl) (wl_gd0 rfl rfl (fun q => r_eql (gvt q) (gvt q)) (wl_ok (r_pand rfl rfl evc) (wl_ok (r_move (v := (.bool ((decide ((x4.params : Int) = x17.params) && decide ((x4.regs : Int) = x17.regs))))) rfl) (c_split (b := (decide ((x4.params : Int) = x17.params) && decide ((x4.regs : Int) = x17.regs))) hs (fun c31 hs => ?_) (fun c31 hs => ?_)))))
     ·
      refine wl_on rfl (congrArg Value.bool c31) (wl_ok (r_fieldAddr Fld40x2 rfl) (wl_on rfl (congrArg Value.bool c31) (wl_ok (r_ldB h 9 rfl One38 rfl rfl) (wl_on rfl (congrArg Value.bool c31) (wl_ok (r_fieldAddr Fld40x2 rfl) (wl_on rfl (congrArg Value.bool c31) (wl_ok (r_ldB h 10 rfl One38 rfl rfl) (wl_on rfl (congrArg Value.bool c31) (w_callIn (args := [u14, u24, (.func (.func 55) #[] #[])]) fnOk51 rfl rfl (calls_start (args := [u14, u24, (.func (.func 55) #[] #[])]) Tryz.func51 rfl Tryz.ntmps51 (Nat.le_of_ble_eq_true rfl) (wc_seq (wc_region (wl_ok (r_assign (v := (.bool (false))) rfl) (wl_nil (then_normal (wc_seq (wc_seq (wc_region (wl_ok (r_move (v := u14) rfl) (wl_ok (r_len SliceOf38 rfl (h.rdS 4 rfl)) (wl_ok (r_move (v := u24) rfl) (wl_ok (r_len SliceOf38 rfl (h.rdS 7 rfl)) (wl_ok (r_neq rfl rfl) ?_)))))))))))))))))))))))
      refine wl_nil (then_normal (wc_ifb hs rfl (fun c32 hs => ?_) (fun c32 hs => ?_)))
      ·
       refine wc_seq (wc_region (wl_ok (r_assign (v := (.bool (false))) rfl) (wl_nil (then_normal (wc_ret (then_ret (fin1 (v := (.bool (false))) Tryz.results51 rfl (⟨_, rfl, ?_⟩))))))))
       refine wl_ok (r_pick (b := true) (v := (.bool (false))) (congrArg Value.bool c31) rfl) (wl_ok (r_assign (v := (.bool (false))) rfl) (wl_nil (then_normal (wc_ret (fin1 (v := (.bool (false))) Tryz.results54 rfl (⟨_, rfl, ?_⟩))))))
       refine wl_ok (r_notb rfl) (wl_nil (then_loop ?_))
       exact jend true ⟨h.cn _, hs⟩
      ·
       refine wc_skip (then_normal (wc_seq (wc_seq (wc_region (wl_ok (r_move (v := u14) rfl) (wl_ok (r_len SliceOf38 rfl (h.rdS 4 rfl)) (wl_ok (r_move (v := (.int .i64 (0))) rfl) (wl_nil (then_normal (wc_block (wc_lp (σ := Nat × Int) (inl [6, 7, 8, 9, 17, 18, 19, 20, 21, 22, 23, 24, 25, 26, 27, 28, 29, 30, 31]) (fun ⟨k33, i34⟩ => [(17, (.int .i64 (i34)))]) (fun ⟨k33, i34⟩ w => SH w0 M BE w (hset [(1, .sr rProc va a), (2, .sr rProc vb b), (3, .pt b10 o11 [(.int .i64 (x4.params)), (.int .i64 (x4.regs)), u14]), (4, .rd rIns u14 x4.code), (5, .blk b16 [(.int .i64 (x4.params)), (.int .i64 (x4.regs)), u14]), (6, .pt b20 o21 [(.int .i64 (x17.params)), (.int .i64 (x17.regs)), u24]), (7, .rd rIns u24 x17.code), (8, .blk b26 [(.int .i64 (x17.params)), (.int .i64 (x17.regs)), u24]), (9, .blk b29 [(.int .i64 (x4.params)), (.int .i64 (x4.regs)), u14]), (10, .blk b30 [(.int .i64 (x17.params)), (.int .i64 (x17.regs)), u24])]) ∧ i34 = (k33 : Int) ∧ eachI (wandererref_SameCode_b789 x17 a b nx6) (wandererref_SameCode_k790 nx6) i34 (x4.code.drop k33) () = some r) (fun ⟨k33, i34⟩ => x4.code.length - k33) ⟨0, 0⟩ ⟨rfl, trivial⟩ ?_ ?_)))))))))))
       ·
        exact ⟨h.cn _, rfl, hs⟩
       ·
        rintro ⟨k33, i34⟩ w junk ⟨h, hik, hs⟩
        refine wc_seq (wc_region ?_)
        refine wl_ok (r_lss rfl rfl) (wl_nil (then_normal ?_))
        refine wc_seq (wc_if rfl (fun e38 => ?_) (fun e38 => ?_))
        ·
         refine wc_skip (then_normal ?_)
         obtain ⟨x35, e39a, e39b⟩ := drop_lt (hik ▸ e38)
         rw [e39b, eachI_cons] at hs
         generalize hnx37 : eachI (wandererref_SameCode_b789 x17 a b nx6) (wandererref_SameCode_k790 nx6) (i34 + 1) (x4.code.drop (k33 + 1)) = nx37 at hs
         have e39r := nat_rng ((h.rdS 4 rfl)).len_le hik e38
         refine wc_seq (wc_block (wc_seq (wc_region (wl_ok (r_move (v := (.int .i64 (i34))) rfl) ?_))))
         obtain ⟨b41, o42, cs43, h, r44, i40⟩ := h.ixR 4 11 rfl SliceOf38 rfl (nat_nn hik) (get_nat hik e39a)
         obtain ⟨u45, rfl, g46⟩ := rIns_open r44
         replace h := h.knowRd 12 g46.up
         refine wl_ok (i40 _ _ _ _ _ _ _ _ _ rfl rfl) (wl_ok (r_ldPN (k := 0) (vs := [(.int .i64 (x35.op)), (.int .i64 (x35.a)), (.int .i64 (x35.b)), (.int .i64 (x35.c)), u45]) h 11 rfl Many90 rfl rfl rfl (Nat.le_of_ble_eq_true rfl)) (w_allocN h 13 Many90 fun w b47 h => wl_ok (r_assign (v := (.int .i64 (i34))) rfl) (w_stN (vs := [(.int .i64 (x35.op)), (.int .i64 (x35.a)), (.int .i64 (x35.b)), (.int .i64 (x35.c)), u45]) h 13 [(.int .i64 (x35.op)), (.int .i64 (x35.a)), (.int .i64 (x35.b)), (.int .i64 (x35.c)), u45] rfl Many90 rfl rfl rfl rfl rfl (ones_cons rfl (ones_cons rfl (ones_cons rfl (ones_cons rfl (ones_cons (h.rdAt 12 rfl).one ones_nil))))) fun w h => wl_nil (then_normal (wc_seq (wc_region (wl_ok (r_move (v := u24) rfl) (wl_ok (r_move (v := (.int .i64 (i34))) rfl) ?_))))))))
         obtain ⟨x48, e49, hs⟩ := o_bind hs
         obtain ⟨b51, o52, cs53, h, r54, i50⟩ := h.ixR 7 14 rfl SliceOf38 rfl (o_idx e49).1 (o_idx e49).2
         obtain ⟨u55, rfl, g56⟩ := rIns_open r54
         replace h := h.knowRd 15 g56.up
         refine wl_ok (i50 _ _ _ _ _ _ _ _ _ rfl rfl) (wl_ok (r_ldPN (k := 0) (vs := [(.int .i64 (x48.op)), (.int .i64 (x48.a)), (.int .i64 (x48.b)), (.int .i64 (x48.c)), u55]) h 14 rfl Many90 rfl rfl rfl (Nat.le_of_ble_eq_true rfl)) (w_allocN h 16 Many90 fun w b57 h => w_stN (vs := [(.int .i64 (x48.op)), (.int .i64 (x48.a)), (.int .i64 (x48.b)), (.int .i64 (x48.c)), u55]) h 16 [(.int .i64 (x48.op)), (.int .i64 (x48.a)), (.int .i64 (x48.b)), (.int .i64 (x48.c)), u55] rfl Many90 rfl rfl rfl rfl rfl (ones_cons rfl (ones_cons rfl (ones_cons rfl (ones_cons rfl (ones_cons (h.rdAt 15 rfl).one ones_nil))))) fun w h => wl_nil (then_normal (wc_join (σ := Bool) (inl [26, 27, 28, 29, 30]) (fun x58 => [(30, (.bool (x58)))]) (fun x58 w => SH w0 M BE w (hset [(1, .sr rProc va a), (2, .sr rProc vb b), (3, .pt b10 o11 [(.int .i64 (x4.params)), (.int .i64 (x4.regs)), u14]), (4, .rd rIns u14 x4.code), (5, .blk b16 [(.int .i64 (x4.params)), (.int .i64 (x4.regs)), u14]), (6, .pt b20 o21 [(.int .i64 (x17.params)), (.int .i64 (x17.regs)), u24]), (7, .rd rIns u24 x17.code), (8, .blk b26 [(.int .i64 (x17.params)), (.int .i64 (x17.regs)), u24]), (9, .blk b29 [(.int .i64 (x4.params)), (.int .i64 (x4.regs)), u14]), (10, .blk b30 [(.int .i64 (x17.params)), (.int .i64 (x17.regs)), u24])]) ∧ wandererref_SameCode_j788 nx6 nx37 x58 = some r) ?_ ?_))))
         ·
          rintro x58 w junk ⟨h, hs⟩
          refine wc_ifb hs rfl (fun c59 hs => ?_) (fun c59 hs => ?_)
          ·
           refine wc_seq (wc_region (wl_ok (r_assign (v := (.bool (false))) rfl) (wl_nil (then_normal (wc_ret (inBlock_ret (then_ret (then_ret (inBlock_ret (then_ret (fin1 (v := (.bool (false))) Tryz.results51 rfl (⟨_, rfl, ?_⟩))))))))))))
           refine wl_ok (r_pick (b := true) (v := (.bool (false))) (congrArg Value.bool c31) rfl) (wl_ok (r_assign (v := (.bool (false))) rfl) (wl_nil (then_normal (wc_ret (fin1 (v := (.bool (false))) Tryz.results54 rfl (⟨_, rfl, ?_⟩))))))
           refine wl_ok (r_notb rfl) (wl_nil (then_loop ?_))
           exact jend true ⟨h.cn _, hs⟩
          ·
           refine wc_skip (inBlock_normal (then_normal (wc_region (wl_ok (r_add rfl rfl e39r) (wl_ok (r_move (v := (.int .i64 ((i34 + 1)))) rfl) (wl_nil (then_loop ?_)))))))
           subst hnx37
           exact lend ⟨k33 + 1, i34 + 1⟩ ⟨h.cn _, by omega, hs⟩ (by have := of_decide_eq_true e38; dsimp only; omega)
         ·
          refine wc_region (wl_ok (r_move (v := (.func (.func 55) #[] #[])) rfl) (wl_ok (r_ldBN (vs := [(.int .i64 (x35.op)), (.int .i64 (x35.a)), (.int .i64 (x35.b)), (.int .i64 (x35.c)), u45]) h 13 rfl Many90 rfl rfl rfl) (wl_ok (r_ldBN (vs := [(.int .i64 (x48.op)), (.int .i64 (x48.a)), (.int .i64 (x48.b)), (.int .i64 (x48.c)), u55]) h 16 rfl Many90 rfl rfl rfl) (w_callIn (args := [(.agg #[(.int .i64 (x35.op)), (.int .i64 (x35.a)), (.int .i64 (x35.b)), (.int .i64 (x35.c)), u45]), (.agg #[(.int .i64 (x48.op)), (.int .i64 (x48.a)), (.int .i64 (x48.b)), (.int .i64 (x48.c)), u55])]) fnOk55 rfl rfl (calls_start (args := [(.agg #[(.int .i64 (x35.op)), (.int .i64 (x35.a)), (.int .i64 (x35.b)), (.int .i64 (x35.c)), u45]), (.agg #[(.int .i64 (x48.op)), (.int .i64 (x48.a)), (.int .i64 (x48.b)), (.int .i64 (x48.c)), u55])]) Tryz.func55 rfl Tryz.ntmps55 (Nat.le_of_ble_eq_true rfl) (wc_seq (wc_region (w_box (cs := [(.int .i64 (x35.op)), (.int .i64 (x35.a)), (.int .i64 (x35.b)), (.int .i64 (x35.c)), u45]) h 17 rfl rfl fun w b60 h => w_box (cs := [(.int .i64 (x48.op)), (.int .i64 (x48.a)), (.int .i64 (x48.b)), (.int .i64 (x48.c)), u55]) h 18 rfl rfl fun w b61 h => wl_ok (r_assign (v := (.bool (false))) rfl) (wl_nil (then_normal (wc_seq (wc_region (wl_ok (r_fieldAddr Fld90x0 rfl) (wl_ok (r_ldB h 17 rfl One3 rfl rfl) (wl_ok (r_fieldAddr Fld90x0 rfl) (wl_ok (r_ldB h 18 rfl One3 rfl rfl) (wl_ok (r_eql rfl rfl) (wl_ok (r_move (v := (.bool (decide ((x35.op : Int) = x48.op)))) rfl) (wl_gd0 rfl rfl (fun q => r_fieldAddr Fld90x1 rfl) (wl_gd0 rfl rfl (fun q => r_ldB h 17 rfl One3 (gvt q) rfl) (wl_gd0 rfl rfl (fun q => r_fieldAddr Fld90x1 rfl) ?_)))))))))))))))))))))
          refine wl_gd0 rfl rfl (fun q => r_ldB h 18 rfl One3 (gvt q) rfl) (wl_gd0 rfl rfl (fun q => r_eql (gvt q) (gvt q)) (wl_ok (r_pand rfl rfl evc) (wl_ok (r_move (v := (.bool ((decide ((x35.op : Int) = x48.op) && decide ((x35.a : Int) = x48.a))))) rfl) (wl_gd0 rfl rfl (fun q => r_fieldAddr Fld90x2 rfl) (wl_gd0 rfl rfl (fun q => r_ldB h 17 rfl One3 (gvt q) rfl) (wl_gd0 rfl rfl (fun q => r_fieldAddr Fld90x2 rfl) (wl_gd0 rfl rfl (fun q => r_ldB h 18 rfl One3 (gvt q) rfl) (wl_gd0 rfl rfl (fun q => r_eql (gvt q) (gvt q)) (wl_ok (r_pand rfl rfl evc) (wl_ok (r_move (v := (.bool (((decide ((x35.op : Int) = x48.op) && decide ((x35.a : Int) = x48.a)) && decide ((x35.b : Int) = x48.b))))) rfl) (wl_gd0 rfl rfl (fun q => r_fieldAddr Fld90x3 rfl) (wl_gd0 rfl rfl (fun q => r_ldB h 17 rfl One3 (gvt q) rfl) (wl_gd0 rfl rfl (fun q => r_fieldAddr Fld90x3 rfl) (wl_gd0 rfl rfl (fun q => r_ldB h 18 rfl One3 (gvt q) rfl) (wl_gd0 rfl rfl (fun q => r_eql (gvt q) (gvt q)) (wl_ok (r_pand rfl rfl evc) (wl_ok (r_move (v := (.bool ((((decide ((x35.op : Int) = x48.op) && decide ((x35.a : Int) = x48.a)) && decide ((x35.b : Int) = x48.b)) && decide ((x35.c : Int) = x48.c))))) rfl) (c_split (b := (((decide ((x35.op : Int) = x48.op) && decide ((x35.a : Int) = x48.a)) && decide ((x35.b : Int) = x48.b)) && decide ((x35.c : Int) = x48.c))) hs (fun c62 hs => ?_) (fun c62 hs => ?_)))))))))))))))))))
          ·
           refine wl_on rfl (congrArg Value.bool c62) (wl_ok (r_fieldAddr Fld90x4 rfl) (wl_on rfl (congrArg Value.bool c62) (wl_ok (r_ldB h 17 rfl One51 rfl rfl) (wl_on rfl (congrArg Value.bool c62) (wl_ok (r_fieldAddr Fld90x4 rfl) (wl_on rfl (congrArg Value.bool c62) (wl_ok (r_ldB h 18 rfl One51 rfl rfl) (wl_on rfl (congrArg Value.bool c62) ?_))))))))
           obtain ⟨y63, e64, hs⟩ := o_bind hs
           refine w_call fnOk53 rfl rfl (slices_Equal_int_c _ _ h.lt u45 x35.args (h.rdS 12 rfl) u55 x48.args (h.rdS 15 rfl) _ e64) ?_
           rintro _ w ⟨k65, rfl⟩
           refine ⟨_, rfl, ?_⟩
           replace h := h.grow k65
           refine wl_ok (r_pick (b := true) (v := (.bool (y63))) (congrArg Value.bool c62) rfl) (wl_ok (r_assign (v := (.bool (y63))) rfl) (wl_nil (then_normal (wc_ret (fin1 (v := (.bool (y63))) Tryz.results55 rfl (⟨_, rfl, ?_⟩))))))
           refine wl_ok (r_notb rfl) (wl_nil (then_loop ?_))
           exact jend (!y63) ⟨h.cn _, hs⟩
          ·
           refine wl_off (b' := false) rfl (congrArg Value.bool c62) rfl (wl_off (b' := false) rfl (congrArg Value.bool c62) rfl (wl_off (b' := false) rfl (congrArg Value.bool c62) rfl (wl_off (b' := false) rfl (congrArg Value.bool c62) rfl (wl_off (b' := false) rfl (congrArg Value.bool c62) rfl (wl_ok (r_pick (b := false) (v := (.bool (false))) (congrArg Value.bool c62) rfl) (wl_ok (r_assign (v := (.bool (false))) rfl) (wl_nil (then_normal (wc_ret (fin1 (v := (.bool (false))) Tryz.results55 rfl (⟨_, rfl, ?_⟩)))))))))))
           refine wl_ok (r_notb rfl) (wl_nil (then_loop ?_))
           exact jend true ⟨h.cn _, hs⟩
        ·
         rw [drop_ge (hik ▸ e38), eachI_nil] at hs
         refine wc_exit (then_exit (then_exit (inBlock_eq (then_normal (wc_seq (wc_region (wl_ok (r_assign (v := (.bool (true))) rfl) (wl_nil (then_normal (wc_ret (fin1 (v := (.bool (true))) Tryz.results51 rfl (⟨_, rfl, ?_⟩))))))))))))
         refine wl_ok (r_pick (b := true) (v := (.bool (true))) (congrArg Value.bool c31) rfl) (wl_ok (r_assign (v := (.bool (true))) rfl) (wl_nil (then_normal (wc_ret (fin1 (v := (.bool (true))) Tryz.results54 rfl (⟨_, rfl, ?_⟩))))))
         refine wl_ok (r_notb rfl) (wl_nil (then_loop ?_))
         exact jend false ⟨h.cn _, hs⟩
     ·
      refine wl_off (b' := false) rfl (congrArg Value.bool c31) rfl (wl_off (b' := false) rfl (congrArg Value.bool c31) rfl (wl_off (b' := false) rfl (congrArg Value.bool c31) rfl (wl_off (b' := false) rfl (congrArg Value.bool c31) rfl (wl_off (b' := false) rfl (congrArg Value.bool c31) rfl (wl_ok (r_pick (b := false) (v := (.bool (false))) (congrArg Value.bool c31) rfl) (wl_ok (r_assign (v := (.bool (false))) rfl) (wl_nil (then_normal (wc_ret (fin1 (v := (.bool (false))) Tryz.results54 rfl (⟨_, rfl, ?_⟩)))))))))))
      refine wl_ok (r_notb rfl) (wl_nil (then_loop ?_))
      exact jend true ⟨h.cn _, hs⟩
   ·
    rw [drop_ge (hik ▸ e7), eachI_nil] at hs
    refine wc_exit (then_exit (then_exit (inBlock_eq (then_normal (wc_seq (wc_region (wl_ok (r_assign (v := (.bool (true))) rfl) (wl_nil (then_normal (wc_ret (fin1 (v := (.bool (true))) Tryz.results49 rfl (⟨_, rfl, ?_⟩))))))))))))
    refine wl_ok (r_assign (v := (.bool (true))) rfl) (wl_nil (then_normal (wc_ret (fin1 (v := (.bool (true))) Tryz.results17 rfl ?_))))
    obtain rfl := Option.some.inj hs
    exact ⟨h.grown, rfl⟩
def wandererlaw_CodeSays_b5 (c : List Fun) (i18 : Int) (x19 : Proc) (s : Unit) (nx21 : Unit → Option Bool) : Option Bool :=
  (idx c i18).bind fun x32 => bif decide ((x19.params : Int) ≠ x32.params) then some false else nx21 ()
def wandererlaw_CodeSays_k6 (s : Unit) : Option Bool :=
  some true
def wandererlaw_CodeSays_j2 (y7 : Int) (y1 : List Proc × Int) (c : List Fun) (x10 : Bool) : Option Bool :=
  bif x10 then some false else bif decide ((y7 : Int) ≠ 0) then some (decide (((y1.1.length : Int) : Int) = 0)) else (wandererref_CheckCode y1.1).bind fun y13 => bif (decide ((y13 : Int) ≠ 0) || decide (((y1.1.length : Int) : Int) ≠ (c.length : Int))) then some false else eachI (wandererlaw_CodeSays_b5 c) wandererlaw_CodeSays_k6 0 y1.1 ()
def wandererlaw_CodeSays (N : Nat) (a : List Proc) (b : List Proc) (c : List Fun) : Option Bool :=
  (code_Compile N c).bind fun y1 => (wandererref_CheckSource N c).bind fun y7 => (wandererlaw_made N).bind fun y42 => bif (!y42) then wandererlaw_CodeSays_j2 y7 y1 c true else (code_Check a).bind fun y46 => (wandererref_CheckCode a).bind fun y49 => bif decide ((y46 : Int) ≠ y49) then wandererlaw_CodeSays_j2 y7 y1 c true else (code_Same a b).bind fun y53 => (wandererref_SameCode a b).bind fun y56 => wandererlaw_CodeSays_j2 y7 y1 c ((y53 != y56) || decide ((y1.2 : Int) ≠ y7))
theorem wandererlaw_CodeSays_c (N : Nat) (w0 : World) (M : BS) (hM : ∀ b, M b → b < w0.heap.size) (hT : Tabs Tryz.prog 5 w0) (va : Value) (a : List Proc) (ha : Rd2 rProc w0 BE M va a) (vb : Value) (b : List Proc) (hb : Rd2 rProc w0 BE M vb b) (vc : Value) (c : List Fun) (hc : RdSl rFun w0 M vc c) (r : Bool) (hs : wandererlaw_CodeSays N a b c = some r) :
    Calls Tryz.prog 4 #[va, vb, vc] w0 (fun e w' => Grow w0 w' ∧ e = .returned (.bool r)) := by
 refine calls_start (args := [va, vb, vc]) Tryz.func4 rfl Tryz.ntmps4 (Nat.le_of_ble_eq_true rfl) ?_
 have h := SH.init hM
 replace h := h.argSr 1 ha none_own
 replace h := h.argSr 2 hb (hupd_own_sr none_own)
 replace h := h.argRd 3 hc (hupd_own_sr (hupd_own_sr none_own))
 have hl_a := ha.len_le
 have hl_b := hb.len_le
 have hl_c := hc.len_le
 refine wc_seq (wc_region (wl_ok (r_assign (v := (.bool (false))) rfl) (wl_nil (then_normal (wc_seq (wc_region (wl_ok (r_move (v := vc) rfl) ?_)))))))
 obtain ⟨y1, e2, hs⟩ := o_bind hs
 refine w_call fnOk12 rfl rfl (code_Compile_c N _ _ h.lt vc c (h.rdAt 3 rfl) _ e2) ?_
 rintro _ w ⟨k6, u3, rfl, g4, g5⟩
 refine ⟨_, rfl, ?_⟩
 replace h := h.gotOwn 4 k6 g4 g5
 refine wl_ok (r_move (v := (.tuple #[u3, (.int .i64 (y1.2))])) rfl) (wl_ok (r_extract rfl rfl) (wl_ok (r_extract rfl rfl) (wl_ok (r_assign (v := u3) rfl) (wl_ok (r_assign (v := (.int .i64 (y1.2))) rfl) (wl_nil (then_normal (wc_seq (wc_region (wl_ok (r_move (v := vc) rfl) ?_)))))))))
 obtain ⟨y7, e8, hs⟩ := o_bind hs
 refine w_call fnOk7 rfl rfl (wandererref_CheckSource_c N _ _ h.lt vc c (h.rdS 3 rfl) _ e8) ?_
 rintro _ w ⟨k9, rfl⟩
 refine ⟨_, rfl, ?_⟩
 replace h := h.grow k9
 refine wl_ok (r_assign (v := (.int .i64 (y7))) rfl) (wl_nil (then_normal (wc_seq (wc_join (σ := Bool) (inl [19, 20, 21, 22, 23, 24, 25, 26, 27, 28, 29, 30, 31, 32, 33, 34, 35, 36, 37, 38, 39, 40, 41]) (fun x10 => [(41, (.bool (x10)))]) (fun x10 w => SH w0 M BE w (hset [(3, .rd rFun vc c), (4, .own rProc 40 u3 y1.1)]) ∧ wandererlaw_CodeSays_j2 y7 y1 c x10 = some r) ?_ ?_))))
 ·
  rintro x10 w junk ⟨h, hs⟩
  refine wc_ifb hs rfl (fun c11 hs => ?_) (fun c11 hs => ?_)
  ·
   refine wc_seq (wc_region (wl_ok (r_assign (v := (.bool (false))) rfl) (wl_nil (then_normal (wc_ret (then_ret (fin1 (v := (.bool (false))) Tryz.results4 rfl ?_)))))))
   obtain rfl := Option.some.inj hs
   exact ⟨h.grown, rfl⟩
  ·
   refine wc_skip (then_normal (wc_seq (wc_seq (wc_region (wl_ok (r_move (v := (.int .i64 (y7))) rfl) (wl_ok (r_neq rfl rfl) (wl_nil (then_normal (wc_ifb hs rfl (fun c12 hs => ?_) (fun c12 hs => ?_))))))))))
   ·
    refine wc_seq (wc_region (wl_ok (r_move (v := u3) rfl) (wl_ok (r_len SliceOf33 rfl (h.ownS 4 rfl)) (wl_ok (r_eql rfl rfl) (wl_ok (r_assign (v := (.bool (decide (((y1.1.length : Int) : Int) = 0)))) rfl) (wl_nil (then_normal (wc_ret (then_ret (fin1 (v := (.bool (decide (((y1.1.length : Int) : Int) = 0)))) Tryz.results4 rfl ?_))))))))))
    obtain rfl := Option.some.inj hs
    exact ⟨h.grown, rfl⟩
   ·
    refine wc_skip (then_normal (wc_seq (wc_seq (wc_region (wl_ok (r_move (v := u3) rfl) ?_)))))
    obtain ⟨y13, e14, hs⟩ := o_bind hs
    refine w_call fnOk15 rfl rfl (wandererref_CheckCode_c _ _ h.lt u3 y1.1 (h.ownS 4 rfl) _ e14) ?_
    rintro _ w ⟨k15, rfl⟩
    refine ⟨_, rfl, ?_⟩
    replace h := h.grow k15
    refine wl_ok (r_neq rfl rfl) (wl_ok (r_move (v := (.bool (decide ((y13 : Int) ≠ 0)))) rfl) (wl_gd0 rfl rfl (fun q => r_move (v := u3) rfl) (wl_gd0 rfl rfl (fun q => r_len SliceOf33 (gvt q) (h.ownS 4 rfl)) (wl_gd0 rfl rfl (fun q => r_move (v := vc) rfl) (wl_gd0 rfl rfl (fun q => r_len SliceOf22 (gvt q) (h.rdS 3 rfl)) (wl_gd0 rfl rfl (fun q => r_neq (gvt q) (gvt q)) (wl_ok (r_por rfl rfl evc) (wl_nil (then_normal (wc_ifb hs rfl (fun c16 hs => ?_) (fun c16 hs => ?_)))))))))))
    ·
     refine wc_seq (wc_region (wl_ok (r_assign (v := (.bool (false))) rfl) (wl_nil (then_normal (wc_ret (then_ret (fin1 (v := (.bool (false))) Tryz.results4 rfl ?_)))))))
     obtain rfl := Option.some.inj hs
     exact ⟨h.grown, rfl⟩
    ·
     refine wc_skip (then_normal (wc_seq (wc_seq (wc_region (wl_ok (r_move (v := u3) rfl) (wl_ok (r_len SliceOf33 rfl (h.ownS 4 rfl)) (wl_ok (r_move (v := (.int .i64 (0))) rfl) (wl_nil (then_normal (wc_block ?_))))))))))
     replace h := h.freeze 4 rfl
     refine wc_lp (σ := Nat × Int) (inl [6, 10, 11, 59, 60, 61, 62, 63, 64, 65, 66, 67, 68, 69, 70, 71, 72]) (fun ⟨k17, i18⟩ => [(59, (.int .i64 (i18)))]) (fun ⟨k17, i18⟩ w => SH w0 M BE w (hset [(3, .rd rFun vc c), (4, .rd rProc u3 y1.1)]) ∧ i18 = (k17 : Int) ∧ eachI (wandererlaw_CodeSays_b5 c) wandererlaw_CodeSays_k6 i18 (y1.1.drop k17) () = some r) (fun ⟨k17, i18⟩ => y1.1.length - k17) ⟨0, 0⟩ ⟨rfl, trivial⟩ ?_ ?_
     ·
      exact ⟨h.cn _, rfl, hs⟩
     ·
      rintro ⟨k17, i18⟩ w junk ⟨h, hik, hs⟩
      refine wc_seq (wc_region ?_)
      refine wl_ok (r_lss rfl rfl) (wl_nil (then_normal ?_))
      refine wc_seq (wc_if rfl (fun e22 => ?_) (fun e22 => ?_))
      ·
       refine wc_skip (then_normal ?_)
       obtain ⟨x19, e23a, e23b⟩ := drop_lt (hik ▸ e22)
       rw [e23b, eachI_cons] at hs
       generalize hnx21 : eachI (wandererlaw_CodeSays_b5 c) wandererlaw_CodeSays_k6 (i18 + 1) (y1.1.drop (k17 + 1)) = nx21 at hs
       have e23r := nat_rng ((h.rdS 4 rfl)).len_le hik e22
       refine wc_seq (wc_block (wc_seq (wc_region (wl_ok (r_move (v := (.int .i64 (i18))) rfl) ?_))))
       obtain ⟨b25, o26, cs27, h, r28, i24⟩ := h.ixR 4 5 rfl SliceOf33 rfl (nat_nn hik) (get_nat hik e23a)
       obtain ⟨u29, rfl, g30⟩ := rProc_open r28
       replace h := h.knowRd 6 g30.up
       refine wl_ok (i24 _ _ _ _ _ _ _ _ _ rfl rfl) (wl_ok (r_ldPN (k := 0) (vs := [(.int .i64 (x19.params)), (.int .i64 (x19.regs)), u29]) h 5 rfl Many40 rfl rfl rfl (Nat.le_of_ble_eq_true rfl)) (w_allocN h 7 Many40 fun w b31 h => wl_ok (r_assign (v := (.int .i64 (i18))) rfl) (w_stN (vs := [(.int .i64 (x19.params)), (.int .i64 (x19.regs)), u29]) h 7 [(.int .i64 (x19.params)), (.int .i64 (x19.regs)), u29] rfl Many40 rfl rfl rfl rfl rfl (ones_cons rfl (ones_cons rfl (ones_cons (h.rdAt 6 rfl).one ones_nil))) fun w h => wl_nil (then_normal (wc_seq (wc_still mixed (by kernel_rfl) h fun w h => wk_ok (r_fieldAddr Fld40x0 rfl) (wk_ok (r_ldB h 7 rfl One3 rfl rfl) (wk_ok (r_move (v := vc) rfl) (wk_ok (r_move (v := (.int .i64 (i18))) rfl) ?_)))))))))
       obtain ⟨x32, e33, hs⟩ := o_bind hs
       obtain ⟨b35, o36, cs37, h, r38, i34⟩ := h.ixR 3 8 rfl SliceOf22 rfl (o_idx e33).1 (o_idx e33).2
       obtain ⟨u39, rfl, g40⟩ := rFun_open r38
       replace h := h.knowRd 9 g40.up
       refine wk_ok (i34 _ _ _ _ _ _ _ _ _ rfl rfl) (wk_ok (r_fieldAddr Fld43x0 rfl) (wk_ok (r_ldP (k := 0) h 8 rfl One3 rfl rfl) (wk_ok (r_neq rfl rfl) (wk_end (then_normal (wc_ifb hs rfl (fun c41 hs => ?_) (fun c41 hs => ?_)))))))
       ·
        refine wc_seq (wc_region (wl_ok (r_assign (v := (.bool (false))) rfl) (wl_nil (then_normal (wc_ret (inBlock_ret (then_ret (then_ret (inBlock_ret (then_ret (fin1 (v := (.bool (false))) Tryz.results4 rfl ?_)))))))))))
        obtain rfl := Option.some.inj hs
        exact ⟨h.grown, rfl⟩
       ·
        refine wc_skip (inBlock_normal (then_normal (wc_region (wl_ok (r_add rfl rfl e23r) (wl_ok (r_move (v := (.int .i64 ((i18 + 1)))) rfl) (wl_nil (then_loop ?_)))))))
        subst hnx21
        exact lend ⟨k17 + 1, i18 + 1⟩ ⟨h.cn _, by omega, hs⟩ (by have := of_decide_eq_true e22; dsimp only; omega)
      ·
       rw [drop_ge (hik ▸ e22), eachI_nil] at hs
       refine wc_exit (then_exit (then_exit (inBlock_eq (then_normal (wc_seq (wc_region (wl_ok (r_assign (v := (.bool (true))) rfl) (wl_nil (then_normal (wc_ret (fin1 (v := (.bool (true))) Tryz.results4 rfl ?_)))))))))))
       obtain rfl := Option.some.inj hs
       exact ⟨h.grown, rfl⟩
 ·
  refine wc_region ?_
  obtain ⟨y42, e43, hs⟩ := o_bind hs
  refine w_call fnOk13 rfl rfl (wandererlaw_made_c N _ _ h.lt (hT.go h.keep)  _ e43) ?_
  rintro _ w ⟨k44, rfl⟩
  refine ⟨_, rfl, ?_⟩
  replace h := h.grow k44
  refine wl_ok (r_notb rfl) (wl_ok (r_move (v := (.bool ((!y42)))) rfl) (c_split (b := (!y42)) hs (fun c45 hs => ?_) (fun c45 hs => ?_)))
  ·
   refine wl_off (b' := true) rfl (congrArg Value.bool c45) rfl (wl_off (b' := true) rfl (congrArg Value.bool c45) rfl (wl_off (b' := true) rfl (congrArg Value.bool c45) rfl (wl_off (b' := true) rfl (congrArg Value.bool c45) rfl (wl_off (b' := true) rfl (congrArg Value.bool c45) rfl (wl_ok (r_pick (b := true) (v := (.bool (true))) (congrArg Value.bool c45) rfl) (wl_ok (r_move (v := (.bool (true))) rfl) (wl_off (b' := true) rfl rfl rfl (wl_off (b' := true) rfl rfl rfl (wl_off (b' := true) rfl rfl rfl (wl_off (b' := true) rfl rfl rfl (wl_off (b' := true) rfl rfl rfl (wl_off (b' := true) rfl rfl rfl (wl_off (b' := true) rfl rfl rfl (wl_ok (r_pick (b := true) (v := (.bool (true))) rfl rfl) (wl_ok (r_move (v := (.bool (true))) rfl) (wl_off (b' := true) rfl rfl rfl (wl_off (b' := true) rfl rfl rfl (wl_off (b' := true) rfl rfl rfl (wl_ok (r_pick (b := true) (v := (.bool (true))) rfl rfl) (wl_nil (then_loop ?_)))))))))))))))))))))
   exact jend true ⟨h.cn _, hs⟩
  ·
   refine wl_on rfl (congrArg Value.bool c45) (wl_ok (r_move (v := va) rfl) (wl_on rfl (congrArg Value.bool c45) ?_))
   obtain ⟨y46, e47, hs⟩ := o_bind hs
   refine w_call fnOk14 rfl rfl (code_Check_c _ _ h.lt va a (h.srS 1 rfl) _ e47) ?_
   rintro _ w ⟨k48, rfl⟩
   refine ⟨_, rfl, ?_⟩
   replace h := h.grow k48
   refine wl_on rfl (congrArg Value.bool c45) (wl_ok (r_move (v := va) rfl) (wl_on rfl (congrArg Value.bool c45) ?_))
   obtain ⟨y49, e50, hs⟩ := o_bind hs
   refine w_call fnOk15 rfl rfl (wandererref_CheckCode_c _ _ h.lt va a (h.srS 1 rfl) _ e50) ?_
   rintro _ w ⟨k51, rfl⟩
   refine ⟨_, rfl, ?_⟩
   replace h := h.grow k51
   refine wl_on rfl (congrArg Value.bool c45) (wl_ok (r_neq rfl rfl) (wl_ok (r_pick (b := false) (v := (.bool (decide ((y46 : Int) ≠ y49)))) (congrArg Value.bool c45) rfl) (wl_ok (r_move (v := (.bool (decide ((y46 : Int) ≠ y49)))) rfl) (c_split (b := decide ((y46 : Int) ≠ y49)) hs (fun c52 hs => ?_) (fun c52 hs => ?_)))))
   ·
    refine wl_off (b' := true) rfl (congrArg Value.bool c52) rfl (wl_off (b' := true) rfl (congrArg Value.bool c52) rfl (wl_off (b' := true) rfl (congrArg Value.bool c52) rfl (wl_off (b' := true) rfl (congrArg Value.bool c52) rfl (wl_off (b' := true) rfl (congrArg Value.bool c52) rfl (wl_off (b' := true) rfl (congrArg Value.bool c52) rfl (wl_off (b' := true) rfl (congrArg Value.bool c52) rfl (wl_ok (r_pick (b := true) (v := (.bool (true))) (congrArg Value.bool c52) rfl) (wl_ok (r_move (v := (.bool (true))) rfl) (wl_off (b' := true) rfl rfl rfl (wl_off (b' := true) rfl rfl rfl (wl_off (b' := true) rfl rfl rfl (wl_ok (r_pick (b := true) (v := (.bool (true))) rfl rfl) (wl_nil (then_loop ?_))))))))))))))
    exact jend true ⟨h.cn _, hs⟩
   ·
    refine wl_on rfl (congrArg Value.bool c52) (wl_ok (r_move (v := va) rfl) (wl_on rfl (congrArg Value.bool c52) (wl_ok (r_move (v := vb) rfl) (wl_on rfl (congrArg Value.bool c52) ?_))))
    obtain ⟨y53, e54, hs⟩ := o_bind hs
    refine w_call fnOk16 rfl rfl (code_Same_c _ _ h.lt va a (h.srS 1 rfl) vb b (h.srS 2 rfl) _ e54) ?_
    rintro _ w ⟨k55, rfl⟩
    refine ⟨_, rfl, ?_⟩
    replace h := h.grow k55
    refine wl_on rfl (congrArg Value.bool c52) (wl_ok (r_move (v := va) rfl) (wl_on rfl (congrArg Value.bool c52) (wl_ok (r_move (v := vb) rfl) (wl_on rfl (congrArg Value.bool c52) ?_))))
    obtain ⟨y56, e57, hs⟩ := o_bind hs
    refine w_call fnOk17 rfl rfl (wandererref_SameCode_c _ _ h.lt va a (h.srS 1 rfl) vb b (h.srS 2 rfl) _ e57) ?_
    rintro _ w ⟨k58, rfl⟩
    refine ⟨_, rfl, ?_⟩
    replace h := h.grow k58
    refine wl_on rfl (congrArg Value.bool c52) (wl_ok (r_neqb Tryz.underlying4 rfl rfl) (wl_ok (r_pick (b := false) (v := (.bool ((y53 != y56)))) (congrArg Value.bool c52) rfl) (wl_ok (r_move (v := (.bool ((y53 != y56)))) rfl) (wl_gd0 rfl rfl (fun q => r_move (v := (.int .i64 (y1.2))) rfl) (wl_gd0 rfl rfl (fun q => r_move (v := (.int .i64 (y7))) rfl) (wl_gd0 rfl rfl (fun q => r_neq (gvt q) (gvt q)) (wl_ok (r_por rfl rfl evc) (wl_nil (then_loop ?_)))))))))
    exact jend ((y53 != y56) || decide ((y1.2 : Int) ≠ y7)) ⟨h.cn _, hs⟩
end Go.Proofs.YtckocfgmnlhcmaaGreatDoor
