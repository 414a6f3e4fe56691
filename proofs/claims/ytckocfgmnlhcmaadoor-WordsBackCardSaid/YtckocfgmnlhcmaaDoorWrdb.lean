/-
  Functions of the program, each as plain Lean, and that the code does just that.
-/
import Derived.Test.YtckocfgmnlhcmaaDoorProg
import Derived.Test.YtckocfgmnlhcmaaDoorLiftD
import Derived.Test.YtckocfgmnlhcmaaDoorWrdShelf
import Derived.Test.YtckocfgmnlhcmaaDoorWrd
set_option linter.unusedSimpArgs false
set_option linter.unusedVariables false
set_option maxRecDepth 10000
namespace Go.Proofs.YtckocfgmnlhcmaaDoor
open Go Go.Proofs Go.LX
theorem source_same_c : ∀ (N : Nat) (w0 : World) (M : BS) (hM : ∀ b, M b → b < w0.heap.size) (va : Value) (a : List GStmt) (ha : Rd2 rStmt w0 BE M va a) (vb : Value) (b : List GStmt) (hb : Rd2 rStmt w0 BE M vb b) (r : Bool) (hs : source_same N a b = some r),
    Calls Tryd.prog 43 #[va, vb] w0 (fun e w' => Grow w0 w' ∧ e = .returned (.bool r)) := by
  intro N
  induction N with
  | zero => intro w0 M hM va a ha vb b hb r hs; cases hs
  | succ N ih =>
  intro w0 M hM va a ha vb b hb r hs
  replace hs : source_same_r (source_same N) a b = some r := hs
  generalize source_same N = F0 at hs ih
  refine calls_start (args := [va, vb]) Tryd.func43 rfl Tryd.ntmps43 (Nat.le_of_ble_eq_true rfl) ?_
  have h := SH.init hM
  replace h := h.argSr 1 ha none_own
  replace h := h.argSr 2 hb (hupd_own_sr none_own)
  have hl_a := ha.len_le
  have hl_b := hb.len_le
  refine wc_seq (wc_region (wl_ok (r_assign (v := (.bool (false))) rfl) (wl_nil (then_normal (wc_seq (wc_region (wl_ok (r_move (v := va) rfl) (wl_ok (r_move (v := vb) rfl) (w_callIn (args := [va, vb, (.func (.func 64) #[] #[])]) fnOk63 rfl rfl (calls_start (args := [va, vb, (.func (.func 64) #[] #[])]) Tryd.func63 rfl Tryd.ntmps63 (Nat.le_of_ble_eq_true rfl) (wc_seq (wc_region (wl_ok (r_assign (v := (.bool (false))) rfl) (wl_nil (then_normal (wc_seq (wc_seq (wc_region (wl_ok (r_move (v := va) rfl) (wl_ok (r_len SliceOf73 rfl (h.srS 1 rfl)) (wl_ok (r_move (v := vb) rfl) (wl_ok (r_len SliceOf73 rfl (h.srS 2 rfl)) (wl_ok (r_neq rfl rfl) ?_)))))))))))))))))))))))
  refine wl_nil (then_normal (wc_ifb hs rfl (fun c1 hs => ?_) (fun c1 hs => ?_)))
  ·
   refine wc_seq (wc_region (wl_ok (r_assign (v := (.bool (false))) rfl) (wl_nil (then_normal (wc_ret (then_ret (fin1 (v := (.bool (false))) Tryd.results63 rfl (⟨_, rfl, ?_⟩))))))))
   refine wl_ok (r_assign (v := (.bool (false))) rfl) (wl_nil (then_normal (wc_ret (fin1 (v := (.bool (false))) Tryd.results43 rfl ?_))))
   obtain rfl := Option.some.inj hs
   exact ⟨h.grown, rfl⟩
  ·
   refine wc_skip (then_normal (wc_seq (wc_seq (wc_region (wl_ok (r_move (v := va) rfl) (wl_ok (r_len SliceOf73 rfl (h.srS 1 rfl)) (wl_ok (r_move (v := (.int .i64 (0))) rfl) (wl_nil (then_normal (wc_block (wc_lp (σ := Nat × Int) (inl [6, 7, 8, 9, 17, 18, 19, 20, 21, 22, 23, 24, 25, 26, 27, 28, 29, 30, 31]) (fun ⟨k2, i3⟩ => [(17, (.int .i64 (i3)))]) (fun ⟨k2, i3⟩ w => SH w0 M BE w (hset [(1, .sr rStmt va a), (2, .sr rStmt vb b)]) ∧ i3 = (k2 : Int) ∧ eachI (source_same_b23 F0 b a) source_same_k24 i3 (a.drop k2) () = some r) (fun ⟨k2, i3⟩ => a.length - k2) ⟨0, 0⟩ ⟨rfl, trivial⟩ ?_ ?_)))))))))))
   ·
    exact ⟨h.cn _, rfl, hs⟩
   ·
    rintro ⟨k2, i3⟩ w junk ⟨h, hik, hs⟩
    refine wc_seq (wc_region ?_)
    refine wl_ok (r_lss rfl rfl) (wl_nil (then_normal ?_))
    refine wc_seq (wc_if rfl (fun e7 => ?_) (fun e7 => ?_))
    ·
     refine wc_skip (then_normal ?_)
     obtain ⟨x4, e8a, e8b⟩ := drop_lt (hik ▸ e7)
     rw [e8b, eachI_cons] at hs
     generalize hnx6 : eachI (source_same_b23 F0 b a) source_same_k24 (i3 + 1) (a.drop (k2 + 1)) = nx6 at hs
     have e8r := nat_rng ((h.srS 1 rfl)).len_le hik e7
     refine wc_seq (wc_block (wc_seq (wc_region (wl_ok (r_move (v := (.int .i64 (i3))) rfl) ?_))))
     obtain ⟨b10, o11, cs12, h, r13, i9⟩ := h.ixS 1 3 rfl SliceOf73 rfl (nat_nn hik) (get_nat hik e8a)
     obtain ⟨u14, u16, u18, u20, rfl, g15, g17, g19, g21⟩ := rStmt_open r13
     replace h := h.knowRd 4 g15.up
     replace h := h.knowRd 5 g17.up.up
     replace h := h.knowRd 6 g19.up.up.up
     replace h := h.knowRd 7 g21.up.up.up.up
     refine wl_ok (i9 _ _ _ _ _ _ _ _ _ rfl rfl) (wl_ok (r_ldPN (k := 0) (vs := [(.int .i64 (x4.kind)), (.int .i64 (x4.n)), u14, u16, u18, u20]) h 3 rfl Many79 rfl rfl rfl (Nat.le_of_ble_eq_true rfl)) (w_allocN h 8 Many79 fun w b22 h => wl_ok (r_assign (v := (.int .i64 (i3))) rfl) (w_stN (vs := [(.int .i64 (x4.kind)), (.int .i64 (x4.n)), u14, u16, u18, u20]) h 8 [(.int .i64 (x4.kind)), (.int .i64 (x4.n)), u14, u16, u18, u20] rfl Many79 rfl rfl rfl rfl rfl (ones_cons rfl (ones_cons rfl (ones_cons (h.rdAt 4 rfl).one (ones_cons (h.rdAt 5 rfl).one (ones_cons (h.rdAt 6 rfl).one (ones_cons (h.rdAt 7 rfl).one ones_nil)))))) fun w h => wl_nil (then_normal (wc_seq (wc_region (wl_ok (r_move (v := vb) rfl) (wl_ok (r_move (v := (.int .i64 (i3))) rfl) ?_))))))))
     obtain ⟨x23, e24, hs⟩ := o_bind hs
     obtain ⟨b26, o27, cs28, h, r29, i25⟩ := h.ixS 2 9 rfl SliceOf73 rfl (o_idx e24).1 (o_idx e24).2
     obtain ⟨u30, u32, u34, u36, rfl, g31, g33, g35, g37⟩ := rStmt_open r29
     replace h := h.knowRd 10 g31.up
     replace h := h.knowRd 11 g33.up.up
     replace h := h.knowRd 12 g35.up.up.up
     replace h := h.knowRd 13 g37.up.up.up.up
     refine wl_ok (i25 _ _ _ _ _ _ _ _ _ rfl rfl) (wl_ok (r_ldPN (k := 0) (vs := [(.int .i64 (x23.kind)), (.int .i64 (x23.n)), u30, u32, u34, u36]) h 9 rfl Many79 rfl rfl rfl (Nat.le_of_ble_eq_true rfl)) (w_allocN h 14 Many79 fun w b38 h => w_stN (vs := [(.int .i64 (x23.kind)), (.int .i64 (x23.n)), u30, u32, u34, u36]) h 14 [(.int .i64 (x23.kind)), (.int .i64 (x23.n)), u30, u32, u34, u36] rfl Many79 rfl rfl rfl rfl rfl (ones_cons rfl (ones_cons rfl (ones_cons (h.rdAt 10 rfl).one (ones_cons (h.rdAt 11 rfl).one (ones_cons (h.rdAt 12 rfl).one (ones_cons (h.rdAt 13 rfl).one ones_nil)))))) fun w h => wl_nil (then_normal (wc_join (σ := Bool) (inl [26, 27, 28, 29, 30]) (fun x39 => [(30, (.bool (x39)))]) (fun x39 w => SH w0 M BE w (hset [(1, .sr rStmt va a), (2, .sr rStmt vb b)]) ∧ source_same_j22 nx6 x39 = some r) ?_ ?_))))
     ·
      rintro x39 w junk ⟨h, hs⟩
      refine wc_ifb hs rfl (fun c40 hs => ?_) (fun c40 hs => ?_)
      ·
       refine wc_seq (wc_region (wl_ok (r_assign (v := (.bool (false))) rfl) (wl_nil (then_normal (wc_ret (inBlock_ret (then_ret (then_ret (inBlock_ret (then_ret (fin1 (v := (.bool (false))) Tryd.results63 rfl (⟨_, rfl, ?_⟩))))))))))))
       refine wl_ok (r_assign (v := (.bool (false))) rfl) (wl_nil (then_normal (wc_ret (fin1 (v := (.bool (false))) Tryd.results43 rfl ?_))))
       obtain rfl := Option.some.inj hs
       exact ⟨h.grown, rfl⟩
      ·
       refine wc_skip (inBlock_normal (then_normal (wc_region (wl_ok (r_add rfl rfl e8r) (wl_ok (r_move (v := (.int .i64 ((i3 + 1)))) rfl) (wl_nil (then_loop ?_)))))))
       subst hnx6
       exact lend ⟨k2 + 1, i3 + 1⟩ ⟨h.cn _, by omega, hs⟩ (by have := of_decide_eq_true e7; dsimp only; omega)
     ·
      refine wc_region (wl_ok (r_move (v := (.func (.func 64) #[] #[])) rfl) (wl_ok (r_ldBN (vs := [(.int .i64 (x4.kind)), (.int .i64 (x4.n)), u14, u16, u18, u20]) h 8 rfl Many79 rfl rfl rfl) (wl_ok (r_ldBN (vs := [(.int .i64 (x23.kind)), (.int .i64 (x23.n)), u30, u32, u34, u36]) h 14 rfl Many79 rfl rfl rfl) (w_callIn (args := [(.agg #[(.int .i64 (x4.kind)), (.int .i64 (x4.n)), u14, u16, u18, u20]), (.agg #[(.int .i64 (x23.kind)), (.int .i64 (x23.n)), u30, u32, u34, u36])]) fnOk64 rfl rfl (calls_start (args := [(.agg #[(.int .i64 (x4.kind)), (.int .i64 (x4.n)), u14, u16, u18, u20]), (.agg #[(.int .i64 (x23.kind)), (.int .i64 (x23.n)), u30, u32, u34, u36])]) Tryd.func64 rfl Tryd.ntmps64 (Nat.le_of_ble_eq_true rfl) (wc_seq (wc_region (w_box (cs := [(.int .i64 (x4.kind)), (.int .i64 (x4.n)), u14, u16, u18, u20]) h 15 rfl rfl fun w b41 h => w_box (cs := [(.int .i64 (x23.kind)), (.int .i64 (x23.n)), u30, u32, u34, u36]) h 16 rfl rfl fun w b42 h => wl_ok (r_assign (v := (.bool (false))) rfl) (wl_nil (then_normal (wc_seq (wc_region (wl_ok (r_fieldAddr Fld79x0 rfl) (wl_ok (r_ldB h 15 rfl One3 rfl rfl) (wl_ok (r_fieldAddr Fld79x0 rfl) (wl_ok (r_ldB h 16 rfl One3 rfl rfl) (wl_ok (r_eql rfl rfl) (wl_ok (r_move (v := (.bool (decide ((x4.kind : Int) = x23.kind)))) rfl) (wl_gd0 rfl rfl (fun q => r_fieldAddr Fld79x1 rfl) (wl_gd0 rfl rfl (fun q => r_ldB h 15 rfl One3 (gvt q) rfl) (wl_gd0 rfl rfl (fun q => r_fieldAddr Fld79x1 rfl) ?_)))))))))))))))))))))
      refine wl_gd0 rfl rfl (fun q => r_ldB h 16 rfl One3 (gvt q) rfl) (wl_gd0 rfl rfl (fun q => r_eql (gvt q) (gvt q)) (wl_ok (r_pand rfl rfl evc) (wl_ok (r_move (v := (.bool ((decide ((x4.kind : Int) = x23.kind) && decide ((x4.n : Int) = x23.n))))) rfl) (c_split (b := (decide ((x4.kind : Int) = x23.kind) && decide ((x4.n : Int) = x23.n))) hs (fun c43 hs => ?_) (fun c43 hs => ?_)))))
      ·
       refine wl_on rfl (congrArg Value.bool c43) (wl_ok (r_fieldAddr Fld79x2 rfl) (wl_on rfl (congrArg Value.bool c43) (wl_ok (r_ldB h 15 rfl One77 rfl rfl) (wl_on rfl (congrArg Value.bool c43) (wl_ok (r_fieldAddr Fld79x2 rfl) (wl_on rfl (congrArg Value.bool c43) (wl_ok (r_ldB h 16 rfl One77 rfl rfl) (wl_on rfl (congrArg Value.bool c43) ?_))))))))
       obtain ⟨y44, e45, hs⟩ := o_bind hs
       refine w_call fnOk65 rfl rfl (slices_Equal_Tok_c _ _ h.lt u14 x4.e (h.rdS 4 rfl) u30 x23.e (h.rdS 10 rfl) _ e45) ?_
       rintro _ w ⟨k46, rfl⟩
       refine ⟨_, rfl, ?_⟩
       replace h := h.grow k46
       refine wl_ok (r_pick (b := true) (v := (.bool (y44))) (congrArg Value.bool c43) rfl) (wl_ok (r_move (v := (.bool (y44))) rfl) (c_split (b := y44) hs (fun c47 hs => ?_) (fun c47 hs => ?_)))
       ·
        refine wl_on rfl (congrArg Value.bool c47) (wl_ok (r_fieldAddr Fld79x3 rfl) (wl_on rfl (congrArg Value.bool c47) (wl_ok (r_ldB h 15 rfl One77 rfl rfl) (wl_on rfl (congrArg Value.bool c47) (wl_ok (r_fieldAddr Fld79x3 rfl) (wl_on rfl (congrArg Value.bool c47) (wl_ok (r_ldB h 16 rfl One77 rfl rfl) (wl_on rfl (congrArg Value.bool c47) ?_))))))))
        obtain ⟨y48, e49, hs⟩ := o_bind hs
        refine w_call fnOk65 rfl rfl (slices_Equal_Tok_c _ _ h.lt u16 x4.f (h.rdS 5 rfl) u32 x23.f (h.rdS 11 rfl) _ e49) ?_
        rintro _ w ⟨k50, rfl⟩
        refine ⟨_, rfl, ?_⟩
        replace h := h.grow k50
        refine wl_ok (r_pick (b := true) (v := (.bool (y48))) (congrArg Value.bool c47) rfl) (wl_ok (r_move (v := (.bool (y48))) rfl) (c_split (b := y48) hs (fun c51 hs => ?_) (fun c51 hs => ?_)))
        ·
         refine wl_on rfl (congrArg Value.bool c51) (wl_ok (r_fieldAddr Fld79x4 rfl) (wl_on rfl (congrArg Value.bool c51) (wl_ok (r_ldB h 15 rfl One73 rfl rfl) (wl_on rfl (congrArg Value.bool c51) (wl_ok (r_fieldAddr Fld79x4 rfl) (wl_on rfl (congrArg Value.bool c51) (wl_ok (r_ldB h 16 rfl One73 rfl rfl) (wl_on rfl (congrArg Value.bool c51) ?_))))))))
         obtain ⟨y52, e53, hs⟩ := o_bind hs
         refine w_call fnOk43 rfl rfl (ih _ _ h.lt u18 x4.a (h.rdS 6 rfl) u34 x23.a (h.rdS 12 rfl) _ e53) ?_
         rintro _ w ⟨k54, rfl⟩
         refine ⟨_, rfl, ?_⟩
         replace h := h.grow k54
         refine wl_ok (r_pick (b := true) (v := (.bool (y52))) (congrArg Value.bool c51) rfl) (wl_ok (r_move (v := (.bool (y52))) rfl) (c_split (b := y52) hs (fun c55 hs => ?_) (fun c55 hs => ?_)))
         ·
          refine wl_on rfl (congrArg Value.bool c55) (wl_ok (r_fieldAddr Fld79x5 rfl) (wl_on rfl (congrArg Value.bool c55) (wl_ok (r_ldB h 15 rfl One73 rfl rfl) (wl_on rfl (congrArg Value.bool c55) (wl_ok (r_fieldAddr Fld79x5 rfl) (wl_on rfl (congrArg Value.bool c55) (wl_ok (r_ldB h 16 rfl One73 rfl rfl) (wl_on rfl (congrArg Value.bool c55) ?_))))))))
          obtain ⟨y56, e57, hs⟩ := o_bind hs
          refine w_call fnOk43 rfl rfl (ih _ _ h.lt u20 x4.b (h.rdS 7 rfl) u36 x23.b (h.rdS 13 rfl) _ e57) ?_
          rintro _ w ⟨k58, rfl⟩
          refine ⟨_, rfl, ?_⟩
          replace h := h.grow k58
          refine wl_ok (r_pick (b := true) (v := (.bool (y56))) (congrArg Value.bool c55) rfl) (wl_ok (r_assign (v := (.bool (y56))) rfl) (wl_nil (then_normal (wc_ret (fin1 (v := (.bool (y56))) Tryd.results64 rfl (⟨_, rfl, ?_⟩))))))
          refine wl_ok (r_notb rfl) (wl_nil (then_loop ?_))
          exact jend (!y56) ⟨h.cn _, hs⟩
         ·
          refine wl_off (b' := false) rfl (congrArg Value.bool c55) rfl (wl_off (b' := false) rfl (congrArg Value.bool c55) rfl (wl_off (b' := false) rfl (congrArg Value.bool c55) rfl (wl_off (b' := false) rfl (congrArg Value.bool c55) rfl (wl_off (b' := false) rfl (congrArg Value.bool c55) rfl (wl_ok (r_pick (b := false) (v := (.bool (false))) (congrArg Value.bool c55) rfl) (wl_ok (r_assign (v := (.bool (false))) rfl) (wl_nil (then_normal (wc_ret (fin1 (v := (.bool (false))) Tryd.results64 rfl (⟨_, rfl, ?_⟩)))))))))))
          refine wl_ok (r_notb rfl) (wl_nil (then_loop ?_))
          exact jend true ⟨h.cn _, hs⟩
        ·
         refine wl_off (b' := false) rfl (congrArg Value.bool c51) rfl (wl_off (b' := false) rfl (congrArg Value.bool c51) rfl (wl_off (b' := false) rfl (congrArg Value.bool c51) rfl (wl_off (b' := false) rfl (congrArg Value.bool c51) rfl (wl_off (b' := false) rfl (congrArg Value.bool c51) rfl (wl_ok (r_pick (b := false) (v := (.bool (false))) (congrArg Value.bool c51) rfl) (wl_ok (r_move (v := (.bool (false))) rfl) (wl_off (b' := false) rfl rfl rfl (wl_off (b' := false) rfl rfl rfl (wl_off (b' := false) rfl rfl rfl (wl_off (b' := false) rfl rfl rfl (wl_off (b' := false) rfl rfl rfl (wl_ok (r_pick (b := false) (v := (.bool (false))) rfl rfl) (wl_ok (r_assign (v := (.bool (false))) rfl) (wl_nil (then_normal (wc_ret (fin1 (v := (.bool (false))) Tryd.results64 rfl (⟨_, rfl, ?_⟩))))))))))))))))))
         refine wl_ok (r_notb rfl) (wl_nil (then_loop ?_))
         exact jend true ⟨h.cn _, hs⟩
       ·
        refine wl_off (b' := false) rfl (congrArg Value.bool c47) rfl (wl_off (b' := false) rfl (congrArg Value.bool c47) rfl (wl_off (b' := false) rfl (congrArg Value.bool c47) rfl (wl_off (b' := false) rfl (congrArg Value.bool c47) rfl (wl_off (b' := false) rfl (congrArg Value.bool c47) rfl (wl_ok (r_pick (b := false) (v := (.bool (false))) (congrArg Value.bool c47) rfl) (wl_ok (r_move (v := (.bool (false))) rfl) (wl_off (b' := false) rfl rfl rfl (wl_off (b' := false) rfl rfl rfl (wl_off (b' := false) rfl rfl rfl (wl_off (b' := false) rfl rfl rfl (wl_off (b' := false) rfl rfl rfl (wl_ok (r_pick (b := false) (v := (.bool (false))) rfl rfl) (wl_ok (r_move (v := (.bool (false))) rfl) (wl_off (b' := false) rfl rfl rfl (wl_off (b' := false) rfl rfl rfl (wl_off (b' := false) rfl rfl rfl (wl_off (b' := false) rfl rfl rfl (wl_off (b' := false) rfl rfl rfl (wl_ok (r_pick (b := false) (v := (.bool (false))) rfl rfl) (wl_ok (r_assign (v := (.bool (false))) rfl) (wl_nil (then_normal (wc_ret ?_)))))))))))))))))))))))
        refine fin1 (v := (.bool (false))) Tryd.results64 rfl (⟨_, rfl, ?_⟩)
        refine wl_ok (r_notb rfl) (wl_nil (then_loop ?_))
        exact jend true ⟨h.cn _, hs⟩
      ·
       refine wl_off (b' := false) rfl (congrArg Value.bool c43) rfl (wl_off (b' := false) rfl (congrArg Value.bool c43) rfl (wl_off (b' := false) rfl (congrArg Value.bool c43) rfl (wl_off (b' := false) rfl (congrArg Value.bool c43) rfl (wl_off (b' := false) rfl (congrArg Value.bool c43) rfl (wl_ok (r_pick (b := false) (v := (.bool (false))) (congrArg Value.bool c43) rfl) (wl_ok (r_move (v := (.bool (false))) rfl) (wl_off (b' := false) rfl rfl rfl (wl_off (b' := false) rfl rfl rfl (wl_off (b' := false) rfl rfl rfl (wl_off (b' := false) rfl rfl rfl (wl_off (b' := false) rfl rfl rfl (wl_ok (r_pick (b := false) (v := (.bool (false))) rfl rfl) (wl_ok (r_move (v := (.bool (false))) rfl) (wl_off (b' := false) rfl rfl rfl (wl_off (b' := false) rfl rfl rfl (wl_off (b' := false) rfl rfl rfl (wl_off (b' := false) rfl rfl rfl (wl_off (b' := false) rfl rfl rfl (wl_ok (r_pick (b := false) (v := (.bool (false))) rfl rfl) (wl_ok (r_move (v := (.bool (false))) rfl) (wl_off (b' := false) rfl rfl rfl (wl_off (b' := false) rfl rfl rfl (wl_off (b' := false) rfl rfl rfl ?_)))))))))))))))))))))))
       refine wl_off (b' := false) rfl rfl rfl (wl_off (b' := false) rfl rfl rfl (wl_ok (r_pick (b := false) (v := (.bool (false))) rfl rfl) (wl_ok (r_assign (v := (.bool (false))) rfl) (wl_nil (then_normal (wc_ret (fin1 (v := (.bool (false))) Tryd.results64 rfl (⟨_, rfl, ?_⟩))))))))
       refine wl_ok (r_notb rfl) (wl_nil (then_loop ?_))
       exact jend true ⟨h.cn _, hs⟩
    ·
     rw [drop_ge (hik ▸ e7), eachI_nil] at hs
     refine wc_exit (then_exit (then_exit (inBlock_eq (then_normal (wc_seq (wc_region (wl_ok (r_assign (v := (.bool (true))) rfl) (wl_nil (then_normal (wc_ret (fin1 (v := (.bool (true))) Tryd.results63 rfl (⟨_, rfl, ?_⟩))))))))))))
     refine wl_ok (r_assign (v := (.bool (true))) rfl) (wl_nil (then_normal (wc_ret (fin1 (v := (.bool (true))) Tryd.results43 rfl ?_))))
     obtain rfl := Option.some.inj hs
     exact ⟨h.grown, rfl⟩
def source_Same_j22 (nx6 : Unit → Option Bool) (x27 : Bool) : Option Bool :=
  bif x27 then some false else nx6 ()
def source_Same_b23 (N : Nat) (b : List Fun) (i3 : Int) (x4 : Fun) (s : Unit) (nx6 : Unit → Option Bool) : Option Bool :=
  (idx b i3).bind fun x17 => bif (decide ((x4.params : Int) = x17.params) && decide ((x4.locals : Int) = x17.locals)) then (source_same N x4.body x17.body).bind fun y32 => source_Same_j22 nx6 (!y32) else source_Same_j22 nx6 true
def source_Same_k24 (s : Unit) : Option Bool :=
  some true
def source_Same (N : Nat) (a : List Fun) (b : List Fun) : Option Bool :=
  bif decide (((a.length : Int) : Int) ≠ (b.length : Int)) then some false else eachI (source_Same_b23 N b) source_Same_k24 0 a ()
theorem source_Same_c (N : Nat) (w0 : World) (M : BS) (hM : ∀ b, M b → b < w0.heap.size) (va : Value) (a : List Fun) (ha : Rd2 rFun w0 BE M va a) (vb : Value) (b : List Fun) (hb : Rd2 rFun w0 BE M vb b) (r : Bool) (hs : source_Same N a b = some r) :
    Calls Tryd.prog 16 #[va, vb] w0 (fun e w' => Grow w0 w' ∧ e = .returned (.bool r)) := by
 refine calls_start (args := [va, vb]) Tryd.func16 rfl Tryd.ntmps16 (Nat.le_of_ble_eq_true rfl) ?_
 have h := SH.init hM
 replace h := h.argSr 1 ha none_own
 replace h := h.argSr 2 hb (hupd_own_sr none_own)
 have hl_a := ha.len_le
 have hl_b := hb.len_le
 refine wc_seq (wc_region (wl_ok (r_assign (v := (.bool (false))) rfl) (wl_nil (then_normal (wc_seq (wc_region (wl_ok (r_move (v := va) rfl) (wl_ok (r_move (v := vb) rfl) (w_callIn (args := [va, vb, (.func (.func 42) #[] #[])]) fnOk41 rfl rfl (calls_start (args := [va, vb, (.func (.func 42) #[] #[])]) Tryd.func41 rfl Tryd.ntmps41 (Nat.le_of_ble_eq_true rfl) (wc_seq (wc_region (wl_ok (r_assign (v := (.bool (false))) rfl) (wl_nil (then_normal (wc_seq (wc_seq (wc_region (wl_ok (r_move (v := va) rfl) (wl_ok (r_len SliceOf33 rfl (h.srS 1 rfl)) (wl_ok (r_move (v := vb) rfl) (wl_ok (r_len SliceOf33 rfl (h.srS 2 rfl)) (wl_ok (r_neq rfl rfl) ?_)))))))))))))))))))))))
 refine wl_nil (then_normal (wc_ifb hs rfl (fun c1 hs => ?_) (fun c1 hs => ?_)))
 ·
  refine wc_seq (wc_region (wl_ok (r_assign (v := (.bool (false))) rfl) (wl_nil (then_normal (wc_ret (then_ret (fin1 (v := (.bool (false))) Tryd.results41 rfl (⟨_, rfl, ?_⟩))))))))
  refine wl_ok (r_assign (v := (.bool (false))) rfl) (wl_nil (then_normal (wc_ret (fin1 (v := (.bool (false))) Tryd.results16 rfl ?_))))
  obtain rfl := Option.some.inj hs
  exact ⟨h.grown, rfl⟩
 ·
  refine wc_skip (then_normal (wc_seq (wc_seq (wc_region (wl_ok (r_move (v := va) rfl) (wl_ok (r_len SliceOf33 rfl (h.srS 1 rfl)) (wl_ok (r_move (v := (.int .i64 (0))) rfl) (wl_nil (then_normal (wc_block (wc_lp (σ := Nat × Int) (inl [6, 7, 8, 9, 17, 18, 19, 20, 21, 22, 23, 24, 25, 26, 27, 28, 29, 30, 31]) (fun ⟨k2, i3⟩ => [(17, (.int .i64 (i3)))]) (fun ⟨k2, i3⟩ w => SH w0 M BE w (hset [(1, .sr rFun va a), (2, .sr rFun vb b)]) ∧ i3 = (k2 : Int) ∧ eachI (source_Same_b23 N b) source_Same_k24 i3 (a.drop k2) () = some r) (fun ⟨k2, i3⟩ => a.length - k2) ⟨0, 0⟩ ⟨rfl, trivial⟩ ?_ ?_)))))))))))
  ·
   exact ⟨h.cn _, rfl, hs⟩
  ·
   rintro ⟨k2, i3⟩ w junk ⟨h, hik, hs⟩
   refine wc_seq (wc_region ?_)
   refine wl_ok (r_lss rfl rfl) (wl_nil (then_normal ?_))
   refine wc_seq (wc_if rfl (fun e7 => ?_) (fun e7 => ?_))
   ·
    refine wc_skip (then_normal ?_)
    obtain ⟨x4, e8a, e8b⟩ := drop_lt (hik ▸ e7)
    rw [e8b, eachI_cons] at hs
    generalize hnx6 : eachI (source_Same_b23 N b) source_Same_k24 (i3 + 1) (a.drop (k2 + 1)) = nx6 at hs
    have e8r := nat_rng ((h.srS 1 rfl)).len_le hik e7
    refine wc_seq (wc_block (wc_seq (wc_region (wl_ok (r_move (v := (.int .i64 (i3))) rfl) ?_))))
    obtain ⟨b10, o11, cs12, h, r13, i9⟩ := h.ixS 1 3 rfl SliceOf33 rfl (nat_nn hik) (get_nat hik e8a)
    obtain ⟨u14, rfl, g15⟩ := rFun_open r13
    replace h := h.knowRd 4 g15.up
    refine wl_ok (i9 _ _ _ _ _ _ _ _ _ rfl rfl) (wl_ok (r_ldPN (k := 0) (vs := [(.int .i64 (x4.params)), (.int .i64 (x4.locals)), u14]) h 3 rfl Many75 rfl rfl rfl (Nat.le_of_ble_eq_true rfl)) (w_allocN h 5 Many75 fun w b16 h => wl_ok (r_assign (v := (.int .i64 (i3))) rfl) (w_stN (vs := [(.int .i64 (x4.params)), (.int .i64 (x4.locals)), u14]) h 5 [(.int .i64 (x4.params)), (.int .i64 (x4.locals)), u14] rfl Many75 rfl rfl rfl rfl rfl (ones_cons rfl (ones_cons rfl (ones_cons (h.rdAt 4 rfl).one ones_nil))) fun w h => wl_nil (then_normal (wc_seq (wc_region (wl_ok (r_move (v := vb) rfl) (wl_ok (r_move (v := (.int .i64 (i3))) rfl) ?_))))))))
    obtain ⟨x17, e18, hs⟩ := o_bind hs
    obtain ⟨b20, o21, cs22, h, r23, i19⟩ := h.ixS 2 6 rfl SliceOf33 rfl (o_idx e18).1 (o_idx e18).2
    obtain ⟨u24, rfl, g25⟩ := rFun_open r23
    replace h := h.knowRd 7 g25.up
    refine wl_ok (i19 _ _ _ _ _ _ _ _ _ rfl rfl) (wl_ok (r_ldPN (k := 0) (vs := [(.int .i64 (x17.params)), (.int .i64 (x17.locals)), u24]) h 6 rfl Many75 rfl rfl rfl (Nat.le_of_ble_eq_true rfl)) (w_allocN h 8 Many75 fun w b26 h => w_stN (vs := [(.int .i64 (x17.params)), (.int .i64 (x17.locals)), u24]) h 8 [(.int .i64 (x17.params)), (.int .i64 (x17.locals)), u24] rfl Many75 rfl rfl rfl rfl rfl (ones_cons rfl (ones_cons rfl (ones_cons (h.rdAt 7 rfl).one ones_nil))) fun w h => wl_nil (then_normal (wc_join (σ := Bool) (inl [26, 27, 28, 29, 30]) (fun x27 => [(30, (.bool (x27)))]) (fun x27 w => SH w0 M BE w (hset [(1, .sr rFun va a), (2, .sr rFun vb b)]) ∧ source_Same_j22 nx6 x27 = some r) ?_ ?_))))
    ·
     rintro x27 w junk ⟨h, hs⟩
     refine wc_ifb hs rfl (fun c28 hs => ?_) (fun c28 hs => ?_)
     ·
      refine wc_seq (wc_region (wl_ok (r_assign (v := (.bool (false))) rfl) (wl_nil (then_normal (wc_ret (inBlock_ret (then_ret (then_ret (inBlock_ret (then_ret (fin1 (v := (.bool (false))) Tryd.results41 rfl (⟨_, rfl, ?_⟩))))))))))))
      refine wl_ok (r_assign (v := (.bool (false))) rfl) (wl_nil (then_normal (wc_ret (fin1 (v := (.bool (false))) Tryd.results16 rfl ?_))))
      obtain rfl := Option.some.inj hs
      exact ⟨h.grown, rfl⟩
     ·
      refine wc_skip (inBlock_normal (then_normal (wc_region (wl_ok (r_add rfl rfl e8r) (wl_ok (r_move (v := (.int .i64 ((i3 + 1)))) rfl) (wl_nil (then_loop ?_)))))))
      subst hnx6
      exact lend ⟨k2 + 1, i3 + 1⟩ ⟨h.cn _, by omega, hs⟩ (by have := of_decide_eq_true e7; dsimp only; omega)
    ·
     refine wc_region (wl_ok (r_move (v := (.func (.func 42) #[] #[])) rfl) (wl_ok (r_ldBN (vs := [(.int .i64 (x4.params)), (.int .i64 (x4.locals)), u14]) h 5 rfl Many75 rfl rfl rfl) (wl_ok (r_ldBN (vs := [(.int .i64 (x17.params)), (.int .i64 (x17.locals)), u24]) h 8 rfl Many75 rfl rfl rfl) (w_callIn (args := [(.agg #[(.int .i64 (x4.params)), (.int .i64 (x4.locals)), u14]), (.agg #[(.int .i64 (x17.params)), (.int .i64 (x17.locals)), u24])]) fnOk42 rfl rfl (calls_start (args := [(.agg #[(.int .i64 (x4.params)), (.int .i64 (x4.locals)), u14]), (.agg #[(.int .i64 (x17.params)), (.int .i64 (x17.locals)), u24])]) Tryd.func42 rfl Tryd.ntmps42 (Nat.le_of_ble_eq_true rfl) (wc_seq (wc_region (w_box (cs := [(.int .i64 (x4.params)), (.int .i64 (x4.locals)), u14]) h 9 rfl rfl fun w b29 h => w_box (cs := [(.int .i64 (x17.params)), (.int .i64 (x17.locals)), u24]) h 10 rfl rfl fun w b30 h => wl_ok (r_assign (v := (.bool (false))) rfl) (wl_nil (then_normal (wc_seq (wc_region (wl_ok (r_fieldAddr Fld75x0 rfl) (wl_ok (r_ldB h 9 rfl One3 rfl rfl) (wl_ok (r_fieldAddr Fld75x0 rfl) (wl_ok (r_ldB h 10 rfl One3 rfl rfl) (wl_ok (r_eql rfl rfl) (wl_ok (r_move (v := (.bool (decide ((x4.params : Int) = x17.params)))) rfl) (wl_gd0 rfl rfl (fun q => r_fieldAddr Fld75x1 rfl) (wl_gd0 rfl rfl (fun q => r_ldB h 9 rfl One3 (gvt q) rfl) (wl_gd0 rfl rfl (fun q => r_fieldAddr Fld75x1 rfl) ?_)))))))))))))))))))))
     refine wl_gd0 rfl rfl (fun q => r_ldB h 10 rfl One3 (gvt q) rfl) (wl_gd0 rfl rfl (fun q => r_eql (gvt q) (gvt q)) (wl_ok (r_pand rfl rfl evc) (wl_ok (r_move (v := (.bool ((decide ((x4.params : Int) = x17.params) && decide ((x4.locals : Int) = x17.locals))))) rfl) (c_split (b := (decide ((x4.params : Int) = x17.params) && decide ((x4.locals : Int) = x17.locals))) hs (fun c31 hs => ?_) (fun c31 hs => ?_)))))
     ·
      refine wl_on rfl (congrArg Value.bool c31) (wl_ok (r_fieldAddr Fld75x2 rfl) (wl_on rfl (congrArg Value.bool c31) (wl_ok (r_ldB h 9 rfl One73 rfl rfl) (wl_on rfl (congrArg Value.bool c31) (wl_ok (r_fieldAddr Fld75x2 rfl) (wl_on rfl (congrArg Value.bool c31) (wl_ok (r_ldB h 10 rfl One73 rfl rfl) (wl_on rfl (congrArg Value.bool c31) ?_))))))))
      obtain ⟨y32, e33, hs⟩ := o_bind hs
      refine w_call fnOk43 rfl rfl (source_same_c N _ _ h.lt u14 x4.body (h.rdS 4 rfl) u24 x17.body (h.rdS 7 rfl) _ e33) ?_
      rintro _ w ⟨k34, rfl⟩
      refine ⟨_, rfl, ?_⟩
      replace h := h.grow k34
      refine wl_ok (r_pick (b := true) (v := (.bool (y32))) (congrArg Value.bool c31) rfl) (wl_ok (r_assign (v := (.bool (y32))) rfl) (wl_nil (then_normal (wc_ret (fin1 (v := (.bool (y32))) Tryd.results42 rfl (⟨_, rfl, ?_⟩))))))
      refine wl_ok (r_notb rfl) (wl_nil (then_loop ?_))
      exact jend (!y32) ⟨h.cn _, hs⟩
     ·
      refine wl_off (b' := false) rfl (congrArg Value.bool c31) rfl (wl_off (b' := false) rfl (congrArg Value.bool c31) rfl (wl_off (b' := false) rfl (congrArg Value.bool c31) rfl (wl_off (b' := false) rfl (congrArg Value.bool c31) rfl (wl_off (b' := false) rfl (congrArg Value.bool c31) rfl (wl_ok (r_pick (b := false) (v := (.bool (false))) (congrArg Value.bool c31) rfl) (wl_ok (r_assign (v := (.bool (false))) rfl) (wl_nil (then_normal (wc_ret (fin1 (v := (.bool (false))) Tryd.results42 rfl (⟨_, rfl, ?_⟩)))))))))))
      refine wl_ok (r_notb rfl) (wl_nil (then_loop ?_))
      exact jend true ⟨h.cn _, hs⟩
   ·
    rw [drop_ge (hik ▸ e7), eachI_nil] at hs
    refine wc_exit (then_exit (then_exit (inBlock_eq (then_normal (wc_seq (wc_region (wl_ok (r_assign (v := (.bool (true))) rfl) (wl_nil (then_normal (wc_ret (fin1 (v := (.bool (true))) Tryd.results41 rfl (⟨_, rfl, ?_⟩))))))))))))
    refine wl_ok (r_assign (v := (.bool (true))) rfl) (wl_nil (then_normal (wc_ret (fin1 (v := (.bool (true))) Tryd.results16 rfl ?_))))
    obtain rfl := Option.some.inj hs
    exact ⟨h.grown, rfl⟩
def wandererlaw_WordsBack_j4 (N : Nat) (c : Str) : Option Bool :=
  (words_Parse N c).bind fun y9 => bif decide ((y9.2 : Int) ≠ 0) then some true else (words_Print N y9.1).bind fun y16 => some (decide ((y16.2 : Int) = 0) && decide ((y16.1 : Str) = c))
def wandererlaw_WordsBack_j5 (N : Nat) (c : Str) (x26 : Bool) : Option Bool :=
  bif x26 then some false else wandererlaw_WordsBack_j4 N c
def wandererlaw_WordsBack_j2 (N : Nat) (y1 : Str × Int) (c : Str) (a : List Fun) (x7 : Bool) : Option Bool :=
  bif x7 then some false else bif (decide ((y1.2 : Int) = 0) && decide (((y1.1.length : Int) : Int) ≤ 60000)) then (words_Parse N y1.1).bind fun y20 => bif decide ((y20.2 : Int) ≠ 0) then wandererlaw_WordsBack_j5 N c true else (source_Same N y20.1 a).bind fun y29 => wandererlaw_WordsBack_j5 N c (!y29) else wandererlaw_WordsBack_j4 N c
def wandererlaw_WordsBack (N : Nat) (a : List Fun) (b : List Fun) (c : Str) : Option Bool :=
  (words_Print N a).bind fun y1 => (words_Print N b).bind fun y4 => (wandererlaw_written N).bind fun y32 => bif (!y32) then wandererlaw_WordsBack_j2 N y1 c a true else bif (decide ((y1.2 : Int) = 0) && decide ((y4.2 : Int) = 0)) then (source_Same N a b).bind fun y37 => wandererlaw_WordsBack_j2 N y1 c a (decide ((y1.1 : Str) = y4.1) != y37) else wandererlaw_WordsBack_j2 N y1 c a false
theorem wandererlaw_WordsBack_c (N : Nat) (w0 : World) (M : BS) (hM : ∀ b, M b → b < w0.heap.size) (hT : Tabs Tryd.prog 0 w0) (va : Value) (a : List Fun) (ha : Rd2 rFun w0 BE M va a) (vb : Value) (b : List Fun) (hb : Rd2 rFun w0 BE M vb b) (c : Str) (r : Bool) (hs : wandererlaw_WordsBack N a b c = some r) :
    Calls Tryd.prog 5 #[va, vb, (strV c)] w0 (fun e w' => Grow w0 w' ∧ e = .returned (.bool r)) := by
 refine calls_start (args := [va, vb, (strV c)]) Tryd.func5 rfl Tryd.ntmps5 (Nat.le_of_ble_eq_true rfl) ?_
 have h := SH.init hM
 replace h := h.argSr 1 ha none_own
 replace h := h.argSr 2 hb (hupd_own_sr none_own)
 have hl_a := ha.len_le
 have hl_b := hb.len_le
 refine wc_seq (wc_region (wl_ok (r_assign (v := (.bool (false))) rfl) (wl_nil (then_normal (wc_seq (wc_region (wl_ok (r_move (v := va) rfl) ?_)))))))
 obtain ⟨y1, e2, hs⟩ := o_bind hs
 refine w_call fnOk14 rfl rfl (words_Print_c N _ _ h.lt (hT.go h.keep) va a (h.srS 1 rfl) _ e2) ?_
 rintro _ w ⟨k3, rfl⟩
 refine ⟨_, rfl, ?_⟩
 replace h := h.grow k3
 refine wl_ok (r_move (v := (.tuple #[(strV y1.1), (.int .i64 (y1.2))])) rfl) (wl_ok (r_extract rfl rfl) (wl_ok (r_extract rfl rfl) (wl_ok (r_assign (v := (strV y1.1)) rfl) (wl_ok (r_assign (v := (.int .i64 (y1.2))) rfl) (wl_nil (then_normal (wc_seq (wc_region (wl_ok (r_move (v := vb) rfl) ?_)))))))))
 obtain ⟨y4, e5, hs⟩ := o_bind hs
 refine w_call fnOk14 rfl rfl (words_Print_c N _ _ h.lt (hT.go h.keep) vb b (h.srS 2 rfl) _ e5) ?_
 rintro _ w ⟨k6, rfl⟩
 refine ⟨_, rfl, ?_⟩
 replace h := h.grow k6
 refine wl_ok (r_move (v := (.tuple #[(strV y4.1), (.int .i64 (y4.2))])) rfl) (wl_ok (r_extract rfl rfl) (wl_ok (r_extract rfl rfl) (wl_ok (r_assign (v := (strV y4.1)) rfl) (wl_ok (r_assign (v := (.int .i64 (y4.2))) rfl) (wl_nil (then_normal (wc_seq (wc_join (σ := Bool) (inl [24, 25, 26, 27, 28, 29, 30, 31, 32, 33, 34, 35, 36, 37, 38, 39, 40, 41, 42]) (fun x7 => [(42, (.bool (x7)))]) (fun x7 w => SH w0 M BE w (hset [(1, .sr rFun va a)]) ∧ wandererlaw_WordsBack_j2 N y1 c a x7 = some r) ?_ ?_))))))))
 ·
  rintro x7 w junk ⟨h, hs⟩
  refine wc_ifb hs rfl (fun c8 hs => ?_) (fun c8 hs => ?_)
  ·
   refine wc_seq (wc_region (wl_ok (r_assign (v := (.bool (false))) rfl) (wl_nil (then_normal (wc_ret (then_ret (fin1 (v := (.bool (false))) Tryd.results5 rfl ?_)))))))
   obtain rfl := Option.some.inj hs
   exact ⟨h.grown, rfl⟩
  ·
   refine wc_skip (then_normal (wc_join (σ := Unit) (inl [6, 11, 12, 43, 44, 45, 46, 47, 48, 49, 50, 51, 52, 53, 54, 55, 56, 57, 58, 59, 60, 61, 62]) (fun _ => []) (fun _ w => SH w0 M BE w (hset []) ∧ wandererlaw_WordsBack_j4 N c = some r) ?_ ?_))
   ·
    rintro ⟨⟩ w junk ⟨h, hs⟩
    refine wc_seq (wc_region (wl_ok (r_move (v := (strV c)) rfl) ?_))
    obtain ⟨y9, e10, hs⟩ := o_bind hs
    refine w_call fnOk17 rfl rfl (words_Parse_c N _ _ h.lt (hT.go h.keep) c _ e10) ?_
    rintro _ w ⟨k14, u11, rfl, g12, g13⟩
    refine ⟨_, rfl, ?_⟩
    replace h := h.gotOwn 3 k14 g12 g13
    refine wl_ok (r_move (v := (.tuple #[u11, (.int .i64 (y9.2))])) rfl) (wl_ok (r_extract rfl rfl) (wl_ok (r_extract rfl rfl) (wl_ok (r_assign (v := u11) rfl) (wl_ok (r_assign (v := (.int .i64 (y9.2))) rfl) (wl_nil (then_normal (wc_seq (wc_seq (wc_region (wl_ok (r_move (v := (.int .i64 (y9.2))) rfl) (wl_ok (r_neq rfl rfl) (wl_nil (then_normal (wc_ifb hs rfl (fun c15 hs => ?_) (fun c15 hs => ?_)))))))))))))))
    ·
     refine wc_seq (wc_region (wl_ok (r_assign (v := (.bool (true))) rfl) (wl_nil (then_normal (wc_ret (then_ret (fin1 (v := (.bool (true))) Tryd.results5 rfl ?_)))))))
     obtain rfl := Option.some.inj hs
     exact ⟨h.grown, rfl⟩
    ·
     refine wc_skip (then_normal (wc_seq (wc_region (wl_ok (r_move (v := u11) rfl) ?_))))
     obtain ⟨y16, e17, hs⟩ := o_bind hs
     refine w_call fnOk14 rfl rfl (words_Print_c N _ _ h.lt (hT.go h.keep) u11 y9.1 (h.ownS 3 rfl) _ e17) ?_
     rintro _ w ⟨k18, rfl⟩
     refine ⟨_, rfl, ?_⟩
     replace h := h.grow k18
     refine wl_ok (r_move (v := (.tuple #[(strV y16.1), (.int .i64 (y16.2))])) rfl) (wl_ok (r_extract rfl rfl) (wl_ok (r_extract rfl rfl) (wl_ok (r_assign (v := (strV y16.1)) rfl) (wl_ok (r_assign (v := (.int .i64 (y16.2))) rfl) (wl_nil (then_normal (wc_seq (wc_region (wl_ok (r_move (v := (.int .i64 (y16.2))) rfl) (wl_ok (r_eql rfl rfl) (wl_ok (r_move (v := (.bool (decide ((y16.2 : Int) = 0)))) rfl) (wl_gd0 rfl rfl (fun q => r_move (v := (strV y16.1)) rfl) (wl_gd0 rfl rfl (fun q => r_move (v := (strV c)) rfl) (wl_gd0 rfl rfl (fun q => r_eqls (gvt q) (gvt q)) (wl_ok (r_pand rfl rfl evc) (wl_ok (r_assign (v := (.bool ((decide ((y16.2 : Int) = 0) && decide ((y16.1 : Str) = c))))) rfl) (wl_nil (then_normal (wc_ret (fin1 (v := (.bool ((decide ((y16.2 : Int) = 0) && decide ((y16.1 : Str) = c))))) Tryd.results5 rfl ?_))))))))))))))))))))
     obtain rfl := Option.some.inj hs
     exact ⟨h.grown, rfl⟩
   ·
    refine wc_seq (wc_region (wl_ok (r_move (v := (.int .i64 (y1.2))) rfl) (wl_ok (r_eql rfl rfl) (wl_ok (r_move (v := (.bool (decide ((y1.2 : Int) = 0)))) rfl) (wl_gd0 rfl rfl (fun q => r_move (v := (strV y1.1)) rfl) (wl_gd0 rfl rfl (fun q => r_lenS Tryd.underlying9 (gvt q)) (wl_gd0 rfl rfl (fun q => r_leq (gvt q) rfl) (wl_ok (r_pand rfl rfl evc) (wl_nil (then_normal (wc_ifb hs rfl (fun c19 hs => ?_) (fun c19 hs => ?_))))))))))))
    ·
     refine wc_seq (wc_region (wl_ok (r_move (v := (strV y1.1)) rfl) ?_))
     obtain ⟨y20, e21, hs⟩ := o_bind hs
     refine w_call fnOk17 rfl rfl (words_Parse_c N _ _ h.lt (hT.go h.keep) y1.1 _ e21) ?_
     rintro _ w ⟨k25, u22, rfl, g23, g24⟩
     refine ⟨_, rfl, ?_⟩
     replace h := h.gotOwn 4 k25 g23 g24
     refine wl_ok (r_move (v := (.tuple #[u22, (.int .i64 (y20.2))])) rfl) (wl_ok (r_extract rfl rfl) (wl_ok (r_extract rfl rfl) (wl_ok (r_assign (v := u22) rfl) (wl_ok (r_assign (v := (.int .i64 (y20.2))) rfl) (wl_nil (then_normal (wc_join (σ := Bool) (inl [55, 56, 57, 58, 59, 60, 61, 62]) (fun x26 => [(62, (.bool (x26)))]) (fun x26 w => SH w0 M BE w (hset []) ∧ wandererlaw_WordsBack_j5 N c x26 = some r) ?_ ?_)))))))
     ·
      rintro x26 w junk ⟨h, hs⟩
      refine wc_ifb hs rfl (fun c27 hs => ?_) (fun c27 hs => ?_)
      ·
       refine wc_seq (wc_region (wl_ok (r_assign (v := (.bool (false))) rfl) (wl_nil (then_normal (wc_ret (then_ret (fin1 (v := (.bool (false))) Tryd.results5 rfl ?_)))))))
       obtain rfl := Option.some.inj hs
       exact ⟨h.grown, rfl⟩
      ·
       refine wc_skip (then_loop ?_)
       exact jend () ⟨h.cn _, hs⟩
     ·
      refine wc_region (wl_ok (r_move (v := (.int .i64 (y20.2))) rfl) (wl_ok (r_neq rfl rfl) (wl_ok (r_move (v := (.bool (decide ((y20.2 : Int) ≠ 0)))) rfl) (c_split (b := decide ((y20.2 : Int) ≠ 0)) hs (fun c28 hs => ?_) (fun c28 hs => ?_)))))
      ·
       refine wl_off (b' := true) rfl (congrArg Value.bool c28) rfl (wl_off (b' := true) rfl (congrArg Value.bool c28) rfl (wl_off (b' := true) rfl (congrArg Value.bool c28) rfl (wl_off (b' := true) rfl (congrArg Value.bool c28) rfl (wl_ok (r_pick (b := true) (v := (.bool (true))) (congrArg Value.bool c28) rfl) (wl_nil (then_loop ?_))))))
       exact jend true ⟨h.cn _, hs⟩
      ·
       refine wl_on rfl (congrArg Value.bool c28) (wl_ok (r_move (v := u22) rfl) (wl_on rfl (congrArg Value.bool c28) (wl_ok (r_move (v := va) rfl) (wl_on rfl (congrArg Value.bool c28) ?_))))
       obtain ⟨y29, e30, hs⟩ := o_bind hs
       refine w_call fnOk16 rfl rfl (source_Same_c N _ _ h.lt u22 y20.1 (h.ownS 4 rfl) va a (h.srS 1 rfl) _ e30) ?_
       rintro _ w ⟨k31, rfl⟩
       refine ⟨_, rfl, ?_⟩
       replace h := h.grow k31
       refine wl_on rfl (congrArg Value.bool c28) (wl_ok (r_notb rfl) (wl_ok (r_pick (b := false) (v := (.bool ((!y29)))) (congrArg Value.bool c28) rfl) (wl_nil (then_loop ?_))))
       exact jend (!y29) ⟨h.cn _, hs⟩
    ·
     refine wc_skip (then_loop ?_)
     exact jend () ⟨h.cn _, hs⟩
 ·
  refine wc_region ?_
  obtain ⟨y32, e33, hs⟩ := o_bind hs
  refine w_call fnOk15 rfl rfl (wandererlaw_written_c N _ _ h.lt (hT.go h.keep)  _ e33) ?_
  rintro _ w ⟨k34, rfl⟩
  refine ⟨_, rfl, ?_⟩
  replace h := h.grow k34
  refine wl_ok (r_notb rfl) (wl_ok (r_move (v := (.bool ((!y32)))) rfl) (c_split (b := (!y32)) hs (fun c35 hs => ?_) (fun c35 hs => ?_)))
  ·
   refine wl_off (b' := true) rfl (congrArg Value.bool c35) rfl (wl_off (b' := true) rfl (congrArg Value.bool c35) rfl (wl_off (b' := true) rfl (congrArg Value.bool c35) rfl (wl_offU rfl rfl (wl_offU rfl rfl (wl_off (b' := true) rfl (congrArg Value.bool c35) rfl (wl_off (b' := true) rfl (congrArg Value.bool c35) rfl (wl_offU rfl rfl (wl_offU rfl rfl (wl_offU rfl rfl (wl_offU rfl rfl (wl_offU rfl rfl (wl_offU rfl rfl (wl_offU rfl rfl (wl_off (b' := true) rfl (congrArg Value.bool c35) rfl (wl_ok (r_pick (b := true) (v := (.bool (true))) (congrArg Value.bool c35) rfl) (wl_nil (then_loop ?_)))))))))))))))))
   exact jend true ⟨h.cn _, hs⟩
  ·
   refine wl_on rfl (congrArg Value.bool c35) (wl_ok (r_move (v := (.int .i64 (y1.2))) rfl) (wl_on rfl (congrArg Value.bool c35) (wl_ok (r_eql rfl rfl) (wl_on rfl (congrArg Value.bool c35) (wl_ok (r_move (v := (.bool (decide ((y1.2 : Int) = 0)))) rfl) (wl_gd0 rfl rfl (fun q => r_move (v := (.int .i64 (y4.2))) rfl) (wl_gd0 rfl rfl (fun q => r_eql (gvt q) rfl) (wl_on rfl (congrArg Value.bool c35) (wl_ok (r_pand rfl rfl evc) (wl_on rfl (congrArg Value.bool c35) (wl_ok (r_move (v := (.bool ((decide ((y1.2 : Int) = 0) && decide ((y4.2 : Int) = 0))))) rfl) (c_split (b := (decide ((y1.2 : Int) = 0) && decide ((y4.2 : Int) = 0))) hs (fun c36 hs => ?_) (fun c36 hs => ?_)))))))))))))
   ·
    refine wl_on rfl (congrArg Value.bool c36) (wl_ok (r_move (v := (strV y1.1)) rfl) (wl_on rfl (congrArg Value.bool c36) (wl_ok (r_move (v := (strV y4.1)) rfl) (wl_on rfl (congrArg Value.bool c36) (wl_ok (r_eqls rfl rfl) (wl_on rfl (congrArg Value.bool c36) (wl_ok (r_move (v := va) rfl) (wl_on rfl (congrArg Value.bool c36) (wl_ok (r_move (v := vb) rfl) (wl_on rfl (congrArg Value.bool c36) ?_))))))))))
    obtain ⟨y37, e38, hs⟩ := o_bind hs
    refine w_call fnOk16 rfl rfl (source_Same_c N _ _ h.lt va a (h.srS 1 rfl) vb b (h.srS 2 rfl) _ e38) ?_
    rintro _ w ⟨k39, rfl⟩
    refine ⟨_, rfl, ?_⟩
    replace h := h.grow k39
    refine wl_on rfl (congrArg Value.bool c36) (wl_ok (r_neqb Tryd.underlying4 rfl rfl) (wl_on rfl (congrArg Value.bool c35) (wl_ok (r_pick (b := true) (v := (.bool ((decide ((y1.1 : Str) = y4.1) != y37)))) (congrArg Value.bool c36) rfl) (wl_ok (r_pick (b := false) (v := (.bool ((decide ((y1.1 : Str) = y4.1) != y37)))) (congrArg Value.bool c35) rfl) (wl_nil (then_loop ?_))))))
    exact jend (decide ((y1.1 : Str) = y4.1) != y37) ⟨h.cn _, hs⟩
   ·
    refine wl_off (b' := false) rfl (congrArg Value.bool c36) rfl (wl_off (b' := false) rfl (congrArg Value.bool c36) rfl (wl_off (b' := false) rfl (congrArg Value.bool c36) rfl (wl_off (b' := false) rfl (congrArg Value.bool c36) rfl (wl_off (b' := false) rfl (congrArg Value.bool c36) rfl (wl_off (b' := false) rfl (congrArg Value.bool c36) rfl (wl_off (b' := false) rfl (congrArg Value.bool c36) rfl (wl_on rfl (congrArg Value.bool c35) (wl_ok (r_pick (b := false) (v := (.bool (false))) (congrArg Value.bool c36) rfl) (wl_ok (r_pick (b := false) (v := (.bool (false))) (congrArg Value.bool c35) rfl) (wl_nil (then_loop ?_)))))))))))
    exact jend false ⟨h.cn _, hs⟩
end Go.Proofs.YtckocfgmnlhcmaaDoor
